/-
  Part of the proof that the law FnRepair returns true at every input; no condition beside the row's own.
-/
import Derived.Test.YtfmhphgpijjejaaGreatBa
set_option linter.defProp false
set_option linter.unusedSimpArgs false
set_option linter.unusedVariables false
set_option maxHeartbeats 1000000
set_option maxRecDepth 8000
namespace Vs
open Go Go.Proofs
attribute [local irreducible] AWP dU eff sq fw callM
theorem VT1:(∀(f:Fl)(x:az),ai f x=.agg [.i x.A,.i x.B,.i x.Length,.i x.Risk])/\
 (∀(f:Fl)(x:af),aV f x=.agg [.lst f 1 (x.Nodes.map AV.z),.lst f 4 (x.Fibers.map (ai f))])/\
 (∀(f:Fl)(x:au),aC f x=.agg [.i x.Start,.lst f 1 (x.Fibers.map AV.i)])/\
 (∀(f:Fl)(x:aM),aZ f x=.agg [.i x.First,.i x.Count])/\
 (∀(f:Fl)(x:ah),aj f x=.agg [.i x.Id,.i x.Class,.i x.Work.Start,.lst f 1 (x.Work.Fibers.map AV.i),.i x.WorkBlock.First,.i x.WorkBlock.Count,.i x.Spare.Start,.lst f 1 (x.Spare.Fibers.map AV.i),.i x.SpareBlock.First,.i x.SpareBlock.Count])/\
 (∀(f:Fl)(x:aw),bh f x=.agg [.lst f 1 (x.code.map AV.u8),.i x.atF,.sc (.int .u64 x.seed)])/\
 (∀(f:Fl)(x:aU),aE f x=.agg [.i x.Reach,.i x.Rate])/\
 (∀(f:Fl)(x:be),aW f x=.agg [.i x.From,.i x.To,.i x.Rate,.i x.Class])/\
 (∀(f:Fl)(x:bC),aP f x=.agg [.lst f 1 (x.n.Nodes.map AV.z),.lst f 4 (x.n.Fibers.map (ai f)),.i x.toF,.lst f 2 (x.list.map (aC f))])/\
 (∀(f:Fl)(x:List Int),bI f x=.lst f 1 (x.map AV.i))/\
 (∀(f:Fl)(x:cg),bg f x=.agg [.i x.Id,.i x.Route.Start,.lst f 1 (x.Route.Fibers.map AV.i),.i x.Block.First,.i x.Block.Count]):=⟨fun _ _=>rfl,fun _ _=>rfl,fun _ _=>rfl,fun _ _=>rfl,fun _ _=>rfl,fun _ _=>rfl,fun _ _=>rfl,fun _ _=>rfl,fun _ _=>rfl,fun _ _=>rfl,fun _ _=>rfl⟩
theorem VT2:(∀(f:Fl)(x:az),(ai f x).nrm=ai .o x)/\
 (∀(f:Fl)(xs:List az),(xs.map (ai f)).map AV.nrm=xs.map (ai .o))/\
 (∀(f:Fl)(x:az),(ai f x).als=ai f.als x)/\
 (∀(f:Fl)(xs:List az),(xs.map (ai f)).map AV.als=xs.map (ai f.als))/\
 (∀(f:Fl),AV.als∘ai f=ai f.als)/\
 (∀(f:Fl)(x:az),(ai f x).fix=ai f.fix x)/\
 (∀(f:Fl)(xs:List az),(xs.map (ai f)).map AV.fix=xs.map (ai f.fix))/\
 (∀(f:Fl)(x:af),(aV f x).nrm=aV .o x)/\
 (∀(f:Fl)(xs:List af),(xs.map (aV f)).map AV.nrm=xs.map (aV .o))/\
 (∀(f:Fl)(x:af),(aV f x).als=aV f.als x)/\
 (∀(f:Fl)(xs:List af),(xs.map (aV f)).map AV.als=xs.map (aV f.als))/\
 (∀(f:Fl),AV.als∘aV f=aV f.als)/\
 (∀(f:Fl)(x:af),(aV f x).fix=aV f.fix x)/\
 (∀(f:Fl)(xs:List af),(xs.map (aV f)).map AV.fix=xs.map (aV f.fix))/\
 (∀(f:Fl)(x:au),(aC f x).nrm=aC .o x)/\
 (∀(f:Fl)(xs:List au),(xs.map (aC f)).map AV.nrm=xs.map (aC .o))/\
 (∀(f:Fl)(x:au),(aC f x).als=aC f.als x)/\
 (∀(f:Fl)(xs:List au),(xs.map (aC f)).map AV.als=xs.map (aC f.als))/\
 (∀(f:Fl),AV.als∘aC f=aC f.als)/\
 (∀(f:Fl)(x:au),(aC f x).fix=aC f.fix x)/\
 (∀(f:Fl)(xs:List au),(xs.map (aC f)).map AV.fix=xs.map (aC f.fix))/\
 (∀(f:Fl)(x:aM),(aZ f x).nrm=aZ .o x)/\
 (∀(f:Fl)(xs:List aM),(xs.map (aZ f)).map AV.nrm=xs.map (aZ .o))/\
 (∀(f:Fl)(x:aM),(aZ f x).als=aZ f.als x)/\
 (∀(f:Fl)(xs:List aM),(xs.map (aZ f)).map AV.als=xs.map (aZ f.als))/\
 (∀(f:Fl),AV.als∘aZ f=aZ f.als)/\
 (∀(f:Fl)(x:aM),(aZ f x).fix=aZ f.fix x)/\
 (∀(f:Fl)(xs:List aM),(xs.map (aZ f)).map AV.fix=xs.map (aZ f.fix))/\
 (∀(f:Fl)(x:ah),(aj f x).nrm=aj .o x)/\
 (∀(f:Fl)(xs:List ah),(xs.map (aj f)).map AV.nrm=xs.map (aj .o))/\
 (∀(f:Fl)(x:ah),(aj f x).als=aj f.als x)/\
 (∀(f:Fl)(xs:List ah),(xs.map (aj f)).map AV.als=xs.map (aj f.als))/\
 (∀(f:Fl),AV.als∘aj f=aj f.als)/\
 (∀(f:Fl)(x:ah),(aj f x).fix=aj f.fix x)/\
 (∀(f:Fl)(xs:List ah),(xs.map (aj f)).map AV.fix=xs.map (aj f.fix))/\
 (∀(f:Fl)(x:aw),(bh f x).nrm=bh .o x)/\
 (∀(f:Fl)(xs:List aw),(xs.map (bh f)).map AV.nrm=xs.map (bh .o))/\
 (∀(f:Fl)(x:aw),(bh f x).als=bh f.als x)/\
 (∀(f:Fl)(xs:List aw),(xs.map (bh f)).map AV.als=xs.map (bh f.als))/\
 (∀(f:Fl),AV.als∘bh f=bh f.als)/\
 (∀(f:Fl)(x:aw),(bh f x).fix=bh f.fix x)/\
 (∀(f:Fl)(xs:List aw),(xs.map (bh f)).map AV.fix=xs.map (bh f.fix))/\
 (∀(f:Fl)(x:aU),(aE f x).nrm=aE .o x)/\
 (∀(f:Fl)(xs:List aU),(xs.map (aE f)).map AV.nrm=xs.map (aE .o))/\
 (∀(f:Fl)(x:aU),(aE f x).als=aE f.als x)/\
 (∀(f:Fl)(xs:List aU),(xs.map (aE f)).map AV.als=xs.map (aE f.als))/\
 (∀(f:Fl),AV.als∘aE f=aE f.als)/\
 (∀(f:Fl)(x:aU),(aE f x).fix=aE f.fix x)/\
 (∀(f:Fl)(xs:List aU),(xs.map (aE f)).map AV.fix=xs.map (aE f.fix))/\
 (∀(f:Fl)(x:be),(aW f x).nrm=aW .o x)/\
 (∀(f:Fl)(xs:List be),(xs.map (aW f)).map AV.nrm=xs.map (aW .o))/\
 (∀(f:Fl)(x:be),(aW f x).als=aW f.als x)/\
 (∀(f:Fl)(xs:List be),(xs.map (aW f)).map AV.als=xs.map (aW f.als))/\
 (∀(f:Fl),AV.als∘aW f=aW f.als)/\
 (∀(f:Fl)(x:be),(aW f x).fix=aW f.fix x)/\
 (∀(f:Fl)(xs:List be),(xs.map (aW f)).map AV.fix=xs.map (aW f.fix))/\
 (∀(f:Fl)(x:bC),(aP f x).nrm=aP .o x)/\
 (∀(f:Fl)(xs:List bC),(xs.map (aP f)).map AV.nrm=xs.map (aP .o))/\
 (∀(f:Fl)(x:bC),(aP f x).als=aP f.als x)/\
 (∀(f:Fl)(xs:List bC),(xs.map (aP f)).map AV.als=xs.map (aP f.als))/\
 (∀(f:Fl),AV.als∘aP f=aP f.als)/\
 (∀(f:Fl)(x:bC),(aP f x).fix=aP f.fix x)/\
 (∀(f:Fl)(xs:List bC),(xs.map (aP f)).map AV.fix=xs.map (aP f.fix))/\
 (∀(f:Fl)(x:List Int),(bI f x).nrm=bI .o x)/\
 (∀(f:Fl)(xs:List (List Int)),(xs.map (bI f)).map AV.nrm=xs.map (bI .o))/\
 (∀(f:Fl)(x:List Int),(bI f x).als=bI f.als x)/\
 (∀(f:Fl)(xs:List (List Int)),(xs.map (bI f)).map AV.als=xs.map (bI f.als))/\
 (∀(f:Fl),AV.als∘bI f=bI f.als)/\
 (∀(f:Fl)(x:List Int),(bI f x).fix=bI f.fix x)/\
 (∀(f:Fl)(xs:List (List Int)),(xs.map (bI f)).map AV.fix=xs.map (bI f.fix))/\
 (∀(f:Fl)(x:cg),(bg f x).nrm=bg .o x)/\
 (∀(f:Fl)(xs:List cg),(xs.map (bg f)).map AV.nrm=xs.map (bg .o))/\
 (∀(f:Fl)(x:cg),(bg f x).als=bg f.als x)/\
 (∀(f:Fl)(xs:List cg),(xs.map (bg f)).map AV.als=xs.map (bg f.als))/\
 (∀(f:Fl),AV.als∘bg f=bg f.als)/\
 (∀(f:Fl)(x:cg),(bg f x).fix=bg f.fix x)/\
 (∀(f:Fl)(xs:List cg),(xs.map (bg f)).map AV.fix=xs.map (bg f.fix)):=
 ⟨@fC,@pX,@eO,@pL,@pT,@eP,@jW,@jt,@mP,@fO,@mS,@mN,@fL,@iC,@iB,@pV,@fA,@qd,@pO,@fD,@jQ,@ly,@qk,@gZ,@pU,@pM,@iA,@ka,@jr,@mU,@fX,@mX,@mQ,@fQ,@iG,@kN,@pF,@ip,@pZ,@pQ,@iu,@jU,@jV,@nz,@gm,@nY,@oL,@gv,@iU,@kc,@nJ,@gp,@ph,@nS,@gq,@jc,@iE,@lK,@ft,@lW,@lE,@fu,@gG,@sO,@CT,@nr,@Cb,@DI,@od,@qY,@lf,@qi,@io,@qc,@pW,@hO,@jT⟩
theorem VF1:(∀(f:Fl)(x:az),(ai f x).fix=ai f.fix x)/\
 (∀(f:Fl)(xs:List az),(xs.map (ai f)).map AV.fix=xs.map (ai f.fix))/\
 (∀(f:Fl)(x:af),(aV f x).fix=aV f.fix x)/\
 (∀(f:Fl)(xs:List af),(xs.map (aV f)).map AV.fix=xs.map (aV f.fix))/\
 (∀(f:Fl)(x:au),(aC f x).fix=aC f.fix x)/\
 (∀(f:Fl)(xs:List au),(xs.map (aC f)).map AV.fix=xs.map (aC f.fix))/\
 (∀(f:Fl)(x:aM),(aZ f x).fix=aZ f.fix x)/\
 (∀(f:Fl)(xs:List aM),(xs.map (aZ f)).map AV.fix=xs.map (aZ f.fix))/\
 (∀(f:Fl)(x:ah),(aj f x).fix=aj f.fix x)/\
 (∀(f:Fl)(xs:List ah),(xs.map (aj f)).map AV.fix=xs.map (aj f.fix))/\
 (∀(f:Fl)(x:aw),(bh f x).fix=bh f.fix x)/\
 (∀(f:Fl)(xs:List aw),(xs.map (bh f)).map AV.fix=xs.map (bh f.fix))/\
 (∀(f:Fl)(x:aU),(aE f x).fix=aE f.fix x)/\
 (∀(f:Fl)(xs:List aU),(xs.map (aE f)).map AV.fix=xs.map (aE f.fix))/\
 (∀(f:Fl)(x:be),(aW f x).fix=aW f.fix x)/\
 (∀(f:Fl)(xs:List be),(xs.map (aW f)).map AV.fix=xs.map (aW f.fix))/\
 (∀(f:Fl)(x:bC),(aP f x).fix=aP f.fix x)/\
 (∀(f:Fl)(xs:List bC),(xs.map (aP f)).map AV.fix=xs.map (aP f.fix))/\
 (∀(f:Fl)(x:List Int),(bI f x).fix=bI f.fix x)/\
 (∀(f:Fl)(xs:List (List Int)),(xs.map (bI f)).map AV.fix=xs.map (bI f.fix))/\
 (∀(f:Fl)(x:cg),(bg f x).fix=bg f.fix x)/\
 (∀(f:Fl)(xs:List cg),(xs.map (bg f)).map AV.fix=xs.map (bg f.fix)):=
 ⟨@eP,@jW,@fL,@iC,@fD,@jQ,@iA,@ka,@fQ,@iG,@iu,@jU,@gv,@iU,@gq,@jc,@fu,@gG,@od,@qY,@hO,@jT⟩
theorem VZ1:(∀(x:az),(ai .o x).fz=true)/\
 (∀(xs:List az),fzL (xs.map (ai .o))=true)/\
 (∀(x:az),(ai .u x).ouB=true)/\
 (∀(xs:List az),cI (xs.map (ai .u))=true)/\
 (∀(x:af),(aV .o x).fz=true)/\
 (∀(xs:List af),fzL (xs.map (aV .o))=true)/\
 (∀(x:af),(aV .u x).ouB=true)/\
 (∀(xs:List af),cI (xs.map (aV .u))=true)/\
 (∀(x:au),(aC .o x).fz=true)/\
 (∀(xs:List au),fzL (xs.map (aC .o))=true)/\
 (∀(x:au),(aC .u x).ouB=true)/\
 (∀(xs:List au),cI (xs.map (aC .u))=true)/\
 (∀(x:aM),(aZ .o x).fz=true)/\
 (∀(xs:List aM),fzL (xs.map (aZ .o))=true)/\
 (∀(x:aM),(aZ .u x).ouB=true)/\
 (∀(xs:List aM),cI (xs.map (aZ .u))=true)/\
 (∀(x:ah),(aj .o x).fz=true)/\
 (∀(xs:List ah),fzL (xs.map (aj .o))=true)/\
 (∀(x:ah),(aj .u x).ouB=true)/\
 (∀(xs:List ah),cI (xs.map (aj .u))=true)/\
 (∀(x:aw),(bh .o x).fz=true)/\
 (∀(xs:List aw),fzL (xs.map (bh .o))=true)/\
 (∀(x:aw),(bh .u x).ouB=true)/\
 (∀(xs:List aw),cI (xs.map (bh .u))=true)/\
 (∀(x:aU),(aE .o x).fz=true)/\
 (∀(xs:List aU),fzL (xs.map (aE .o))=true)/\
 (∀(x:aU),(aE .u x).ouB=true)/\
 (∀(xs:List aU),cI (xs.map (aE .u))=true)/\
 (∀(x:be),(aW .o x).fz=true)/\
 (∀(xs:List be),fzL (xs.map (aW .o))=true)/\
 (∀(x:be),(aW .u x).ouB=true)/\
 (∀(xs:List be),cI (xs.map (aW .u))=true)/\
 (∀(x:bC),(aP .o x).fz=true)/\
 (∀(xs:List bC),fzL (xs.map (aP .o))=true)/\
 (∀(x:bC),(aP .u x).ouB=true)/\
 (∀(xs:List bC),cI (xs.map (aP .u))=true)/\
 (∀(x:List Int),(bI .o x).fz=true)/\
 (∀(xs:List (List Int)),fzL (xs.map (bI .o))=true)/\
 (∀(x:List Int),(bI .u x).ouB=true)/\
 (∀(xs:List (List Int)),cI (xs.map (bI .u))=true)/\
 (∀(x:cg),(bg .o x).fz=true)/\
 (∀(xs:List cg),fzL (xs.map (bg .o))=true)/\
 (∀(x:cg),(bg .u x).ouB=true)/\
 (∀(xs:List cg),cI (xs.map (bg .u))=true):=
 ⟨@my,@eK,@mu,@eJ,@jY,@pe,@jR,@og,@mg,@hM,@mj,@gV,@mr,@rM,@mo,@sm,@kb,@oz,@ke,@oV,@mw,@rz,@mC,@ru,@kX,@pY,@lx,@pP,@lh,@pN,@kQ,@qe,@jh,@mR,@je,@mT,@yE,@Ms,@zB,@FM,@mi,@sD,@mG,@rx⟩
theorem VE1:ai .o=ai .u/\ai .m=ai .u/\ai .s=ai .u/\aZ .o=aZ .u/\aZ .m=aZ .u/\aZ .s=aZ .u/\aE .o=aE .u/\aE .m=aE .u/\aE .s=aE .u/\aW .o=aW .u/\aW .m=aW .u/\aW .s=aW .u:=⟨rfl,rfl,rfl,rfl,rfl,rfl,rfl,rfl,rfl,rfl,rfl,rfl⟩
theorem Zr{α:Type}(n:Nat)(a:α):(List.replicate n a).length=n:=List.length_replicate
theorem ZA{A B:Prop}(a:A)(b:B):A/\B:=⟨a,b⟩
theorem ZF{A:Prop}(a:A){P Q:Prop}(k:Q)(e:A->P=Q:=by intro a;simp only[VS1,VS2,VS3,VS4,VS5,VS6,VT1,VT2,ce,cb,decide_true,decide_false,List.nodup_nil,List.nodup_cons,fe,fl,fh,ne_eq,not_false_eq_true,Int.reduceEq,Int.reduceNe,true_and,false_and,Nat.reduceSub,Nat.reduceMul,↓reduceIte,reduceCtorEq,Nat.reduceEqDiff,Nat.reduceAdd,Nat.reduceLeDiff,Int.reduceLE,a];exact Eq.refl _):P:=(e a).mpr k
theorem ZG{P Q:Prop}(k:Q)(e:P=Q:=by simp only[VA,VF1,↓reduceIte,Nat.reduceEqDiff,Nat.reduceAdd,Nat.reduceMul,Nat.reduceSub,Nat.reduceLeDiff];exact Eq.refl _):P:=e.mpr k
theorem ZL{A:Prop}(a:A){B:Prop}(b:B){P:Prop}(e:A->B->P:=by intro a b;(try simp only[VS1,VS2,VS3,VS4,VS5,VS6,VT1,VT2,ce,cb,decide_true,decide_false,List.nodup_nil,List.nodup_cons,fe,fl,fh,ne_eq,not_false_eq_true,Int.reduceEq,Int.reduceNe,true_and,false_and,Nat.reduceSub,Nat.reduceMul,↓reduceIte,reduceCtorEq,Nat.reduceEqDiff,Nat.reduceAdd,Nat.reduceLeDiff,Int.reduceLE,a]);all_goals first|(simp[qL,qJ,qJ0,qS,qX,qR,qM,Shp,sub,fY,ce,cb,VS1,VS2,VS3,VS4,VS5,VS6,VT1,VT2,b];done)|simp[qL,qJ,qJ0,qS,qX,qR,qM,Shp,sub,fY,ce,cb,VS1,VS2,VS3,VS4,VS5,VS6,VT1,VT2,VE1,b]):P:=e a b
theorem ZK{B:Prop}(b:B){P:Prop}(e:B->P:=by intro b;simp[qL,qJ,qJ0,qS,qX,qR,qM,Shp,sub,fY,ce,cb,VS1,VS2,VS3,VS4,VS5,VS6,VT1,VT2,b]):P:=e b
theorem ZS{A:Prop}(a:A){W:Prop}(w:W){ok:Oks}{ρ:Nat->Option Row}{d f:Nat}{args:List AV}{K:AV->List (Nat×Row)->Prop}{v:Value}(hk:K (.sc v) [])
 (e:A->W->ok.p f (args.map (snp ρ 4)) (.sc v):=by intro a w;simp only[VS1,VS2,VS3,VS4,VS5,VS6,VT1,VT2,ce,cb,decide_true,decide_false,List.nodup_nil,List.nodup_cons,fe,fl,fh,ne_eq,not_false_eq_true,Int.reduceEq,Int.reduceNe,true_and,false_and,Nat.reduceSub,Nat.reduceMul,↓reduceIte,reduceCtorEq,Nat.reduceEqDiff,Nat.reduceAdd,Nat.reduceLeDiff,Int.reduceLE,a];exact w):fw ok ρ d f args K:=EM (e a w) hk
theorem ZU{A:Prop}(a:A){W:Prop}(w:W){ok:Oks}{ρ:Nat->Option Row}{d f:Nat}{args:List AV}{K:AV->List (Nat×Row)->Prop}{res:AV}(hk:K (adopt 4 d res).1 (adopt 4 d res).2.1)
 (e:A->W->ok.p f (args.map (snp ρ 4)) res:=by intro a w;simp only[VS1,VS2,VS3,VS4,VS5,VS6,VT1,VT2,ce,cb,decide_true,decide_false,List.nodup_nil,List.nodup_cons,fe,fl,fh,ne_eq,not_false_eq_true,Int.reduceEq,Int.reduceNe,true_and,false_and,Nat.reduceSub,Nat.reduceMul,↓reduceIte,reduceCtorEq,Nat.reduceEqDiff,Nat.reduceAdd,Nat.reduceLeDiff,Int.reduceLE,a];exact w) (hu:res.allU:=by simp[AV.allU,jw,rn,VT1,VT2]) (hn:∀p∈(adopt 4 d res).2.1,ρ p.1=none/\p.1<1000000000:=by simp only[VS1,VS2,VS3,VS4,VS5,VS6,VT1,VT2,ce,cb,decide_true,decide_false,List.nodup_nil,List.nodup_cons,fe,fl,fh,ne_eq,not_false_eq_true,Int.reduceEq,Int.reduceNe,true_and,false_and,Nat.reduceSub,Nat.reduceMul,↓reduceIte,reduceCtorEq,Nat.reduceEqDiff,Nat.reduceAdd,Nat.reduceLeDiff,Int.reduceLE,Nat.reduceLT]):fw ok ρ d f args K:=KT (e a w) hu hn hk
theorem ZQ{P:Prop}(e:P:=by simp[VS1,VS2,VS3,VS4,VS5,VS6,VT1,VT2]):P:=e
theorem ZW{A:Prop}(a:A){W:Prop}(w:W){ok:Oks}{ρ:Nat->Option Row}{d f:Nat}{args:List AV}{rs:List Nat}{K:AV->List (Nat×Row)->Prop}{res:AV}{outs:List (Nat×Row)}
 (e:A->W->ok.m f (args.map (AV.rg (cnm rs))) (rs.map (gj ρ rs)) res outs:=by intro a w;simp only[VS1,VS2,VS3,VS4,VS5,VS6,VT1,VT2,ce,cb,decide_true,decide_false,List.nodup_nil,List.nodup_cons,fe,fl,fh,ne_eq,not_false_eq_true,Int.reduceEq,Int.reduceNe,true_and,false_and,Nat.reduceSub,Nat.reduceMul,↓reduceIte,reduceCtorEq,Nat.reduceEqDiff,Nat.reduceAdd,Nat.reduceLeDiff,Int.reduceLE,a];first|exact w|(simp only[VS1,VS2,VS3,VS4,VS5,VS6,VT1,VT2,ce,cb,decide_true,decide_false,List.nodup_nil,List.nodup_cons,fe,fl,fh,ne_eq,not_false_eq_true,Int.reduceEq,Int.reduceNe,true_and,false_and,Nat.reduceSub,Nat.reduceMul,↓reduceIte,reduceCtorEq,Nat.reduceEqDiff,Nat.reduceAdd,Nat.reduceLeDiff,Int.reduceLE,a] at w;exact w))
 (h1:rs.Nodup/\(∀r∈rs,cJ (ρ r))/\(∀r∈rs,∀q∈lU (ρ r),q∈rs)/\(∀r∈aN args,r∈rs):=by simp[VS1,VS2,VS3,VS4,VS5,VS6,VT1,VT2])
 (h2:(outs.map fun p=>bkn d rs p.1).Nodup/\(∀p∈outs,1000000000<=p.1->p.1-1000000000<rs.length)/\(∀p∈outs,p.1<1000000000->ρ (bkn d rs p.1)=none/\bkn d rs p.1<1000000000))
 (hk:K (res.rg (bkn d rs)) (bE rs++outs.map (eV d rs))):callM ok ρ d f args rs K:=GI (e a w) h1 h2 hk
def NmK(ns ks:List Nat)(P:Prop):Prop:=P
theorem nmK{ns ks:List Nat}{P:Prop}(p:P):NmK ns ks P:=p
theorem ZSG{A:Prop}(a:A){W:Prop}(w:W){ok:Oks}{ρ:Nat->Option Row}{d f:Nat}{args:List AV}{K:AV->List (Nat×Row)->Prop}{v:Value}{Q:Prop}(k:Q)
 (e:A->W->ok.p f (args.map (snp ρ 4)) (.sc v):=by intro a w;simp only[VS1,VS2,VS3,VS4,VS5,VS6,VT1,VT2,ce,cb,decide_true,decide_false,List.nodup_nil,List.nodup_cons,fe,fl,fh,ne_eq,not_false_eq_true,Int.reduceEq,Int.reduceNe,true_and,false_and,Nat.reduceSub,Nat.reduceMul,↓reduceIte,reduceCtorEq,Nat.reduceEqDiff,Nat.reduceAdd,Nat.reduceLeDiff,Int.reduceLE,a];exact w) (g:K (.sc v) []=Q:=by simp only[VA,VF1,↓reduceIte,Nat.reduceEqDiff,Nat.reduceAdd,Nat.reduceMul,Nat.reduceSub,Nat.reduceLeDiff];exact Eq.refl _):fw ok ρ d f args K:=EM (e a w) (g.mpr k)
theorem ZUG{A:Prop}(a:A){W:Prop}(w:W){ok:Oks}{ρ:Nat->Option Row}{d f:Nat}{args:List AV}{K:AV->List (Nat×Row)->Prop}{res:AV}{Q:Prop}(k:Q)
 (e:A->W->ok.p f (args.map (snp ρ 4)) res:=by intro a w;simp only[VS1,VS2,VS3,VS4,VS5,VS6,VT1,VT2,ce,cb,decide_true,decide_false,List.nodup_nil,List.nodup_cons,fe,fl,fh,ne_eq,not_false_eq_true,Int.reduceEq,Int.reduceNe,true_and,false_and,Nat.reduceSub,Nat.reduceMul,↓reduceIte,reduceCtorEq,Nat.reduceEqDiff,Nat.reduceAdd,Nat.reduceLeDiff,Int.reduceLE,a];exact w) (hu:res.allU:=by simp[AV.allU,jw,rn,VT1,VT2]) (hn:∀p∈(adopt 4 d res).2.1,ρ p.1=none/\p.1<1000000000:=by simp only[VS1,VS2,VS3,VS4,VS5,VS6,VT1,VT2,ce,cb,decide_true,decide_false,List.nodup_nil,List.nodup_cons,fe,fl,fh,ne_eq,not_false_eq_true,Int.reduceEq,Int.reduceNe,true_and,false_and,Nat.reduceSub,Nat.reduceMul,↓reduceIte,reduceCtorEq,Nat.reduceEqDiff,Nat.reduceAdd,Nat.reduceLeDiff,Int.reduceLE,Nat.reduceLT]) (g:K (adopt 4 d res).1 (adopt 4 d res).2.1=Q:=by simp only[VA,VF1,↓reduceIte,Nat.reduceEqDiff,Nat.reduceAdd,Nat.reduceMul,Nat.reduceSub,Nat.reduceLeDiff];exact Eq.refl _):fw ok ρ d f args K:=KT (e a w) hu hn (g.mpr k)
theorem NM1{ρ:Nat->Option Row}{d:Nat}{rs:List Nat}{outs:List (Nat×Row)}{ns ks:List Nat}(hn:outs.map (·.1)=ns)(h:TJ rs ns=true):
 NmK ns ks ((outs.map fun p=>bkn d rs p.1).Nodup/\(∀p∈outs,1000000000<=p.1->p.1-1000000000<rs.length)/\(∀p∈outs,p.1<1000000000->ρ (bkn d rs p.1)=none/\bkn d rs p.1<1000000000)):=VS ns hn h
theorem NM2{ρ:Nat->Option Row}{d:Nat}{rs:List Nat}{outs:List (Nat×Row)}{ns ks:List Nat}(hn:outs.map (·.1)=ns)(h:Mr d rs ns ks=true)(hk:∀q∈ks,ρ q=none):
 NmK ns ks ((outs.map fun p=>bkn d rs p.1).Nodup/\(∀p∈outs,1000000000<=p.1->p.1-1000000000<rs.length)/\(∀p∈outs,p.1<1000000000->ρ (bkn d rs p.1)=none/\bkn d rs p.1<1000000000)):=TU ns ks hn h hk
theorem ZWG{A:Prop}(a:A){W:Prop}(w:W)(ns ks:List Nat){Q:Prop}(k:Q){ok:Oks}{ρ:Nat->Option Row}{d f:Nat}{args:List AV}{rs:List Nat}{K:AV->List (Nat×Row)->Prop}{res:AV}{outs:List (Nat×Row)}
 (e:A->W->ok.m f (args.map (AV.rg (cnm rs))) (rs.map (gj ρ rs)) res outs:=by intro a w;simp only[VS1,VS2,VS3,VS4,VS5,VS6,VT1,VT2,ce,cb,decide_true,decide_false,List.nodup_nil,List.nodup_cons,fe,fl,fh,ne_eq,not_false_eq_true,Int.reduceEq,Int.reduceNe,true_and,false_and,Nat.reduceSub,Nat.reduceMul,↓reduceIte,reduceCtorEq,Nat.reduceEqDiff,Nat.reduceAdd,Nat.reduceLeDiff,Int.reduceLE,a];first|exact w|(simp only[VS1,VS2,VS3,VS4,VS5,VS6,VT1,VT2,ce,cb,decide_true,decide_false,List.nodup_nil,List.nodup_cons,fe,fl,fh,ne_eq,not_false_eq_true,Int.reduceEq,Int.reduceNe,true_and,false_and,Nat.reduceSub,Nat.reduceMul,↓reduceIte,reduceCtorEq,Nat.reduceEqDiff,Nat.reduceAdd,Nat.reduceLeDiff,Int.reduceLE,a] at w;exact w))
 (h1:rs.Nodup/\(∀r∈rs,cJ (ρ r))/\(∀r∈rs,∀q∈lU (ρ r),q∈rs)/\(∀r∈aN args,r∈rs):=by simp[VS1,VS2,VS3,VS4,VS5,VS6,VT1,VT2])
 (h2:NmK ns ks ((outs.map fun p=>bkn d rs p.1).Nodup/\(∀p∈outs,1000000000<=p.1->p.1-1000000000<rs.length)/\(∀p∈outs,p.1<1000000000->ρ (bkn d rs p.1)=none/\bkn d rs p.1<1000000000)):=by first|exact NM1 rfl (by decide+kernel)|exact NM2 rfl (by decide+kernel) ZQ|exact nmK ZQ)
 (g:K (res.rg (bkn d rs)) (bE rs++outs.map (eV d rs))=Q:=by simp only[VA,VF1,↓reduceIte,Nat.reduceEqDiff,Nat.reduceAdd,Nat.reduceMul,Nat.reduceSub,Nat.reduceLeDiff];exact Eq.refl _):callM ok ρ d f args rs K:=GI (e a w) h1 h2 (g.mpr k)
theorem w_hl(a:List Int){r:Bool}(h:NT a=some r):Ok Tryz.prog 10 [.lst .o 1 (a.map AV.u8)] (.b r):=by
 refine aA bb m10 rfl ?_;unfold NT at h;simp only[ZC,A10,V10,aH];cases h;exact ZL trivial @V10.eq_1
theorem w_du(a:aw){r:Int×aw}(h:Cp a=some r):OkM Tryz.prog 193 [.pt 1000000000 0 0] [(1000000000,.var (.agg [.lst .o 1 (((a).code).map AV.u8),.i ((a).atF),.sc (.int .u64 ((a).seed))]))] (.i r.1) ([(1000000000,.var (.agg [.lst .o 1 (((r.2).code).map AV.u8),.i ((r.2).atF),.sc (.int .u64 ((r.2).seed))]))]):=by
 refine aY (lr:=[1000000000]) bb Ub rfl rfl ?_;unfold Cp at h;simp only[ZC,Fk,V10];obtain⟨d,g,h⟩:=ae h;try refine ZF trivial ?_
 refine ax (sh:=(fun v=>⟨[(0,.pt 1000000000 0 0),(3,.i v)],[(1000000000,.var (.agg [.lst .o 1 (((a).code).map AV.u8),.i ((a).atF),.sc (.int .u64 ((a).seed))]))]⟩)) (s:=d) ?_ ?_
 ·replace h:=g;obtain⟨b,h⟩|⟨b,h⟩:=aq h
  ·obtain⟨k,j,h⟩:=ae h;cases h;exact ZL (ZA b (aL j)) trivial
  ·cases h;exact ZL b trivial
 ·simp only[ZC,uN];obtain⟨c,h⟩|⟨c,h⟩:=aq h
  ·cases h;exact ZL c @V10.eq_1
  ·cases h;exact ZL c @V10.eq_1
theorem w_b(d:Int)(b:aw){r:Int×aw}(h:M_b d b=some r):OkM Tryz.prog 129 [.pt 1000000000 0 0,.i d] [(1000000000,.var (.agg [.lst .o 1 (((b).code).map AV.u8),.i ((b).atF),.sc (.int .u64 ((b).seed))]))] (.i r.1) ([(1000000000,.var (.agg [.lst .o 1 (((r.2).code).map AV.u8),.i ((r.2).atF),.sc (.int .u64 ((r.2).seed))]))]):=by
 refine aY (lr:=[1000000000]) bb Um rfl rfl ?_;unfold M_b at h;simp only[ZC,LG,ay];obtain⟨a,h⟩|⟨a,h⟩:=aq h
 ·cases h;exact ZL a @ay.eq_1
 ·obtain⟨m,g,h⟩:=ae h;refine ZF a ?_;refine ZWG a (w_du _ g) [1000000000] [] ?_;obtain⟨c,h⟩|⟨c,h⟩:=aq h
  ·obtain⟨p,j,h⟩:=ae h;have f:=ZA a c;refine ZF f ?_;refine ZWG f (w_du _ j) [1000000000] [] ?_;obtain⟨q,k,h⟩:=ae h;cases h;exact ZL (ZA f (aI k)) @ay.eq_1
  ·obtain⟨s,l,h⟩:=ae h;cases h;exact ZL (ZA a (ZA c (aI l))) @ay.eq_1
theorem Qs(c:Int)(a:aw){r:Bool×aw}(h:rJ c a=some r):OkM Tryz.prog 130 [.pt 1000000000 0 0,.i c] [(1000000000,.var (.agg [.lst .o 1 (((a).code).map AV.u8),.i ((a).atF),.sc (.int .u64 ((a).seed))]))] (.b r.1) ([(1000000000,.var (.agg [.lst .o 1 (((r.2).code).map AV.u8),.i ((r.2).atF),.sc (.int .u64 ((r.2).seed))]))]):=by
 refine aY (lr:=[1000000000]) bb Vg rfl rfl ?_;unfold rJ at h;simp only[ZC,Mn,ay];obtain⟨g,d,h⟩:=ae h;refine ZF trivial ?_;refine ZWG trivial (w_b _ _ d) [1000000000] [] ?_;cases h;exact ZL trivial @ay.eq_1
theorem w_dv(b:Int)(c:Int){r:Int}(h:CI b c=some r):Ok Tryz.prog 235 [.i b,.i c] (.i r):=by
 refine aA bb m235 rfl ?_;unfold CI at h;simp only[ZC,A235,ay,aH];obtain⟨a,h⟩|⟨a,h⟩:=aq h
 ·cases h;exact ZL a @ay.eq_1
 ·cases h;exact ZL a @ay.eq_1
theorem w_dw(b:Int)(c:Int){r:Int}(h:BI b c=some r):Ok Tryz.prog 236 [.i b,.i c] (.i r):=by
 refine aA bb m236 rfl ?_;unfold BI at h;simp only[ZC,A236,ay,aH];obtain⟨a,h⟩|⟨a,h⟩:=aq h
 ·cases h;exact ZL a @ay.eq_1
 ·cases h;exact ZL a @ay.eq_1
theorem w_k(a:aw)(b:List Int){r:Int×aw×List Int}(h:M_k a b=some r):OkM Tryz.prog 151 [.pt 1000000000 0 0,.sl 1000000001 0 b.length] [(1000000000,.var (.agg [.lst .o 1 (((a).code).map AV.u8),.i ((a).atF),.sc (.int .u64 ((a).seed))])),(1000000001,.arr 1 (b.map AV.i))] (.i r.1) ([(1000000000,.var (.agg [.lst .o 1 (((r.2.1).code).map AV.u8),.i ((r.2.1).atF),.sc (.int .u64 ((r.2.1).seed))])),(1000000001,.arr 1 (r.2.2.map AV.i))]):=by
 refine aY (lr:=[1000000000,1000000001]) bb Tr rfl rfl ?_;unfold M_k at h;simp only[ZC,KE,ay];obtain⟨j,c,h⟩:=ae h;refine ZF trivial ?_;refine ZWG trivial (w_b _ _ c) [1000000000] [] ?_;obtain⟨k,d,h⟩:=ae h;obtain⟨l,g,h⟩:=ae h;cases h;exact ZL (ZA (aI d) g) @ay.eq_1
theorem w_dk(a:az)(b:az){r:Int}(h:tk a b=some r):Ok Tryz.prog 197 [.agg [.i a.A,.i a.B,.i a.Length,.i a.Risk],.agg [.i b.A,.i b.B,.i b.Length,.i b.Risk]] (.i r):=by
 have e:=@ay.eq_1;refine aA bb m197 rfl ?_;unfold tk at h;simp only[ZC,A197,ay,aH];obtain⟨c,h⟩|⟨c,h⟩:=aq h
 ·cases h;exact ZL c e
 ·obtain⟨d,h⟩|⟨d,h⟩:=aq h
  ·cases h;exact ZL (ZA c d) e
  ·obtain⟨g,h⟩|⟨g,h⟩:=aq h
   ·cases h;exact ZL (ZA c (ZA d g)) e
   ·cases h;exact ZL (ZA c (ZA d g)) e
def sd(b:List az)(a:az)(v:Int):St:=⟨[(0,.lst .o 4 (b.map (ai .o))),(3,.pt 3 0 0),(5,.i v)],[(3,.var (.agg [.i a.A,.i a.B,.i a.Length,.i a.Risk]))]⟩
theorem w_at(a:List az)(b:az)(g:Int)(o:Int⊕Int)(h:DA a b g=some o):AWP (OkS Tryz.prog) vK (qL [0,3,5] [3] (sd a b) (qX 0 [0,3,5] [3] (sd a b)) o) (sd a b g):=by
 have e:=ZA @sd.eq_1 @sd.eq_1;unfold DA at h;simp only[ZC,sd,vK];obtain⟨c,h⟩|⟨c,h⟩:=aq h
 ·obtain⟨k,i,h⟩:=ae h;obtain⟨l,j,h⟩:=ae h;have f:=ZA c (aL i);refine ZF f ?_;refine ZSG f (w_dk _ _ j) ?_;obtain⟨d,h⟩|⟨d,h⟩:=aq h
  ·cases h;exact ZL (ZA f d) e
  ·cases h;exact ZL (ZA f d) e
 ·cases h;exact ZL c e
theorem w_dx(g:List az)(a:az){r:List az}(h:Au g a=some r):Ok Tryz.prog 234 [.lst .o 4 (g.map (ai .o)),.agg [.i a.A,.i a.B,.i a.Length,.i a.Risk]] (.lst .u 4 (r.map (ai .u))):=by
 refine aA bb m234 rfl ?_;unfold Au at h;simp only[ZC,A234,ay,aH];obtain⟨w1,x,h⟩:=ae h;try refine ZF trivial ?_
 refine ax (aX (aB (w_at g a) x ?_)) ?_
 ·exact ZK (ZA @sd.eq_1 @sd.eq_1)
 ·simp only[ZC,sd,Lc];obtain⟨l,y,h⟩:=ae h;obtain⟨z,a1,b1,c1,d1⟩:=yl (ai .o) y;obtain⟨x1,g1,h⟩:=ae h;obtain⟨j,b,h⟩:=aK h;have i1:Row.arr 4 [(.agg [.i a.A,.i a.B,.i a.Length,.i a.Risk]:AV)]=Row.arr 4 (j.map (ai .u)):=by rw[<-b];rfl
  have m:j.length=1:=by rw[<-b];rfl
  obtain⟨y1,j1,h⟩:=ae h;have p:=aI j1;obtain⟨c,d,h⟩:=aK h;have k1:l.map (ai .o)++j.map (ai .o)=c.map (ai .o):=by rw[<-d,List.map_append]
  have q:l.length+1=c.length:=by simp[<-b,<-d]<;>omega
  rw[q] at p;obtain⟨s,l1,h⟩:=ae h;obtain⟨m1,p1,q1,s1,t1⟩:=VV (ai .o) l1;obtain⟨z1,u1,h⟩:=ae h;have t:=aI u1;obtain⟨v,k,h⟩:=aK h;have v1:c.map (ai .o)++s.map (ai .o)=v.map (ai .o):=by rw[<-k,List.map_append]
  have w:c.length+s.length=v.length:=by simp[<-b,<-d,<-k]<;>omega
  rw[w] at t;cases h;exact ZL (ZA z (ZA a1 (ZA b1 (ZA c1 (ZA d1 (ZA (aI g1) (ZA i1 (ZA m (ZA p (ZA k1 (ZA q (ZA m1 (ZA p1 (ZA q1 (ZA s1 (ZA t1 (ZA t (ZA v1 w)))))))))))))))))) (ZA @ay.eq_1 (ZA b.symm (ZA d.symm (ZA k.symm m))))
def S_z(a:Int×aw)(b:List ByteArray)(v:Int×List az×aw):St:=⟨[(0,.pt 1000000000 0 0),(2,.pt 2 0 0),(3,.i (IntKind.wrap .i64 (2+a.1))),(4,.pt 4 0 0),(5,.i v.1)],[(2,.var (.agg [.lst .u 1 [],.lst .u 4 []])),(4,.var (.agg [.sl 500000256 0 (Int.toNat (IntKind.wrap .i64 (2+a.1))),.sl 500000257 0 v.2.1.length])),(500000256,.arr 1 (b.map AV.z)),(500000257,.arr 4 (v.2.1.map (ai .u))),(1000000000,.var (.agg [.lst .o 1 (((v.2.2).code).map AV.u8),.i ((v.2.2).atF),.sc (.int .u64 ((v.2.2).seed))]))]⟩
def OY(a:Int×aw)(b:List ByteArray)(v:List az×aw):St:=⟨[(0,.pt 1000000000 0 0),(2,.pt 2 0 0),(3,.i (IntKind.wrap .i64 (2+a.1))),(4,.pt 4 0 0)],[(2,.var (.agg [.lst .u 1 [],.lst .u 4 []])),(4,.var (.agg [.sl 500000256 0 (Int.toNat (IntKind.wrap .i64 (2+a.1))),.sl 500000257 0 v.1.length])),(500000256,.arr 1 (b.map AV.z)),(500000257,.arr 4 (v.1.map (ai .u))),(1000000000,.var (.agg [.lst .o 1 (((v.2).code).map AV.u8),.i ((v.2).atF),.sc (.int .u64 ((v.2).seed))]))]⟩
theorem w_z(a:Int×aw)(d:List ByteArray)(c:Int×List az×aw)(o:(Int×List az×aw)⊕(List az×aw))(h:M_z a c=some o):AWP (OkS Tryz.prog) nZ (qL [0,2,3,4,5] [2,4,500000256,500000257,1000000000] (S_z a d) (qX 0 [0,2,3,4] [2,4,500000256,500000257,1000000000] (OY a d)) o) (S_z a d c):=by
 have e:=ZA @S_z.eq_1 @OY.eq_1;unfold M_z at h;simp only[ZC,S_z,nZ];obtain⟨g,h⟩|⟨g,h⟩:=aq h
 ·obtain⟨i1,q,h⟩:=ae h;obtain⟨t,w,h⟩:=ae h;have f:=ZA g (aI q);try refine ZF f ?_
  refine ax (sh:=(fun v=>⟨[(0,.pt 1000000000 0 0),(2,.pt 2 0 0),(3,.i (IntKind.wrap .i64 (2+a.1))),(4,.pt 4 0 0),(5,.i c.1),(6,.i (Int.tmod (IntKind.wrap .i64 (c.1+1)) (IntKind.wrap .i64 (2+a.1)))),(32,.b v.1)],[(2,.var (.agg [.lst .u 1 [],.lst .u 4 []])),(4,.var (.agg [.sl 500000256 0 (Int.toNat (IntKind.wrap .i64 (2+a.1))),.sl 500000257 0 c.2.1.length])),(500000256,.arr 1 (d.map AV.z)),(500000257,.arr 4 (c.2.1.map (ai .u))),(1000000000,.var (.agg [.lst .o 1 (((v.2).code).map AV.u8),.i ((v.2).atF),.sc (.int .u64 ((v.2).seed))]))]⟩)) (s:=t) ?_ ?_
  ·replace h:=w;obtain⟨j,h⟩|⟨j,h⟩:=aq h
   ·cases h;exact ZL (ZA f j) trivial
   ·obtain⟨j1,x,h⟩:=ae h;have f:=ZA f j;refine ZF f ?_;refine ZWG f (Qs _ _ x) [1000000000] [] ?_;cases h;exact ZL f trivial
  ·simp only[ZC,uC];obtain⟨k,h⟩|⟨k,h⟩:=aq h
   ·cases h;exact ZL (ZA f k) e
   ·obtain⟨k1,y,h⟩:=ae h;have f:=ZA f k;refine ZF f ?_;refine ZSG f (w_dv _ _ y) ?_;obtain⟨l1,a1,h⟩:=ae h;refine ZF f ?_;refine ZSG f (w_dw _ _ a1) ?_;obtain⟨m1,b1,h⟩:=ae h;refine ZF f ?_;refine ZWG f (w_b _ _ b1) [1000000000] [] ?_;obtain⟨m,l,h⟩:=aK h;have c1:Row.arr 1 [(.i 0:AV),(.i 0:AV),(.i 0:AV),(.i 1:AV),(.i 2:AV)]=Row.arr 1 (m.map AV.i):=by rw[<-l];rfl
    have p:m.length=5:=by rw[<-l];rfl
    obtain⟨p1,d1,h⟩:=ae h;have f:=ZA f (ZA c1 p);refine ZF f ?_;refine ZWG f (w_k _ _ d1) [1000000000,1000000001] [] ?_;obtain⟨q1,g1,h⟩:=ae h;refine ZF f ?_;refine ZUG f (w_dx _ _ g1) ?_;cases h;exact ZL f (ZA e (ZA l.symm p))
 ·cases h;exact ZL g e
def Ki(a:Int×aw)(b:List ByteArray)(v:Int×List az×aw):St:=⟨[(0,.pt 1000000000 0 0),(2,.pt 2 0 0),(3,.i (IntKind.wrap .i64 (2+a.1))),(4,.pt 4 0 0),(7,.i v.1)],[(2,.var (.agg [.lst .u 1 [],.lst .u 4 []])),(4,.var (.agg [.sl 500000256 0 (Int.toNat (IntKind.wrap .i64 (2+a.1))),.sl 500000257 0 v.2.1.length])),(500000256,.arr 1 (b.map AV.z)),(500000257,.arr 4 (v.2.1.map (ai .u))),(1000000000,.var (.agg [.lst .o 1 (((v.2.2).code).map AV.u8),.i ((v.2.2).atF),.sc (.int .u64 ((v.2.2).seed))]))]⟩
def yq(a:Int×aw)(b:List ByteArray)(v:List az×aw):St:=⟨[(2,.pt 2 0 0),(4,.pt 4 0 0)],[(2,.var (.agg [.lst .u 1 [],.lst .u 4 []])),(4,.var (.agg [.sl 500000256 0 (Int.toNat (IntKind.wrap .i64 (2+a.1))),.sl 500000257 0 v.1.length])),(500000256,.arr 1 (b.map AV.z)),(500000257,.arr 4 (v.1.map (ai .u))),(1000000000,.var (.agg [.lst .o 1 (((v.2).code).map AV.u8),.i ((v.2).atF),.sc (.int .u64 ((v.2).seed))]))]⟩
theorem w_aa(b:Int×aw)(c:List ByteArray)(j:Int×List az×aw)(o:(Int×List az×aw)⊕(List az×aw))(h:ye b j=some o):AWP (OkS Tryz.prog) oS (qL [0,2,3,4,7] [2,4,500000256,500000257,1000000000] (Ki b c) (qX 2 [2,4] [2,4,500000256,500000257,1000000000] (yq b c)) o) (Ki b c j):=by
 have e:=ZA @Ki.eq_1 @yq.eq_1;unfold ye at h;simp only[ZC,Ki,oS];obtain⟨a,h⟩|⟨a,h⟩:=aq h
 ·obtain⟨x,m,h⟩:=ae h;refine ZF a ?_;refine ZWG a (w_b _ _ m) [1000000000] [] ?_;obtain⟨y,p,h⟩:=ae h;refine ZF a ?_;refine ZWG a (w_b _ _ p) [1000000000] [] ?_;obtain⟨d,h⟩|⟨d,h⟩:=aq h
  ·obtain⟨z,q,h⟩:=ae h;have f:=ZA a d;refine ZF f ?_;refine ZSG f (w_dv _ _ q) ?_;obtain⟨a1,s,h⟩:=ae h;refine ZF f ?_;refine ZSG f (w_dw _ _ s) ?_;obtain⟨b1,t,h⟩:=ae h;refine ZF f ?_;refine ZWG f (w_b _ _ t) [1000000000] [] ?_;obtain⟨k,g,h⟩:=aK h;have u:Row.arr 1 [(.i 0:AV),(.i 0:AV),(.i 0:AV),(.i 1:AV),(.i 2:AV)]=Row.arr 1 (k.map AV.i):=by rw[<-g];rfl
   have l:k.length=5:=by rw[<-g];rfl
   obtain⟨c1,v,h⟩:=ae h;have f:=ZA f (ZA u l);refine ZF f ?_;refine ZWG f (w_k _ _ v) [1000000000,1000000001] [] ?_;obtain⟨d1,w,h⟩:=ae h;refine ZF f ?_;refine ZUG f (w_dx _ _ w) ?_;cases h;exact ZL f (ZA e (ZA g.symm l))
  ·cases h;exact ZL (ZA a d) e
 ·cases h;exact ZL a e
theorem w_dy(a:aw){r:Nat×Nat×List ByteArray×List az×aw}(h:BC a=some r):OkM Tryz.prog 209 [.pt 1000000000 0 0] [(1000000000,.var (.agg [.lst .o 1 (((a).code).map AV.u8),.i ((a).atF),.sc (.int .u64 ((a).seed))]))] (.agg [.sl 500000128 r.1 r.2.1,.sl 500000129 0 r.2.2.2.1.length]) ([(500000128,.arr 1 (r.2.2.1.map AV.z)),(500000129,.arr 4 (r.2.2.2.1.map (ai .u))),(1000000000,.var (.agg [.lst .o 1 (((r.2.2.2.2).code).map AV.u8),.i ((r.2.2.2.2).atF),.sc (.int .u64 ((r.2.2.2.2).seed))]))]):=by
 refine aY (lr:=[500000128,500000129,1000000000]) bb Uk rfl rfl ?_;unfold BC at h;simp only[ZC,HP,dh];obtain⟨g,j,h⟩:=ae h;refine ZF trivial ?_;refine ZWG trivial (w_b _ _ j) [1000000000] [] ?_;obtain⟨b,d,h⟩:=aK h;have k:Row.arr 1 [(.z (⟨#[97]⟩:ByteArray):AV),(.z (⟨#[98]⟩:ByteArray):AV),(.z (⟨#[99]⟩:ByteArray):AV),(.z (⟨#[100]⟩:ByteArray):AV),(.z (⟨#[101]⟩:ByteArray):AV),(.z (⟨#[102]⟩:ByteArray):AV)]=Row.arr 1 (b.map AV.z):=by rw[<-d];rfl
 have c:b.length=6:=by rw[<-d];rfl
 obtain⟨s,l,h⟩:=ae h;obtain⟨t,m,h⟩:=ae h;have f:=ZA k (ZA c (aI l));try refine ZF f ?_
 refine ax (aX (aB (w_z g b) m ?_)) ?_
 ·exact ZK (ZA @S_z.eq_1 (ZA @OY.eq_1 (ZA d.symm c)))
 ·simp only[ZC,OY,sM];obtain⟨v,p,h⟩:=ae h;refine ZF f ?_;refine ZWG f (w_b _ _ p) [1000000000] [] ?_;obtain⟨w,q,h⟩:=ae h;try refine ZF f ?_
  refine ax (aX (aB (w_aa g b) q ?_)) ?_
  ·exact ZK (ZA @Ki.eq_1 (ZA @yq.eq_1 c))
  ·simp only[ZC,yq,ti];cases h;exact ZL f (ZA @dh.eq_1 c)
theorem w_fv(a:aw){r:Nat×Nat×List ByteArray×List az×aw}(h:KO a=some r):OkM Tryz.prog 207 [.pt 1000000000 0 0] [(1000000000,.var (.agg [.lst .o 1 (((a).code).map AV.u8),.i ((a).atF),.sc (.int .u64 ((a).seed))]))] (.agg [.sl 500000128 r.1 r.2.1,.sl 500000129 0 r.2.2.2.1.length]) ([(500000128,.arr 1 (r.2.2.1.map AV.z)),(500000129,.arr 4 (r.2.2.2.1.map (ai .u))),(1000000000,.var (.agg [.lst .o 1 (((r.2.2.2.2).code).map AV.u8),.i ((r.2.2.2.2).atF),.sc (.int .u64 ((r.2.2.2.2).seed))]))]):=by
 refine aY (lr:=[500000128,500000129,1000000000]) bb UH rfl rfl ?_;unfold KO at h;simp only[ZC,Hi,dh];obtain⟨j,q,h⟩:=ae h;refine ZF trivial ?_;refine ZWG trivial (w_dy _ q) [500000128,500000129,1000000000] [500600128,500600129] ?_;obtain⟨c,h⟩|⟨c,h⟩:=aq h
 ·obtain⟨d,b,h⟩:=aK h;have s:Row.arr 4 [(.agg [.i 0,.i 1,.i 100,.i 0]:AV)]=Row.arr 4 (d.map (ai .u)):=by rw[<-b];rfl
  have k:d.length=1:=by rw[<-b];rfl
  obtain⟨w,t,h⟩:=ae h;have l:=aI t;obtain⟨m,g,h⟩:=aK h;have v:j.2.2.2.1.map (ai .u)++d.map (ai .u)=m.map (ai .u):=by rw[<-g,List.map_append]
  have p:j.2.2.2.1.length+1=m.length:=by simp[<-b,<-g]<;>omega
  rw[p] at l;cases h;exact ZL (ZA c (ZA s (ZA k (ZA l (ZA v p))))) (ZA @dh.eq_1 (ZA b.symm (ZA g.symm k)))
 ·cases h;exact ZL c @dh.eq_1
theorem w_c(c:Int)(d:Int)(g:Int){r:Bool}(h:M_c c d g=some r):Ok Tryz.prog 173 [.i c,.i d,.i g] (.b r):=by
 refine aA bb m173 rfl ?_;unfold M_c at h;simp only[ZC,A173,bJ,aH];obtain⟨a,h⟩|⟨a,h⟩:=aq h
 ·cases h;exact ZL a @bJ.eq_1
 ·cases h;exact ZL a @bJ.eq_1
theorem w_ex(i:Int){r:Bool}(h:Jc i=some r):Ok Tryz.prog 226 [.sc (.int .u8 i)] (.b r):=by
 have e:=@V10.eq_1;refine aA bb m226 rfl ?_;unfold Jc at h;simp only[ZC,A226,V10,aH];obtain⟨a,h⟩|⟨a,h⟩:=aq h
 ·obtain⟨c,h⟩|⟨c,h⟩:=aq h
  ·cases h;exact ZL (ZA a c) e
  ·obtain⟨d,h⟩|⟨d,h⟩:=aq h
   ·cases h;exact ZL (ZA a (ZA c d)) e
   ·cases h;exact ZL (ZA a (ZA c d)) e
 ·obtain⟨g,h⟩|⟨g,h⟩:=aq h
  ·cases h;exact ZL (ZA a g) e
  ·cases h;exact ZL (ZA a g) e
def S_a(a:ByteArray)(v:Int):St:=⟨[(0,.z a),(3,.i v)],[]⟩
def bO(v:Unit):St:=⟨[],[]⟩
theorem w_a(a:ByteArray)(g:Int)(o:Int⊕(Unit⊕Bool))(h:M_a a g=some o):AWP (OkS Tryz.prog) wc (qL [0,3] [] (S_a a) (qS (qX 0 [] [] (bO)) (qR V10 (fun r=>.b r))) o) (S_a a g):=by
 have e:=ZA @S_a.eq_1 @bO.eq_1;unfold M_a at h;simp only[ZC,S_a,wc];obtain⟨c,h⟩|⟨c,h⟩:=aq h
 ·obtain⟨k,i,h⟩:=ae h;obtain⟨l,j,h⟩:=ae h;have f:=ZA c (jf i);refine ZF f ?_;refine ZSG f (w_ex _ j) ?_;obtain⟨d,h⟩|⟨d,h⟩:=aq h
  ·cases h;exact ZL (ZA f d) @V10.eq_1
  ·cases h;exact ZL (ZA f d) e
 ·cases h;exact ZL c e
theorem w_ey(a:ByteArray){r:Bool}(h:HJ a=some r):Ok Tryz.prog 194 [.z a] (.b r):=by
 refine aA bb m194 rfl ?_;unfold HJ at h;simp only[ZC,A194,V10,aH];obtain⟨j,k,h⟩:=ae h;try refine ZF trivial ?_
 refine ax (sh:=(fun v=>⟨[(0,.z a),(17,.b v)],[]⟩)) (s:=j) ?_ ?_
 ·replace h:=k;obtain⟨t,l,h⟩:=ae h;refine ZF trivial ?_;refine ZSG trivial (w_c _ _ _ l) ?_;obtain⟨c,h⟩|⟨c,h⟩:=aq h
  ·cases h;exact ZL c trivial
  ·obtain⟨u,i,h⟩:=ae h;obtain⟨g,h⟩|⟨g,h⟩:=aq h
   ·cases h;exact ZL (ZA c (ZA (jf i) g)) trivial
   ·cases h;exact ZL (ZA c (ZA (jf i) g)) trivial
 ·simp only[ZC,IM];obtain⟨d,h⟩|⟨d,h⟩:=aq h
  ·cases h;exact ZL d @V10.eq_1
  ·obtain⟨m,p,h⟩:=ae h;try refine ZF d ?_
   refine bj (o:=m) (bq cD (aB (w_a a) p ?_)) (fun w hv=>?_) (fun x hv e τ hne hq=>?_)
   ·exact ZK (ZA @S_a.eq_1 @bO.eq_1)
   ·subst hv;simp only[] at h;simp only[ZC,bO,Fd];cases h;exact ZL d @V10.eq_1
   ·subst hv;simp only[] at h;obtain⟨rfl,q⟩:=hq;cases h;exact q
def MC(a:List ByteArray)(b:ByteArray)(v:Int):St:=⟨[(0,.lst .o 1 (a.map AV.z)),(1,.z b),(5,.i v)],[]⟩
theorem w_bx(b:List ByteArray)(c:ByteArray)(g:Int)(o:Int⊕(Unit⊕Int))(h:Dt b c g=some o):AWP (OkS Tryz.prog) xI (qL [0,1,5] [] (MC b c) (qS (qX 0 [] [] (bO)) (qR ay (fun r=>.i r))) o) (MC b c g):=by
 have e:=ZA @MC.eq_1 @bO.eq_1;unfold Dt at h;simp only[ZC,MC,xI];obtain⟨a,h⟩|⟨a,h⟩:=aq h
 ·obtain⟨k,j,h⟩:=ae h;obtain⟨d,h⟩|⟨d,h⟩:=aq h
  ·cases h;exact ZL (ZA a (ZA (aL j) d)) @ay.eq_1
  ·cases h;exact ZL (ZA a (ZA (aL j) d)) e
 ·cases h;exact ZL a e
theorem w_ez(a:List ByteArray)(b:ByteArray){r:Int}(h:GW a b=some r):Ok Tryz.prog 195 [.lst .o 1 (a.map AV.z),.z b] (.i r):=by
 refine aA bb m195 rfl ?_;unfold GW at h;simp only[ZC,A195,ay,aH];obtain⟨c,d,h⟩:=ae h;try refine ZF trivial ?_
 refine bj (o:=c) (bq cD (aB (w_bx a b) d ?_)) (fun j hv=>?_) (fun k hv e τ hne hq=>?_)
 ·exact ZK (ZA @MC.eq_1 @bO.eq_1)
 ·subst hv;simp only[] at h;simp only[ZC,bO,Gt];cases h;exact ZL trivial @ay.eq_1
 ·subst hv;simp only[] at h;obtain⟨rfl,g⟩:=hq;cases h;exact g
theorem w_fq(c:az)(j:Int){r:Bool}(h:Fh c j=some r):Ok Tryz.prog 196 [.agg [.i c.A,.i c.B,.i c.Length,.i c.Risk],.i j] (.b r):=by
 have e:=@ay.eq_1;refine aA bb m196 rfl ?_;unfold Fh at h;simp only[ZC,A196,ay,aH];obtain⟨q,k,h⟩:=ae h;refine ZF trivial ?_;refine ZSG trivial (w_c _ _ _ k) ?_;obtain⟨a,h⟩|⟨a,h⟩:=aq h
 ·obtain⟨s,l,h⟩:=ae h;refine ZF a ?_;refine ZSG a (w_c _ _ _ l) ?_;obtain⟨d,h⟩|⟨d,h⟩:=aq h
  ·obtain⟨t,m,h⟩:=ae h;have f:=ZA a d;refine ZF f ?_;refine ZSG f (w_c _ _ _ m) ?_;obtain⟨g,h⟩|⟨g,h⟩:=aq h
   ·obtain⟨u,p,h⟩:=ae h;have f:=ZA f g;refine ZF f ?_;refine ZSG f (w_c _ _ _ p) ?_;cases h;exact ZL f e
   ·cases h;exact ZL (ZA f g) e
  ·cases h;exact ZL (ZA a d) e
 ·cases h;exact ZL a e
def S_f(a:af)(v:Int):St:=⟨[(1,.pt 1 0 0),(3,.i v)],[(1,.var (.agg [.lst .o 1 (a.Nodes.map AV.z),.lst .o 4 (a.Fibers.map (ai .o))]))]⟩
def kv(a:af)(v:Unit):St:=⟨[(1,.pt 1 0 0)],[(1,.var (.agg [.lst .o 1 (a.Nodes.map AV.z),.lst .o 4 (a.Fibers.map (ai .o))]))]⟩
theorem w_f(a:af)(d:Int)(o:Int⊕(Unit⊕Bool))(h:M_f a d=some o):AWP (OkS Tryz.prog) xu (qL [1,3] [1] (S_f a) (qS (qX 0 [1] [1] (kv a)) (qR V10 (fun r=>.b r))) o) (S_f a d):=by
 have e:=ZA @S_f.eq_1 @kv.eq_1;unfold M_f at h;simp only[ZC,S_f,xu];obtain⟨c,h⟩|⟨c,h⟩:=aq h
 ·obtain⟨k,l,h⟩:=ae h;try refine ZF c ?_
  refine ax (sh:=(fun v=>⟨[(1,.pt 1 0 0),(3,.i d),(41,.b v)],[(1,.var (.agg [.lst .o 1 (a.Nodes.map AV.z),.lst .o 4 (a.Fibers.map (ai .o))]))]⟩)) (s:=k) ?_ ?_
  ·replace h:=l;obtain⟨t,m,h⟩:=ae h;obtain⟨u,p,h⟩:=ae h;have f:=ZA c (aL m);refine ZF f ?_;refine ZSG f (w_ey _ p) ?_;obtain⟨g,h⟩|⟨g,h⟩:=aq h
   ·cases h;exact ZL (ZA f g) trivial
   ·obtain⟨w,q,h⟩:=ae h;have f:=ZA f g;refine ZF f ?_;refine ZSG f (w_ez _ _ q) ?_;cases h;exact ZL f trivial
  ·simp only[ZC,Lz];obtain⟨j,h⟩|⟨j,h⟩:=aq h
   ·cases h;exact ZL (ZA c j) @V10.eq_1
   ·cases h;exact ZL (ZA c j) e
 ·cases h;exact ZL c e
def EB(a:af)(v:Int):St:=⟨[(1,.pt 1 0 0),(4,.i v)],[(1,.var (.agg [.lst .o 1 (a.Nodes.map AV.z),.lst .o 4 (a.Fibers.map (ai .o))]))]⟩
theorem w_cf(c:af)(g:Int)(o:Int⊕(Unit⊕Bool))(h:Av c g=some o):AWP (OkS Tryz.prog) xh (qL [1,4] [1] (EB c) (qS (qX 2 [] [] (bO)) (qR V10 (fun r=>.b r))) o) (EB c g):=by
 have e:=ZA @EB.eq_1 @bO.eq_1;unfold Av at h;simp only[ZC,EB,xh];obtain⟨a,h⟩|⟨a,h⟩:=aq h
 ·obtain⟨l,m,h⟩:=ae h;try refine ZF a ?_
  refine ax (sh:=(fun v=>⟨[(1,.pt 1 0 0),(4,.i g),(77,.b v)],[(1,.var (.agg [.lst .o 1 (c.Nodes.map AV.z),.lst .o 4 (c.Fibers.map (ai .o))]))]⟩)) (s:=l) ?_ ?_
  ·replace h:=m;obtain⟨w,p,h⟩:=ae h;obtain⟨x,q,h⟩:=ae h;have f:=ZA a (aL p);refine ZF f ?_;refine ZSG f (w_fq _ _ q) ?_;obtain⟨d,h⟩|⟨d,h⟩:=aq h
   ·cases h;exact ZL (ZA f d) trivial
   ·obtain⟨j,h⟩|⟨j,h⟩:=aq h
    ·obtain⟨y,t,h⟩:=ae h;obtain⟨a1,u,h⟩:=ae h;have f:=ZA f (ZA d (ZA j (aL t)));refine ZF f ?_;refine ZSG f (w_dk _ _ u) ?_;cases h;exact ZL f trivial
    ·cases h;exact ZL (ZA f (ZA d j)) trivial
  ·simp only[ZC,Im];obtain⟨k,h⟩|⟨k,h⟩:=aq h
   ·cases h;exact ZL (ZA a k) @V10.eq_1
   ·cases h;exact ZL (ZA a k) e
 ·cases h;exact ZL a e
theorem Te(a:af){r:Bool}(h:xZ a=some r):Ok Tryz.prog 131 [.agg [.lst .o 1 (a.Nodes.map AV.z),.lst .o 4 (a.Fibers.map (ai .o))]] (.b r):=by
 refine aA bb m131 rfl ?_;unfold xZ at h;simp only[ZC,A131,V10,aH];obtain⟨g,i,h⟩:=ae h;try refine ZF trivial ?_
 refine ax (sh:=(fun v=>⟨[(1,.pt 1 0 0),(15,.b v)],[(1,.var (.agg [.lst .o 1 (a.Nodes.map AV.z),.lst .o 4 (a.Fibers.map (ai .o))]))]⟩)) (s:=g) ?_ ?_
 ·replace h:=i;obtain⟨u,j,h⟩:=ae h;refine ZF trivial ?_;refine ZSG trivial (w_c _ _ _ j) ?_;obtain⟨d,h⟩|⟨d,h⟩:=aq h
  ·cases h;exact ZL d trivial
  ·cases h;exact ZL d trivial
 ·simp only[ZC,Ll];obtain⟨c,h⟩|⟨c,h⟩:=aq h
  ·cases h;exact ZL c @V10.eq_1
  ·obtain⟨k,l,h⟩:=ae h;try refine ZF c ?_
   refine bj (o:=k) (bq cD (aB (w_f a) l ?_)) (fun w hv=>?_) (fun x hv e τ hne hq=>?_)
   ·exact ZK (ZA @S_f.eq_1 @kv.eq_1)
   ·subst hv;simp only[] at h;simp only[ZC,kv,MJ];obtain⟨m,p,h⟩:=ae h;try refine ZF c ?_
    refine bj (o:=m) (bq cD (aB (w_cf a) p ?_)) (fun y hv=>?_) (fun a1 hv e τ hne hq=>?_)
    ·exact ZK (ZA @EB.eq_1 @bO.eq_1)
    ·subst hv;simp only[] at h;simp only[ZC,bO,Jp];cases h;exact ZL c @V10.eq_1
    ·subst hv;simp only[] at h;obtain⟨rfl,q⟩:=hq;cases h;exact q
   ·subst hv;simp only[] at h;obtain⟨rfl,t⟩:=hq;cases h;exact t
theorem Hd(b:af)(g:Int)(j:Int){r:Int}(h:se b g j=some r):Ok Tryz.prog 233 [.agg [.lst .o 1 (b.Nodes.map AV.z),.lst .o 4 (b.Fibers.map (ai .o))],.i g,.i j] (.i r):=by
 refine aA bb m233 rfl ?_;unfold se at h;simp only[ZC,A233,bJ,aH];obtain⟨k,c,h⟩:=ae h;obtain⟨a,h⟩|⟨a,h⟩:=aq h
 ·cases h;exact ZL (ZA (aL c) a) @bJ.eq_1
 ·obtain⟨d,h⟩|⟨d,h⟩:=aq h
  ·cases h;exact ZL (ZA (aL c) (ZA a d)) @bJ.eq_1
  ·cases h;exact ZL (ZA (aL c) (ZA a d)) @bJ.eq_1
def MT(a:List Int)(b:Int)(v:Int):St:=⟨[(0,.lst .o 1 (a.map AV.i)),(1,.i b),(5,.i v)],[]⟩
theorem w_ci(c:List Int)(d:Int)(i:Int)(o:Int⊕(Unit⊕Bool))(h:CG c d i=some o):AWP (OkS Tryz.prog) JN (qL [0,1,5] [] (MT c d) (qS (qX 0 [] [] (bO)) (qR ay (fun r=>.b r))) o) (MT c d i):=by
 have e:=ZA @MT.eq_1 @bO.eq_1;unfold CG at h;simp only[ZC,MT,JN];obtain⟨a,h⟩|⟨a,h⟩:=aq h
 ·obtain⟨k,j,h⟩:=ae h;obtain⟨g,h⟩|⟨g,h⟩:=aq h
  ·cases h;exact ZL (ZA a (ZA (aL j) g)) @ay.eq_1
  ·cases h;exact ZL (ZA a (ZA (aL j) g)) e
 ·cases h;exact ZL a e
theorem Br(a:List Int)(c:Int){r:Bool}(h:nK a c=some r):Ok Tryz.prog 74 [.lst .o 1 (a.map AV.i),.i c] (.b r):=by
 refine aA bb m74 rfl ?_;unfold nK at h;simp only[ZC,A74,ay,aH];obtain⟨d,g,h⟩:=ae h;try refine ZF trivial ?_
 refine bj (o:=d) (bq cD (aB (w_ci a c) g ?_)) (fun k hv=>?_) (fun l hv e τ hne hq=>?_)
 ·exact ZK (ZA @MT.eq_1 @bO.eq_1)
 ·subst hv;simp only[] at h;simp only[ZC,bO,Sm];cases h;exact ZL trivial @ay.eq_1
 ·subst hv;simp only[] at h;obtain⟨rfl,j⟩:=hq;cases h;exact j
def S_g(a:af)(b:au)(v:Int×List Int):St:=⟨[(2,.pt 2 0 0),(3,.pt 3 0 0),(6,.sl 6 0 v.2.length),(7,.i v.1)],[(2,.var (.agg [.lst .o 1 (a.Nodes.map AV.z),.lst .o 4 (a.Fibers.map (ai .o))])),(3,.var (.agg [.i b.Start,.lst .o 1 (b.Fibers.map AV.i)])),(6,.arr 1 (v.2.map AV.i))]⟩
def li(v:List Int):St:=⟨[(6,.sl 6 0 v.length)],[(6,.arr 1 (v.map AV.i))]⟩
theorem w_g(c:af)(d:au)(a:Int×List Int)(o:(Int×List Int)⊕((List Int)⊕(List Int×Bool)))(h:M_g c d a=some o):AWP (OkS Tryz.prog) vN (qL [2,3,6,7] [2,3,6] (S_g c d) (qS (qX 0 [6] [6] (li)) (qR kW (fun r=>.tup [.lst .u 1 (r.1.map AV.i),.b r.2]))) o) (S_g c d a):=by
 unfold M_g at h;simp only[ZC,S_g,vN];obtain⟨j,h⟩|⟨j,h⟩:=aq h
 ·obtain⟨s1,b1,h⟩:=ae h;obtain⟨t1,c1,h⟩:=ae h;have f:=ZA j (aL b1);refine ZF f ?_;refine ZSG f (w_c _ _ _ c1) ?_;obtain⟨k,h⟩|⟨k,h⟩:=aq h
  ·cases h;exact ZL (ZA f k) @kW.eq_1
  ·obtain⟨u1,d1,h⟩:=ae h;obtain⟨v1,g1,h⟩:=ae h;obtain⟨t,i1,h⟩:=ae h;have f:=ZA f (ZA k (ZA (aI d1) g1));refine ZF f ?_;refine ZSG f (Hd _ _ _ i1) ?_;obtain⟨j1,k1,h⟩:=ae h;try refine ZF f ?_
   refine ax (sh:=(fun v=>⟨[(2,.pt 2 0 0),(3,.pt 3 0 0),(6,.sl 6 0 a.2.length),(7,.i a.1),(8,.i t),(65,.b v)],[(2,.var (.agg [.lst .o 1 (c.Nodes.map AV.z),.lst .o 4 (c.Fibers.map (ai .o))])),(3,.var (.agg [.i d.Start,.lst .o 1 (d.Fibers.map AV.i)])),(6,.arr 1 (a.2.map AV.i))]⟩)) (s:=j1) ?_ ?_
   ·replace h:=k1;obtain⟨l,h⟩|⟨l,h⟩:=aq h
    ·cases h;exact ZL (ZA f l) trivial
    ·obtain⟨w1,l1,h⟩:=ae h;have f:=ZA f l;refine ZF f ?_;refine ZSG f (Br _ _ l1) ?_;cases h;exact ZL f trivial
   ·simp only[ZC,FG];obtain⟨m,h⟩|⟨m,h⟩:=aq h
    ·cases h;exact ZL (ZA f m) @kW.eq_1
    ·obtain⟨p,g,h⟩:=aK h;have m1:Row.arr 1 [(.i t:AV)]=Row.arr 1 (p.map AV.i):=by rw[<-g];rfl
     have w:p.length=1:=by rw[<-g];rfl
     obtain⟨x1,p1,h⟩:=ae h;have x:=aI p1;obtain⟨y,q,h⟩:=aK h;have q1:a.2.map AV.i++p.map AV.i=y.map AV.i:=by rw[<-q,List.map_append]
     have a1:a.2.length+1=y.length:=by simp[<-g,<-q]<;>omega
     rw[a1] at x;cases h;exact ZL (ZA f (ZA m (ZA m1 (ZA w (ZA x (ZA q1 a1)))))) (ZA @S_g.eq_1 (ZA @li.eq_1 (ZA g.symm (ZA q.symm w))))
 ·cases h;exact ZL j (ZA @S_g.eq_1 @li.eq_1)
theorem w_dz(c:af)(a:au){r:List Int×Bool}(h:BK c a=some r):Ok Tryz.prog 227 [.agg [.lst .o 1 (c.Nodes.map AV.z),.lst .o 4 (c.Fibers.map (ai .o))],.agg [.i a.Start,.lst .o 1 (a.Fibers.map AV.i)]] (.tup [.lst .u 1 (r.1.map AV.i),.b r.2]):=by
 refine aA bb m227 rfl ?_;unfold BK at h;simp only[ZC,A227,kW,aH];obtain⟨g,j,h⟩:=aK h;have m:Row.arr 1 [(.i a.Start:AV)]=Row.arr 1 (g.map AV.i):=by rw[<-j];rfl
 have d:g.length=1:=by rw[<-j];rfl
 obtain⟨p,q,h⟩:=ae h;have f:=ZA m d;try refine ZF f ?_
 refine ax (sh:=(fun v=>⟨[(2,.pt 2 0 0),(3,.pt 3 0 0),(6,.sl 6 0 g.length),(25,.b v)],[(2,.var (.agg [.lst .o 1 (c.Nodes.map AV.z),.lst .o 4 (c.Fibers.map (ai .o))])),(3,.var (.agg [.i a.Start,.lst .o 1 (a.Fibers.map AV.i)])),(6,.arr 1 (g.map AV.i))]⟩)) (s:=p) ?_ ?_
 ·replace h:=q;obtain⟨a1,t,h⟩:=ae h;refine ZF f ?_;refine ZSG f (w_c _ _ _ t) ?_;obtain⟨k,h⟩|⟨k,h⟩:=aq h
  ·cases h;exact ZL (ZA f k) (ZA j.symm d)
  ·cases h;exact ZL (ZA f k) (ZA j.symm d)
 ·simp only[ZC,JA];obtain⟨l,h⟩|⟨l,h⟩:=aq h
  ·cases h;exact ZL (ZA f l) (ZA @kW.eq_1 d)
  ·obtain⟨w,x,h⟩:=ae h;have f:=ZA f l;try refine ZF f ?_
   refine bj (o:=w) (bq cD (aB (w_g c a) x ?_)) (fun b1 hv=>?_) (fun c1 hv e τ hne hq=>?_)
   ·exact ZK (ZA @S_g.eq_1 (ZA @li.eq_1 d))
   ·subst hv;simp only[] at h;simp only[ZC,li,Gl];cases h;exact ZL f (ZA @kW.eq_1 d)
   ·subst hv;simp only[] at h;obtain⟨rfl,y⟩:=hq;cases h;exact y
theorem w_dr(c:af)(d:au){r:Bool}(h:wD c d=some r):Ok Tryz.prog 198 [.agg [.lst .o 1 (c.Nodes.map AV.z),.lst .o 4 (c.Fibers.map (ai .o))],.agg [.i d.Start,.lst .o 1 (d.Fibers.map AV.i)]] (.b r):=by
 refine aA bb m198 rfl ?_;unfold wD at h;simp only[ZC,A198,ay,aH];obtain⟨k,g,h⟩:=ae h;refine ZF trivial ?_;refine ZSG trivial (Te _ g) ?_;obtain⟨a,h⟩|⟨a,h⟩:=aq h
 ·cases h;exact ZL a @ay.eq_1
 ·obtain⟨l,j,h⟩:=ae h;refine ZF a ?_;refine ZUG a (w_dz _ _ j) ?_;cases h;exact ZL a @ay.eq_1
theorem w_ea(c:aM){r:Bool}(h:CD c=some r):Ok Tryz.prog 199 [.agg [.i c.First,.i c.Count]] (.b r):=by
 refine aA bb m199 rfl ?_;unfold CD at h;simp only[ZC,A199,V10,aH];obtain⟨j,d,h⟩:=ae h;refine ZF trivial ?_;refine ZSG trivial (w_c _ _ _ d) ?_;obtain⟨a,h⟩|⟨a,h⟩:=aq h
 ·obtain⟨k,g,h⟩:=ae h;refine ZF a ?_;refine ZSG a (w_c _ _ _ g) ?_;cases h;exact ZL a @V10.eq_1
 ·cases h;exact ZL a @V10.eq_1
theorem w_hm(a:af)(b:au){r:List Int}(h:Oe a b=some r):Ok Tryz.prog 228 [.agg [.lst .o 1 (a.Nodes.map AV.z),.lst .o 4 (a.Fibers.map (ai .o))],.agg [.i b.Start,.lst .o 1 (b.Fibers.map AV.i)]] (.lst .u 1 (r.map AV.i)):=by
 refine aA bb m228 rfl ?_;unfold Oe at h;simp only[ZC,A228,ay,aH];obtain⟨d,c,h⟩:=ae h;refine ZF trivial ?_;refine ZUG trivial (w_dz _ _ c) ?_;cases h;exact ZL trivial @ay.eq_1
theorem w_eb(a:af)(b:au){r:Int}(h:DT a b=some r):Ok Tryz.prog 200 [.agg [.lst .o 1 (a.Nodes.map AV.z),.lst .o 4 (a.Fibers.map (ai .o))],.agg [.i b.Start,.lst .o 1 (b.Fibers.map AV.i)]] (.i r):=by
 refine aA bb m200 rfl ?_;unfold DT at h;simp only[ZC,A200,ay,aH];obtain⟨j,c,h⟩:=ae h;refine ZF trivial ?_;refine ZUG trivial (w_hm _ _ c) ?_;obtain⟨k,d,h⟩:=ae h;obtain⟨l,g,h⟩:=ae h;cases h;exact ZL (ZA (aI d) g) @ay.eq_1
def S_d(a:af)(b:Int)(v:Int×List Int):St:=⟨[(1,.i b),(2,.pt 2 0 0),(5,.sl 5 0 v.2.length),(6,.i v.1)],[(2,.var (.agg [.lst .o 1 (a.Nodes.map AV.z),.lst .o 4 (a.Fibers.map (ai .o))])),(5,.arr 1 (v.2.map AV.i))]⟩
def gP(v:List Int):St:=⟨[(5,.sl 5 0 v.length)],[(5,.arr 1 (v.map AV.i))]⟩
theorem w_d(d:af)(g:Int)(a:Int×List Int)(o:(Int×List Int)⊕(List Int))(h:M_d d g a=some o):AWP (OkS Tryz.prog) we (qL [1,2,5,6] [2,5] (S_d d g) (qX 0 [5] [5] (gP)) o) (S_d d g a):=by
 have e:=ZA @S_d.eq_1 @gP.eq_1;unfold M_d at h;simp only[ZC,S_d,we];obtain⟨b,h⟩|⟨b,h⟩:=aq h
 ·obtain⟨y,m,h⟩:=ae h;obtain⟨z,p,h⟩:=ae h;obtain⟨j,h⟩|⟨j,h⟩:=aq h
  ·obtain⟨k,c,h⟩:=aK h;have v:Row.arr 1 [(.i a.1:AV)]=Row.arr 1 (k.map AV.i):=by rw[<-c];rfl
   have q:k.length=1:=by rw[<-c];rfl
   obtain⟨a1,w,h⟩:=ae h;have s:=aI w;obtain⟨t,l,h⟩:=aK h;have x:a.2.map AV.i++k.map AV.i=t.map AV.i:=by rw[<-l,List.map_append]
   have u:a.2.length+1=t.length:=by simp[<-c,<-l]<;>omega
   rw[u] at s;cases h;exact ZL (ZA b (ZA (aL m) (ZA (aL p) (ZA j (ZA v (ZA q (ZA s (ZA x u)))))))) (ZA e (ZA c.symm (ZA l.symm q)))
  ·cases h;exact ZL (ZA b (ZA (aL m) (ZA (aL p) j))) e
 ·cases h;exact ZL b e
theorem w_cz(a:af)(b:Int){r:List Int}(h:pK a b=some r):Ok Tryz.prog 192 [.agg [.lst .o 1 (a.Nodes.map AV.z),.lst .o 4 (a.Fibers.map (ai .o))],.i b] (.lst .u 1 (r.map AV.i)):=by
 refine aA bb m192 rfl ?_;unfold pK at h;simp only[ZC,A192,ay,aH];obtain⟨q,j,h⟩:=ae h;obtain⟨g,h⟩|⟨g,h⟩:=aq h
 ·obtain⟨c,d,h⟩:=aK h;have l:Row.arr 1 [(.i b:AV)]=Row.arr 1 (c.map AV.i):=by rw[<-d];rfl
  have k:c.length=1:=by rw[<-d];rfl
  have m:sub (c.map AV.i) 0 1=c.map AV.i:=uY _ (by simp[<-d]);cases h;exact ZL (ZA (aL j) (ZA g (ZA l (ZA k m)))) (ZA @ay.eq_1 (ZA d.symm k))
 ·obtain⟨s,p,h⟩:=ae h;have f:=ZA (aL j) g;try refine ZF f ?_
  refine ax (aX (aB (w_d a b) p ?_)) ?_
  ·exact ZK (ZA @S_d.eq_1 @gP.eq_1)
  ·simp only[ZC,gP,Nb];cases h;exact ZL f @ay.eq_1
def HA(a:af)(b:au)(c:au)(g:Int)(d:List Int)(v:Int):St:=⟨[(3,.pt 3 0 0),(4,.pt 4 0 0),(5,.pt 5 0 0),(7,.i g),(8,.sl 8 0 d.length),(9,.i v)],[(3,.var (.agg [.lst .o 1 (a.Nodes.map AV.z),.lst .o 4 (a.Fibers.map (ai .o))])),(4,.var (.agg [.i b.Start,.lst .o 1 (b.Fibers.map AV.i)])),(5,.var (.agg [.i c.Start,.lst .o 1 (c.Fibers.map AV.i)])),(8,.arr 1 (d.map AV.i))]⟩
def zy(a:af)(b:au)(c:au)(d:Int)(v:Unit):St:=⟨[(3,.pt 3 0 0),(4,.pt 4 0 0),(5,.pt 5 0 0),(7,.i d)],[(3,.var (.agg [.lst .o 1 (a.Nodes.map AV.z),.lst .o 4 (a.Fibers.map (ai .o))])),(4,.var (.agg [.i b.Start,.lst .o 1 (b.Fibers.map AV.i)])),(5,.var (.agg [.i c.Start,.lst .o 1 (c.Fibers.map AV.i)]))]⟩
theorem w_ab(c:af)(d:au)(a:au)(g:Int)(i:List Int)(l:Int)(o:Int⊕(Unit⊕Bool))(h:Cy a i l=some o):AWP (OkS Tryz.prog) xj (qL [3,4,5,7,8,9] [3,4,5,8] (HA c d a g i) (qS (qX 2 [3,4,5,7] [3,4,5] (zy c d a g)) (qR bJ (fun r=>.b r))) o) (HA c d a g i l):=by
 have e:=ZA @HA.eq_1 @zy.eq_1;unfold Cy at h;simp only[ZC,HA,xj];obtain⟨j,h⟩|⟨j,h⟩:=aq h
 ·obtain⟨q,m,h⟩:=ae h;obtain⟨s,p,h⟩:=ae h;have f:=ZA j (aL m);refine ZF f ?_;refine ZSG f (Br _ _ p) ?_;obtain⟨k,h⟩|⟨k,h⟩:=aq h
  ·cases h;exact ZL (ZA f k) @bJ.eq_1
  ·cases h;exact ZL (ZA f k) e
 ·cases h;exact ZL j e
def Jz(a:af)(b:au)(c:au)(v:Int):St:=⟨[(3,.pt 3 0 0),(4,.pt 4 0 0),(5,.pt 5 0 0),(7,.i v)],[(3,.var (.agg [.lst .o 1 (a.Nodes.map AV.z),.lst .o 4 (a.Fibers.map (ai .o))])),(4,.var (.agg [.i b.Start,.lst .o 1 (b.Fibers.map AV.i)])),(5,.var (.agg [.i c.Start,.lst .o 1 (c.Fibers.map AV.i)]))]⟩
theorem w_cj(a:af)(c:au)(d:au)(g:Int)(o:Int⊕(Unit⊕Bool))(h:AD a c d g=some o):AWP (OkS Tryz.prog) xF (qL [3,4,5,7] [3,4,5] (Jz a c d) (qS (qX 0 [] [] (bO)) (qR bJ (fun r=>.b r))) o) (Jz a c d g):=by
 have e:=ZA @Jz.eq_1 @bO.eq_1;unfold AD at h;simp only[ZC,Jz,xF];obtain⟨j,h⟩|⟨j,h⟩:=aq h
 ·obtain⟨u,w,h⟩:=ae h;try refine ZF j ?_
  refine bj (sh:=(fun v=>⟨[(3,.pt 3 0 0),(4,.pt 4 0 0),(5,.pt 5 0 0),(7,.i g)],[(3,.var (.agg [.lst .o 1 (a.Nodes.map AV.z),.lst .o 4 (a.Fibers.map (ai .o))])),(4,.var (.agg [.i c.Start,.lst .o 1 (c.Fibers.map AV.i)])),(5,.var (.agg [.i d.Start,.lst .o 1 (d.Fibers.map AV.i)]))]⟩)) (q:=(qR bJ (fun r=>.b r))) (o:=u) ?_ (fun c1 hv=>?_) (fun d1 hv e τ hne hq=>?_)
  ·replace h:=w;obtain⟨g1,x,h⟩:=ae h;obtain⟨k,y,h⟩:=ae h;have f:=ZA j (aL x);refine ZF f ?_;refine ZUG f (w_cz _ _ y) ?_;obtain⟨l,m,h⟩:=ae h;try refine ZF f ?_
   first|refine jC (o:=l) (bq cD (aB (w_ab a c d g k) m ?_)) (fun a1 hv τ p=>?_) (fun b1 hv e τ hne hq=>?_)|refine nH (o:=l) cD (aB (w_ab a c d g k) m ?_) (fun a1 hv τ p=>?_) (fun b1 hv e τ hne hq=>?_)
   ·exact ZK (ZA @HA.eq_1 @zy.eq_1)
   ·subst hv;simp only[] at h;cases h;try refine ZF trivial ?_
    refine⟨rfl,Shp.sub p (by decide) (by decide) ?_⟩;exact ZK @zy.eq_1
   ·subst hv;simp only[] at h;obtain⟨rfl,s⟩:=hq;cases h;try refine ZF trivial ?_
    first|exact⟨by simp,s⟩|exact⟨by simp,rfl,s⟩
  ·subst hv;simp only[] at h;simp only[ZC,KQ];cases h;exact ZL j e
  ·subst hv;simp only[] at h;obtain⟨rfl,t⟩:=hq;cases h;try refine ZF trivial ?_
   first|exact⟨by simp,t⟩|exact⟨by simp,rfl,t⟩
 ·cases h;exact ZL j e
theorem Re(a:af)(c:au)(d:au){r:Bool}(h:sI a c d=some r):Ok Tryz.prog 185 [.agg [.lst .o 1 (a.Nodes.map AV.z),.lst .o 4 (a.Fibers.map (ai .o))],.agg [.i c.Start,.lst .o 1 (c.Fibers.map AV.i)],.agg [.i d.Start,.lst .o 1 (d.Fibers.map AV.i)]] (.b r):=by
 refine aA bb m185 rfl ?_;unfold sI at h;simp only[ZC,A185,bJ,aH];obtain⟨g,j,h⟩:=ae h;try refine ZF trivial ?_
 refine bj (o:=g) (bq cD (aB (w_cj a c d) j ?_)) (fun l hv=>?_) (fun m hv e τ hne hq=>?_)
 ·exact ZK (ZA @Jz.eq_1 @bO.eq_1)
 ·subst hv;simp only[] at h;simp only[ZC,bO,Ij];cases h;exact ZL trivial @bJ.eq_1
 ·subst hv;simp only[] at h;obtain⟨rfl,k⟩:=hq;cases h;exact k
theorem w_fw(d:af)(a:ah){r:Bool}(h:Mx d a=some r):Ok Tryz.prog 132 [.agg [.lst .o 1 (d.Nodes.map AV.z),.lst .o 4 (d.Fibers.map (ai .o))],.agg [.i a.Id,.i a.Class,.i a.Work.Start,.lst .o 1 (a.Work.Fibers.map AV.i),.i a.WorkBlock.First,.i a.WorkBlock.Count,.i a.Spare.Start,.lst .o 1 (a.Spare.Fibers.map AV.i),.i a.SpareBlock.First,.i a.SpareBlock.Count]] (.b r):=by
 have e:=@ay.eq_1;refine aA bb m132 rfl ?_;unfold Mx at h;simp only[ZC,A132,ay,aH];obtain⟨x,y,h⟩:=ae h;try refine ZF trivial ?_
 refine ax (sh:=(fun v=>⟨[(2,.pt 2 0 0),(3,.pt 3 0 0),(27,.b v)],[(2,.var (.agg [.lst .o 1 (d.Nodes.map AV.z),.lst .o 4 (d.Fibers.map (ai .o))])),(3,.var (.agg [.i a.Id,.i a.Class,.i a.Work.Start,.lst .o 1 (a.Work.Fibers.map AV.i),.i a.WorkBlock.First,.i a.WorkBlock.Count,.i a.Spare.Start,.lst .o 1 (a.Spare.Fibers.map AV.i),.i a.SpareBlock.First,.i a.SpareBlock.Count]))]⟩)) (s:=x) ?_ ?_
 ·replace h:=y;obtain⟨q1,a1,h⟩:=ae h;refine ZF trivial ?_;refine ZSG trivial (w_c _ _ _ a1) ?_;obtain⟨c,h⟩|⟨c,h⟩:=aq h
  ·cases h;exact ZL c trivial
  ·obtain⟨s1,b1,h⟩:=ae h;refine ZF c ?_;refine ZSG c (w_c _ _ _ b1) ?_;obtain⟨l,h⟩|⟨l,h⟩:=aq h
   ·cases h;exact ZL (ZA c l) trivial
   ·obtain⟨t1,c1,h⟩:=ae h;have f:=ZA c l;refine ZF f ?_;refine ZSG f (w_dr _ _ c1) ?_;obtain⟨m,h⟩|⟨m,h⟩:=aq h
    ·cases h;exact ZL (ZA f m) trivial
    ·obtain⟨u1,d1,h⟩:=ae h;have f:=ZA f m;refine ZF f ?_;refine ZSG f (w_ea _ d1) ?_;cases h;exact ZL f trivial
 ·simp only[ZC,HV];obtain⟨g,h⟩|⟨g,h⟩:=aq h
  ·cases h;exact ZL g e
  ·obtain⟨p,h⟩|⟨p,h⟩:=aq h
   ·obtain⟨g1,i1,h⟩:=ae h;have f:=ZA g p;try refine ZF f ?_
    refine ax (sh:=(fun v=>⟨[(4,.b v)],[]⟩)) (s:=g1) ?_ ?_
    ·replace h:=i1;obtain⟨j,h⟩|⟨j,h⟩:=aq h
     ·obtain⟨q,h⟩|⟨q,h⟩:=aq h
      ·cases h;exact ZL (ZA f (ZA j q)) trivial
      ·cases h;exact ZL (ZA f (ZA j q)) trivial
     ·cases h;exact ZL (ZA f j) trivial
    ·simp only[ZC,Kq];cases h;exact ZL f e
   ·obtain⟨v1,j1,h⟩:=ae h;have f:=ZA g p;refine ZF f ?_;refine ZSG f (w_dr _ _ j1) ?_;obtain⟨t,h⟩|⟨t,h⟩:=aq h
    ·obtain⟨w1,k1,h⟩:=ae h;have f:=ZA f t;refine ZF f ?_;refine ZSG f (w_ea _ k1) ?_;obtain⟨k,h⟩|⟨k,h⟩:=aq h
     ·obtain⟨u,h⟩|⟨u,h⟩:=aq h
      ·obtain⟨x1,l1,h⟩:=ae h;have f:=ZA f (ZA k u);refine ZF f ?_;refine ZSG f (w_eb _ _ l1) ?_;obtain⟨y1,m1,h⟩:=ae h;refine ZF f ?_;refine ZSG f (w_eb _ _ m1) ?_;obtain⟨w,h⟩|⟨w,h⟩:=aq h
       ·obtain⟨z1,p1,h⟩:=ae h;have f:=ZA f w;refine ZF f ?_;refine ZSG f (Re _ _ _ p1) ?_;cases h;exact ZL f e
       ·cases h;exact ZL (ZA f w) e
      ·cases h;exact ZL (ZA f (ZA k u)) e
     ·cases h;exact ZL (ZA f k) e
    ·cases h;exact ZL (ZA f t) e
def HM(a:au)(b:List Int)(v:Int):St:=⟨[(1,.lst .o 1 (b.map AV.i)),(2,.pt 2 0 0),(5,.i v)],[(2,.var (.agg [.i a.Start,.lst .o 1 (a.Fibers.map AV.i)]))]⟩
theorem w_cl(a:au)(c:List Int)(i:Int)(o:Int⊕(Unit⊕Bool))(h:Cv a c i=some o):AWP (OkS Tryz.prog) wC (qL [1,2,5] [2] (HM a c) (qS (qX 0 [] [] (bO)) (qR ay (fun r=>.b r))) o) (HM a c i):=by
 have e:=ZA @HM.eq_1 @bO.eq_1;unfold Cv at h;simp only[ZC,HM,wC];obtain⟨d,h⟩|⟨d,h⟩:=aq h
 ·obtain⟨l,j,h⟩:=ae h;obtain⟨m,k,h⟩:=ae h;have f:=ZA d (aL j);refine ZF f ?_;refine ZSG f (Br _ _ k) ?_;obtain⟨g,h⟩|⟨g,h⟩:=aq h
  ·cases h;exact ZL (ZA f g) @ay.eq_1
  ·cases h;exact ZL (ZA f g) e
 ·cases h;exact ZL d e
theorem UY(a:au)(c:List Int){r:Bool}(h:yf a c=some r):Ok Tryz.prog 144 [.agg [.i a.Start,.lst .o 1 (a.Fibers.map AV.i)],.lst .o 1 (c.map AV.i)] (.b r):=by
 refine aA bb m144 rfl ?_;unfold yf at h;simp only[ZC,A144,ay,aH];obtain⟨d,g,h⟩:=ae h;try refine ZF trivial ?_
 refine bj (o:=d) (bq cD (aB (w_cl a c) g ?_)) (fun k hv=>?_) (fun l hv e τ hne hq=>?_)
 ·exact ZK (ZA @HM.eq_1 @bO.eq_1)
 ·subst hv;simp only[] at h;simp only[ZC,bO,GM];cases h;exact ZL trivial @ay.eq_1
 ·subst hv;simp only[] at h;obtain⟨rfl,j⟩:=hq;cases h;exact j
theorem w_ec(a:aM){r:Int}(h:Bl a=some r):Ok Tryz.prog 75 [.agg [.i a.First,.i a.Count]] (.i r):=by
 refine aA bb m75 rfl ?_;unfold Bl at h;simp only[ZC,A75,V10,aH];obtain⟨d,b,h⟩:=ae h;obtain⟨g,c,h⟩:=ae h;cases h;exact ZL (ZA (aI b) (aI c)) @V10.eq_1
theorem Jh(d:au)(g:aM)(j:au)(k:aM){r:Bool}(h:rZ d g j k=some r):Ok Tryz.prog 145 [.agg [.i d.Start,.lst .o 1 (d.Fibers.map AV.i)],.agg [.i g.First,.i g.Count],.agg [.i j.Start,.lst .o 1 (j.Fibers.map AV.i)],.agg [.i k.First,.i k.Count]] (.b r):=by
 have e:=@gU.eq_1;refine aA bb m145 rfl ?_;unfold rZ at h;simp only[ZC,A145,gU,aH];obtain⟨s,m,h⟩:=ae h;refine ZF trivial ?_;refine ZSG trivial (UY _ _ m) ?_;obtain⟨a,h⟩|⟨a,h⟩:=aq h
 ·obtain⟨c,h⟩|⟨c,h⟩:=aq h
  ·obtain⟨l,h⟩|⟨l,h⟩:=aq h
   ·obtain⟨t,p,h⟩:=ae h;have f:=ZA a (ZA c l);refine ZF f ?_;refine ZSG f (w_ec _ p) ?_;obtain⟨u,q,h⟩:=ae h;refine ZF f ?_;refine ZSG f (w_ec _ q) ?_;cases h;exact ZL f e
   ·cases h;exact ZL (ZA a (ZA c l)) e
  ·cases h;exact ZL (ZA a c) e
 ·cases h;exact ZL a e
theorem w_dn(j:af)(a:ah)(c:ah){r:Bool}(h:tj j a c=some r):Ok Tryz.prog 133 [.agg [.lst .o 1 (j.Nodes.map AV.z),.lst .o 4 (j.Fibers.map (ai .o))],.agg [.i a.Id,.i a.Class,.i a.Work.Start,.lst .o 1 (a.Work.Fibers.map AV.i),.i a.WorkBlock.First,.i a.WorkBlock.Count,.i a.Spare.Start,.lst .o 1 (a.Spare.Fibers.map AV.i),.i a.SpareBlock.First,.i a.SpareBlock.Count],.agg [.i c.Id,.i c.Class,.i c.Work.Start,.lst .o 1 (c.Work.Fibers.map AV.i),.i c.WorkBlock.First,.i c.WorkBlock.Count,.i c.Spare.Start,.lst .o 1 (c.Spare.Fibers.map AV.i),.i c.SpareBlock.First,.i c.SpareBlock.Count]] (.b r):=by
 refine aA bb m133 rfl ?_;unfold tj at h;simp only[ZC,A133,bJ,aH];obtain⟨q,t,h⟩:=ae h;try refine ZF trivial ?_
 refine ax (sh:=(fun v=>⟨[(3,.pt 3 0 0),(4,.pt 4 0 0),(5,.pt 5 0 0),(37,.b v)],[(3,.var (.agg [.lst .o 1 (j.Nodes.map AV.z),.lst .o 4 (j.Fibers.map (ai .o))])),(4,.var (.agg [.i a.Id,.i a.Class,.i a.Work.Start,.lst .o 1 (a.Work.Fibers.map AV.i),.i a.WorkBlock.First,.i a.WorkBlock.Count,.i a.Spare.Start,.lst .o 1 (a.Spare.Fibers.map AV.i),.i a.SpareBlock.First,.i a.SpareBlock.Count])),(5,.var (.agg [.i c.Id,.i c.Class,.i c.Work.Start,.lst .o 1 (c.Work.Fibers.map AV.i),.i c.WorkBlock.First,.i c.WorkBlock.Count,.i c.Spare.Start,.lst .o 1 (c.Spare.Fibers.map AV.i),.i c.SpareBlock.First,.i c.SpareBlock.Count]))]⟩)) (s:=q) ?_ ?_
 ·replace h:=t;obtain⟨d1,u,h⟩:=ae h;refine ZF trivial ?_;refine ZSG trivial (Jh _ _ _ _ u) ?_;obtain⟨g,h⟩|⟨g,h⟩:=aq h
  ·cases h;exact ZL g trivial
  ·obtain⟨g1,w,h⟩:=ae h;refine ZF g ?_;refine ZSG g (Jh _ _ _ _ w) ?_;obtain⟨l,h⟩|⟨l,h⟩:=aq h
   ·cases h;exact ZL (ZA g l) trivial
   ·obtain⟨i1,x,h⟩:=ae h;have f:=ZA g l;refine ZF f ?_;refine ZSG f (Jh _ _ _ _ x) ?_;cases h;exact ZL f trivial
 ·simp only[ZC,Fj];obtain⟨d,h⟩|⟨d,h⟩:=aq h
  ·cases h;exact ZL d @bJ.eq_1
  ·obtain⟨y,a1,h⟩:=ae h;try refine ZF d ?_
   refine ax (sh:=(fun v=>⟨[(4,.pt 4 0 0),(5,.pt 5 0 0),(53,.b v)],[(4,.var (.agg [.i a.Id,.i a.Class,.i a.Work.Start,.lst .o 1 (a.Work.Fibers.map AV.i),.i a.WorkBlock.First,.i a.WorkBlock.Count,.i a.Spare.Start,.lst .o 1 (a.Spare.Fibers.map AV.i),.i a.SpareBlock.First,.i a.SpareBlock.Count])),(5,.var (.agg [.i c.Id,.i c.Class,.i c.Work.Start,.lst .o 1 (c.Work.Fibers.map AV.i),.i c.WorkBlock.First,.i c.WorkBlock.Count,.i c.Spare.Start,.lst .o 1 (c.Spare.Fibers.map AV.i),.i c.SpareBlock.First,.i c.SpareBlock.Count]))]⟩)) (s:=y) ?_ ?_
   ·replace h:=a1;obtain⟨k,h⟩|⟨k,h⟩:=aq h
    ·obtain⟨m,h⟩|⟨m,h⟩:=aq h
     ·obtain⟨j1,b1,h⟩:=ae h;have f:=ZA d (ZA k m);refine ZF f ?_;refine ZSG f (Re _ _ _ b1) ?_;cases h;exact ZL f trivial
     ·cases h;exact ZL (ZA d (ZA k m)) trivial
    ·cases h;exact ZL (ZA d k) trivial
   ·simp only[ZC,KM];obtain⟨p,h⟩|⟨p,h⟩:=aq h
    ·cases h;exact ZL (ZA d p) @bJ.eq_1
    ·obtain⟨k1,c1,h⟩:=ae h;have f:=ZA d p;refine ZF f ?_;refine ZSG f (Jh _ _ _ _ c1) ?_;cases h;exact ZL f @bJ.eq_1
def S_p(a:af)(b:List ah)(c:Int)(v:Int):St:=⟨[(1,.lst .o 10 (b.map (aj .o))),(2,.pt 2 0 0),(5,.i c),(6,.i v)],[(2,.var (.agg [.lst .o 1 (a.Nodes.map AV.z),.lst .o 4 (a.Fibers.map (ai .o))]))]⟩
def PL(a:af)(b:List ah)(c:Int)(v:Unit):St:=⟨[(1,.lst .o 10 (b.map (aj .o))),(2,.pt 2 0 0),(5,.i c)],[(2,.var (.agg [.lst .o 1 (a.Nodes.map AV.z),.lst .o 4 (a.Fibers.map (ai .o))]))]⟩
theorem w_p(a:af)(c:List ah)(d:Int)(j:Int)(o:Int⊕(Unit⊕Bool))(h:M_p a c d j=some o):AWP (OkS Tryz.prog) EE (qL [1,2,5,6] [2] (S_p a c d) (qS (qX 2 [1,2,5] [2] (PL a c d)) (qR ay (fun r=>.b r))) o) (S_p a c d j):=by
 have e:=ZA @S_p.eq_1 @PL.eq_1;unfold M_p at h;simp only[ZC,S_p,EE];obtain⟨g,h⟩|⟨g,h⟩:=aq h
 ·obtain⟨p,k,h⟩:=ae h;obtain⟨q,l,h⟩:=ae h;obtain⟨s,m,h⟩:=ae h;have f:=ZA g (ZA (aL k) (aL l));refine ZF f ?_;refine ZSG f (w_dn _ _ _ m) ?_;obtain⟨i,h⟩|⟨i,h⟩:=aq h
  ·cases h;exact ZL (ZA f i) @ay.eq_1
  ·cases h;exact ZL (ZA f i) e
 ·cases h;exact ZL g e
def EH(a:af)(b:List ah)(v:Int):St:=⟨[(1,.lst .o 10 (b.map (aj .o))),(2,.pt 2 0 0),(5,.i v)],[(2,.var (.agg [.lst .o 1 (a.Nodes.map AV.z),.lst .o 4 (a.Fibers.map (ai .o))]))]⟩
theorem w_cm(a:af)(d:List ah)(g:Int)(o:Int⊕(Unit⊕Bool))(h:CP a d g=some o):AWP (OkS Tryz.prog) Hw (qL [1,2,5] [2] (EH a d) (qS (qX 0 [] [] (bO)) (qR ay (fun r=>.b r))) o) (EH a d g):=by
 have e:=ZA @EH.eq_1 @bO.eq_1;unfold CP at h;simp only[ZC,EH,Hw];obtain⟨c,h⟩|⟨c,h⟩:=aq h
 ·obtain⟨x,y,h⟩:=ae h;try refine ZF c ?_
  refine bj (sh:=(fun v=>⟨[(1,.lst .o 10 (d.map (aj .o))),(2,.pt 2 0 0),(5,.i g)],[(2,.var (.agg [.lst .o 1 (a.Nodes.map AV.z),.lst .o 4 (a.Fibers.map (ai .o))]))]⟩)) (q:=(qR ay (fun r=>.b r))) (o:=x) ?_ (fun k1 hv=>?_) (fun l1 hv e τ hne hq=>?_)
  ·replace h:=y;obtain⟨a1,b1,h⟩:=ae h;try refine ZF c ?_
   refine ax (sh:=(fun v=>⟨[(1,.lst .o 10 (d.map (aj .o))),(2,.pt 2 0 0),(5,.i g),(45,.b v)],[(2,.var (.agg [.lst .o 1 (a.Nodes.map AV.z),.lst .o 4 (a.Fibers.map (ai .o))]))]⟩)) (s:=a1) ?_ ?_
   ·replace h:=b1;obtain⟨m1,c1,h⟩:=ae h;obtain⟨p1,d1,h⟩:=ae h;have f:=ZA c (aL c1);refine ZF f ?_;refine ZSG f (w_fw _ _ d1) ?_;obtain⟨j,h⟩|⟨j,h⟩:=aq h
    ·cases h;exact ZL (ZA f j) trivial
    ·obtain⟨k,h⟩|⟨k,h⟩:=aq h
     ·obtain⟨q1,g1,h⟩:=ae h;cases h;exact ZL (ZA f (ZA j (ZA k (aL g1)))) trivial
     ·cases h;exact ZL (ZA f (ZA j k)) trivial
   ·simp only[ZC,Sd];obtain⟨l,h⟩|⟨l,h⟩:=aq h
    ·cases h;exact ZL (ZA c l) @ay.eq_1
    ·obtain⟨m,p,h⟩:=ae h;try refine ZF (ZA c l) ?_
     first|refine jC (o:=m) (bq cD (aB (w_p a d g) p ?_)) (fun i1 hv τ t=>?_) (fun j1 hv e τ hne hq=>?_)|refine nH (o:=m) cD (aB (w_p a d g) p ?_) (fun i1 hv τ t=>?_) (fun j1 hv e τ hne hq=>?_)
     ·exact ZK (ZA @S_p.eq_1 @PL.eq_1)
     ·subst hv;simp only[] at h;cases h;try refine ZF trivial ?_
      refine⟨rfl,Shp.sub t (by decide) (by decide) ?_⟩;exact ZK @PL.eq_1
     ·subst hv;simp only[] at h;obtain⟨rfl,u⟩:=hq;cases h;try refine ZF trivial ?_
      first|exact⟨by simp,u⟩|exact⟨by simp,rfl,u⟩
  ·subst hv;simp only[] at h;simp only[ZC,Rk];cases h;exact ZL c e
  ·subst hv;simp only[] at h;obtain⟨rfl,w⟩:=hq;cases h;try refine ZF trivial ?_
   first|exact⟨by simp,w⟩|exact⟨by simp,rfl,w⟩
 ·cases h;exact ZL c e
theorem VJ(a:af)(c:List ah){r:Bool}(h:wK a c=some r):Ok Tryz.prog 88 [.agg [.lst .o 1 (a.Nodes.map AV.z),.lst .o 4 (a.Fibers.map (ai .o))],.lst .o 10 (c.map (aj .o))] (.b r):=by
 refine aA bb m88 rfl ?_;unfold wK at h;simp only[ZC,A88,ay,aH];obtain⟨i,j,h⟩:=ae h;try refine ZF trivial ?_
 refine ax (sh:=(fun v=>⟨[(1,.lst .o 10 (c.map (aj .o))),(2,.pt 2 0 0),(14,.b v)],[(2,.var (.agg [.lst .o 1 (a.Nodes.map AV.z),.lst .o 4 (a.Fibers.map (ai .o))]))]⟩)) (s:=i) ?_ ?_
 ·replace h:=j;obtain⟨q,k,h⟩:=ae h;refine ZF trivial ?_;refine ZSG trivial (Te _ k) ?_;obtain⟨g,h⟩|⟨g,h⟩:=aq h
  ·cases h;exact ZL g trivial
  ·cases h;exact ZL g trivial
 ·simp only[ZC,Se];obtain⟨d,h⟩|⟨d,h⟩:=aq h
  ·cases h;exact ZL d @ay.eq_1
  ·obtain⟨l,m,h⟩:=ae h;try refine ZF d ?_
   refine bj (o:=l) (bq cD (aB (w_cm a c) m ?_)) (fun t hv=>?_) (fun u hv e τ hne hq=>?_)
   ·exact ZK (ZA @EH.eq_1 @bO.eq_1)
   ·subst hv;simp only[] at h;simp only[ZC,bO,Sc];cases h;exact ZL d @ay.eq_1
   ·subst hv;simp only[] at h;obtain⟨rfl,p⟩:=hq;cases h;exact p
def IE(a:List aU)(v:Int):St:=⟨[(0,.lst .o 2 (a.map (aE .o))),(3,.i v)],[]⟩
def zm(a:List aU)(v:Unit):St:=⟨[(0,.lst .o 2 (a.map (aE .o)))],[]⟩
theorem w_av(a:List aU)(g:Int)(o:Int⊕(Unit⊕Bool))(h:FL a g=some o):AWP (OkS Tryz.prog) xf (qL [0,3] [] (IE a) (qS (qX 0 [0] [] (zm a)) (qR V10 (fun r=>.b r))) o) (IE a g):=by
 have e:=ZA @IE.eq_1 @zm.eq_1;unfold FL at h;simp only[ZC,IE,xf];obtain⟨t,u,h⟩:=ae h;try refine ZF trivial ?_
 refine ax (sh:=(fun v=>⟨[(0,.lst .o 2 (a.map (aE .o))),(3,.i g),(11,.b v)],[]⟩)) (s:=t) ?_ ?_
 ·replace h:=u;obtain⟨k,h⟩|⟨k,h⟩:=aq h
  ·cases h;exact ZL k trivial
  ·cases h;exact ZL k trivial
 ·simp only[ZC,JE];obtain⟨c,h⟩|⟨c,h⟩:=aq h
  ·obtain⟨w,x,h⟩:=ae h;try refine ZF c ?_
   refine ax (sh:=(fun v=>⟨[(0,.lst .o 2 (a.map (aE .o))),(3,.i g),(61,.b v)],[]⟩)) (s:=w) ?_ ?_
   ·replace h:=x;obtain⟨b1,y,h⟩:=ae h;obtain⟨c1,z,h⟩:=ae h;have f:=ZA c (aL y);refine ZF f ?_;refine ZSG f (w_c _ _ _ z) ?_;obtain⟨l,h⟩|⟨l,h⟩:=aq h
    ·cases h;exact ZL (ZA f l) trivial
    ·obtain⟨d1,a1,h⟩:=ae h;have f:=ZA f l;refine ZF f ?_;refine ZSG f (w_c _ _ _ a1) ?_;obtain⟨d,h⟩|⟨d,h⟩:=aq h
     ·cases h;exact ZL (ZA f d) trivial
     ·obtain⟨j,h⟩|⟨j,h⟩:=aq h
      ·obtain⟨g1,q,h⟩:=ae h;obtain⟨m,h⟩|⟨m,h⟩:=aq h
       ·cases h;exact ZL (ZA f (ZA d (ZA j (ZA (aL q) m)))) trivial
       ·cases h;exact ZL (ZA f (ZA d (ZA j (ZA (aL q) m)))) trivial
      ·cases h;exact ZL (ZA f (ZA d j)) trivial
   ·simp only[ZC,La];obtain⟨p,h⟩|⟨p,h⟩:=aq h
    ·cases h;exact ZL (ZA c p) @V10.eq_1
    ·cases h;exact ZL (ZA c p) e
  ·cases h;exact ZL c e
theorem w_fx(a:List aU){r:Bool}(h:Ke a=some r):Ok Tryz.prog 182 [.lst .o 2 (a.map (aE .o))] (.b r):=by
 refine aA bb m182 rfl ?_;unfold Ke at h;simp only[ZC,A182,V10,aH];obtain⟨c,d,h⟩:=ae h;try refine ZF trivial ?_
 refine bj (o:=c) (bq cD (aB (w_av a) d ?_)) (fun j hv=>?_) (fun k hv e τ hne hq=>?_)
 ·exact ZK (ZA @IE.eq_1 @zm.eq_1)
 ·subst hv;simp only[] at h;simp only[ZC,zm,GD];obtain⟨l,g,h⟩:=ae h;refine ZF trivial ?_;refine ZSG trivial (w_c _ _ _ g) ?_;cases h;exact ZL trivial @V10.eq_1
 ·subst hv;simp only[] at h;obtain⟨rfl,i⟩:=hq;cases h;exact i
theorem w_fy(g:af)(c:be){r:Bool}(h:Ii g c=some r):Ok Tryz.prog 183 [.agg [.lst .o 1 (g.Nodes.map AV.z),.lst .o 4 (g.Fibers.map (ai .o))],.agg [.i c.From,.i c.To,.i c.Rate,.i c.Class]] (.b r):=by
 have e:=@ay.eq_1;refine aA bb m183 rfl ?_;unfold Ii at h;simp only[ZC,A183,ay,aH];obtain⟨s,l,h⟩:=ae h;refine ZF trivial ?_;refine ZSG trivial (w_c _ _ _ l) ?_;obtain⟨a,h⟩|⟨a,h⟩:=aq h
 ·obtain⟨t,m,h⟩:=ae h;refine ZF a ?_;refine ZSG a (w_c _ _ _ m) ?_;obtain⟨d,h⟩|⟨d,h⟩:=aq h
  ·obtain⟨j,h⟩|⟨j,h⟩:=aq h
   ·obtain⟨u,p,h⟩:=ae h;have f:=ZA a (ZA d j);refine ZF f ?_;refine ZSG f (w_c _ _ _ p) ?_;obtain⟨k,h⟩|⟨k,h⟩:=aq h
    ·obtain⟨v,q,h⟩:=ae h;have f:=ZA f k;refine ZF f ?_;refine ZSG f (w_c _ _ _ q) ?_;cases h;exact ZL f e
    ·cases h;exact ZL (ZA f k) e
   ·cases h;exact ZL (ZA a (ZA d j)) e
  ·cases h;exact ZL (ZA a d) e
 ·cases h;exact ZL a e
def S_i(a:af)(b:au)(v:Int×Int):St:=⟨[(2,.pt 2 0 0),(3,.pt 3 0 0),(5,.i v.1),(6,.i v.2)],[(2,.var (.agg [.lst .o 1 (a.Nodes.map AV.z),.lst .o 4 (a.Fibers.map (ai .o))])),(3,.var (.agg [.i b.Start,.lst .o 1 (b.Fibers.map AV.i)]))]⟩
def mL(v:Int):St:=⟨[(5,.i v)],[]⟩
theorem w_i(a:af)(b:au)(d:Int×Int)(o:(Int×Int)⊕Int)(h:M_i a b d=some o):AWP (OkS Tryz.prog) IR (qL [2,3,5,6] [2,3] (S_i a b) (qX 0 [5] [] (mL)) o) (S_i a b d):=by
 have e:=ZA @S_i.eq_1 @mL.eq_1;unfold M_i at h;simp only[ZC,S_i,IR];obtain⟨c,h⟩|⟨c,h⟩:=aq h
 ·obtain⟨j,g,h⟩:=ae h;obtain⟨k,i,h⟩:=ae h;cases h;exact ZL (ZA c (ZA (aL g) (aL i))) e
 ·cases h;exact ZL c e
theorem Ia(a:af)(b:au){r:Int}(h:ox a b=some r):Ok Tryz.prog 91 [.agg [.lst .o 1 (a.Nodes.map AV.z),.lst .o 4 (a.Fibers.map (ai .o))],.agg [.i b.Start,.lst .o 1 (b.Fibers.map AV.i)]] (.i r):=by
 refine aA bb m91 rfl ?_;unfold ox at h;simp only[ZC,A91,ay,aH];obtain⟨d,c,h⟩:=ae h;try refine ZF trivial ?_
 refine ax (aX (aB (w_i a b) c ?_)) ?_
 ·exact ZK (ZA @S_i.eq_1 @mL.eq_1)
 ·simp only[ZC,mL,RF];cases h;exact ZL trivial @ay.eq_1
theorem Rb(c:Int){r:Int}(h:uO c=some r):Ok Tryz.prog 278 [.i c] (.i r):=by
 refine aA bb m278 rfl ?_;unfold uO at h;simp only[ZC,A278,V10,aH];obtain⟨a,h⟩|⟨a,h⟩:=aq h
 ·cases h;exact ZL a @V10.eq_1
 ·obtain⟨b,h⟩|⟨b,h⟩:=aq h
  ·cases h;exact ZL (ZA a b) @V10.eq_1
  ·cases h;exact ZL (ZA a b) @V10.eq_1
def Gq(a:au)(b:au)(v:Int):St:=⟨[(4,.pt 4 0 0),(5,.pt 5 0 0),(9,.i v)],[(4,.var (.agg [.i a.Start,.lst .o 1 (a.Fibers.map AV.i)])),(5,.var (.agg [.i b.Start,.lst .o 1 (b.Fibers.map AV.i)]))]⟩
def Aa(a:au)(b:au)(v:Unit):St:=⟨[(4,.pt 4 0 0),(5,.pt 5 0 0)],[(4,.var (.agg [.i a.Start,.lst .o 1 (a.Fibers.map AV.i)])),(5,.var (.agg [.i b.Start,.lst .o 1 (b.Fibers.map AV.i)]))]⟩
theorem w_ai(a:au)(b:au)(g:Int)(o:Int⊕(Unit⊕Int))(h:Cm a b g=some o):AWP (OkS Tryz.prog) vJ (qL [4,5,9] [4,5] (Gq a b) (qS (qX 0 [4,5] [4,5] (Aa a b)) (qR bJ (fun r=>.i r))) o) (Gq a b g):=by
 have e:=ZA @Gq.eq_1 @Aa.eq_1;unfold Cm at h;simp only[ZC,Gq,vJ];obtain⟨c,h⟩|⟨c,h⟩:=aq h
 ·obtain⟨m,j,h⟩:=ae h;obtain⟨p,k,h⟩:=ae h;obtain⟨d,h⟩|⟨d,h⟩:=aq h
  ·obtain⟨q,l,h⟩:=ae h;have f:=ZA c (ZA (aL j) (ZA (aL k) d));refine ZF f ?_;refine ZSG f (Rb _ l) ?_;cases h;exact ZL f @bJ.eq_1
  ·cases h;exact ZL (ZA c (ZA (aL j) (ZA (aL k) d))) e
 ·cases h;exact ZL c e
theorem w_ed(d:af)(b:au)(c:au){r:Int}(h:Dq d b c=some r):Ok Tryz.prog 274 [.agg [.lst .o 1 (d.Nodes.map AV.z),.lst .o 4 (d.Fibers.map (ai .o))],.agg [.i b.Start,.lst .o 1 (b.Fibers.map AV.i)],.agg [.i c.Start,.lst .o 1 (c.Fibers.map AV.i)]] (.i r):=by
 refine aA bb m274 rfl ?_;unfold Dq at h;simp only[ZC,A274,bJ,aH];obtain⟨u,j,h⟩:=ae h;refine ZF trivial ?_;refine ZSG trivial (Ia _ _ j) ?_;obtain⟨v,k,h⟩:=ae h;refine ZF trivial ?_;refine ZSG trivial (Ia _ _ k) ?_;obtain⟨a,h⟩|⟨a,h⟩:=aq h
 ·obtain⟨w,l,h⟩:=ae h;refine ZF a ?_;refine ZSG a (Rb _ l) ?_;cases h;exact ZL a @bJ.eq_1
 ·obtain⟨g,h⟩|⟨g,h⟩:=aq h
  ·obtain⟨x,m,h⟩:=ae h;have f:=ZA a g;refine ZF f ?_;refine ZSG f (Rb _ m) ?_;cases h;exact ZL f @bJ.eq_1
  ·obtain⟨p,q,h⟩:=ae h;have f:=ZA a g;try refine ZF f ?_
   refine bj (o:=p) (bq cD (aB (w_ai b c) q ?_)) (fun y hv=>?_) (fun a1 hv e τ hne hq=>?_)
   ·exact ZK (ZA @Gq.eq_1 @Aa.eq_1)
   ·subst hv;simp only[] at h;simp only[ZC,Aa,LO];obtain⟨b1,s,h⟩:=ae h;refine ZF f ?_;refine ZSG f (Rb _ s) ?_;cases h;exact ZL f @bJ.eq_1
   ·subst hv;simp only[] at h;obtain⟨rfl,t⟩:=hq;cases h;exact t
theorem w_q(a:List Int){r:List Int}(h:M_q a=some r):Ok Tryz.prog 107 [.lst .o 1 (a.map AV.i)] (.lst .u 1 (r.map AV.i)):=by
 refine aA bb m107 rfl ?_;unfold M_q at h;simp only[ZC,A107,V10,aH];obtain⟨c,b,h⟩:=ae h;cases h;exact ZL (aI b) @V10.eq_1
def Fy(a:List aU)(b:Int)(v:Int×Int):St:=⟨[(0,.lst .o 2 (a.map (aE .o))),(1,.i b),(5,.i v.1),(6,.i v.2)],[]⟩
theorem w_db(b:List aU)(c:Int)(g:Int×Int)(o:(Int×Int)⊕Int)(h:Jm b c g=some o):AWP (OkS Tryz.prog) xH (qL [0,1,5,6] [] (Fy b c) (qX 0 [5] [] (mL)) o) (Fy b c g):=by
 have e:=ZA @Fy.eq_1 @mL.eq_1;unfold Jm at h;simp only[ZC,Fy,xH];obtain⟨a,h⟩|⟨a,h⟩:=aq h
 ·obtain⟨j,i,h⟩:=ae h;obtain⟨d,h⟩|⟨d,h⟩:=aq h
  ·cases h;exact ZL (ZA a (ZA (aL i) d)) e
  ·cases h;exact ZL (ZA a (ZA (aL i) d)) e
 ·cases h;exact ZL a e
theorem w_fz(a:List aU)(b:Int){r:Int}(h:MV a b=some r):Ok Tryz.prog 165 [.lst .o 2 (a.map (aE .o)),.i b] (.i r):=by
 refine aA bb m165 rfl ?_;unfold MV at h;simp only[ZC,A165,ay,aH];obtain⟨d,c,h⟩:=ae h;try refine ZF trivial ?_
 refine ax (aX (aB (w_db a b) c ?_)) ?_
 ·exact ZK (ZA @Fy.eq_1 @mL.eq_1)
 ·simp only[ZC,mL,Gz];cases h;exact ZL trivial @ay.eq_1
theorem Td(c:List aU)(d:Int)(g:Int){r:Int}(h:rA c d g=some r):Ok Tryz.prog 90 [.lst .o 2 (c.map (aE .o)),.i d,.i g] (.i r):=by
 refine aA bb m90 rfl ?_;unfold rA at h;simp only[ZC,A90,bJ,aH];obtain⟨m,l,h⟩:=ae h;refine ZF trivial ?_;refine ZSG trivial (w_fz _ _ l) ?_;obtain⟨a,h⟩|⟨a,h⟩:=aq h
 ·cases h;exact ZL a @bJ.eq_1
 ·obtain⟨p,j,h⟩:=ae h;obtain⟨q,k,h⟩:=ae h;obtain⟨b,h⟩|⟨b,h⟩:=aq h
  ·cases h;exact ZL (ZA a (ZA (aL j) (ZA (aI k) b))) @bJ.eq_1
  ·cases h;exact ZL (ZA a (ZA (aL j) (ZA (aI k) b))) @bJ.eq_1
def JD(a:List au)(b:List Int)(v:Int×Int):St:=⟨[(0,.lst .o 2 (a.map (aC .o))),(1,.lst .o 1 (b.map AV.i)),(5,.i v.1),(6,.i v.2)],[]⟩
theorem w_dd(c:List au)(d:List Int)(g:Int×Int)(o:(Int×Int)⊕Int)(h:ME c d g=some o):AWP (OkS Tryz.prog) xe (qL [0,1,5,6] [] (JD c d) (qX 0 [5] [] (mL)) o) (JD c d g):=by
 have e:=ZA @JD.eq_1 @mL.eq_1;unfold ME at h;simp only[ZC,JD,xe];obtain⟨a,h⟩|⟨a,h⟩:=aq h
 ·obtain⟨l,m,h⟩:=ae h;try refine ZF a ?_
  refine ax (sh:=(fun v=>⟨[(0,.lst .o 2 (c.map (aC .o))),(1,.lst .o 1 (d.map AV.i)),(5,.i g.1),(6,.i g.2),(39,.b v)],[]⟩)) (s:=l) ?_ ?_
  ·replace h:=m;obtain⟨j,h⟩|⟨j,h⟩:=aq h
   ·cases h;exact ZL (ZA a j) trivial
   ·obtain⟨w,p,h⟩:=ae h;obtain⟨x,q,h⟩:=ae h;obtain⟨y,t,h⟩:=ae h;obtain⟨z,u,h⟩:=ae h;cases h;exact ZL (ZA a (ZA j (ZA (aL p) (ZA (aL q) (ZA (aL t) (aL u)))))) trivial
  ·simp only[ZC,Fg];obtain⟨k,h⟩|⟨k,h⟩:=aq h
   ·cases h;exact ZL (ZA a k) e
   ·cases h;exact ZL (ZA a k) e
 ·cases h;exact ZL a e
theorem w_ga(a:List au)(b:List Int){r:Int}(h:My a b=some r):Ok Tryz.prog 164 [.lst .o 2 (a.map (aC .o)),.lst .o 1 (b.map AV.i)] (.i r):=by
 refine aA bb m164 rfl ?_;unfold My at h;simp only[ZC,A164,ay,aH];obtain⟨d,c,h⟩:=ae h;try refine ZF trivial ?_
 refine ax (aX (aB (w_dd a b) c ?_)) ?_
 ·exact ZK (ZA @JD.eq_1 @mL.eq_1)
 ·simp only[ZC,mL,Gy];cases h;exact ZL trivial @ay.eq_1
def S_r(a:af)(b:List au)(c:List Int)(d:Int×Int×Int×Int)(v:Int×Int×Int×Int):St:=⟨[(1,.lst .o 2 (b.map (aC .o))),(2,.lst .o 1 (c.map AV.i)),(3,.pt 3 0 0),(8,.i v.1),(9,.i v.2.1),(10,.i v.2.2.1),(11,.i d.2.2.2),(12,.i v.2.2.2)],[(3,.var (.agg [.lst .o 1 (a.Nodes.map AV.z),.lst .o 4 (a.Fibers.map (ai .o))]))]⟩
def OC(a:af)(b:List au)(c:List Int)(d:Int×Int×Int×Int)(v:Int×Int×Int):St:=⟨[(1,.lst .o 2 (b.map (aC .o))),(2,.lst .o 1 (c.map AV.i)),(3,.pt 3 0 0),(8,.i v.1),(9,.i v.2.1),(10,.i v.2.2),(11,.i d.2.2.2)],[(3,.var (.agg [.lst .o 1 (a.Nodes.map AV.z),.lst .o 4 (a.Fibers.map (ai .o))]))]⟩
theorem w_r(c:af)(d:List au)(g:List Int)(j:Int×Int×Int×Int)(a:Int×Int×Int×Int)(o:(Int×Int×Int×Int)⊕(Int×Int×Int))(h:M_r c d g j a=some o):AWP (OkS Tryz.prog) wW (qL [1,2,3,8,9,10,11,12] [3] (S_r c d g j) (qX 2 [1,2,3,8,9,10,11] [3] (OC c d g j)) o) (S_r c d g j a):=by
 have e:=ZA @S_r.eq_1 @OC.eq_1;unfold M_r at h;simp only[ZC,S_r,wW];obtain⟨p,h⟩|⟨p,h⟩:=aq h
 ·obtain⟨x,c1,h⟩:=ae h;obtain⟨y,d1,h⟩:=ae h;obtain⟨a1,g1,h⟩:=ae h;obtain⟨b1,i1,h⟩:=ae h;obtain⟨j1,k1,h⟩:=ae h;have f:=ZA p (ZA (aL c1) (ZA (aL d1) (ZA (aL g1) (aL i1))));try refine ZF f ?_
  refine ax (sh:=(fun v=>⟨[(1,.lst .o 2 (d.map (aC .o))),(2,.lst .o 1 (g.map AV.i)),(3,.pt 3 0 0),(8,.i a.1),(9,.i a.2.1),(10,.i a.2.2.1),(11,.i j.2.2.2),(12,.i a.2.2.2),(13,.i (IntKind.wrap .i64 (x*(y.Fibers.length:Int)))),(14,.i (IntKind.wrap .i64 (a1*(b1.Fibers.length:Int)))),(79,.b v)],[(3,.var (.agg [.lst .o 1 (c.Nodes.map AV.z),.lst .o 4 (c.Fibers.map (ai .o))]))]⟩)) (s:=j1) ?_ ?_
  ·replace h:=k1;obtain⟨k,h⟩|⟨k,h⟩:=aq h
   ·cases h;exact ZL (ZA f k) trivial
   ·obtain⟨l,h⟩|⟨l,h⟩:=aq h
    ·cases h;exact ZL (ZA f (ZA k l)) trivial
    ·obtain⟨m,h⟩|⟨m,h⟩:=aq h
     ·obtain⟨q,h⟩|⟨q,h⟩:=aq h
      ·cases h;exact ZL (ZA f (ZA k (ZA l (ZA m q)))) trivial
      ·obtain⟨s1,l1,h⟩:=ae h;have f:=ZA f (ZA k (ZA l (ZA m q)));refine ZF f ?_;refine ZSG f (Re _ _ _ l1) ?_;cases h;exact ZL f trivial
     ·obtain⟨t1,m1,h⟩:=ae h;have f:=ZA f (ZA k (ZA l m));refine ZF f ?_;refine ZSG f (Re _ _ _ m1) ?_;cases h;exact ZL f trivial
  ·simp only[ZC,Lw];obtain⟨t,h⟩|⟨t,h⟩:=aq h
   ·cases h;exact ZL (ZA f t) e
   ·obtain⟨p1,q1,h⟩:=ae h;have f:=ZA f t;try refine ZF f ?_
    refine ax (sh:=(fun v=>⟨[(1,.lst .o 2 (d.map (aC .o))),(2,.lst .o 1 (g.map AV.i)),(3,.pt 3 0 0),(8,.i a.1),(9,.i a.2.1),(10,.i a.2.2.1),(11,.i j.2.2.2),(12,.i a.2.2.2),(13,.i (IntKind.wrap .i64 (x*(y.Fibers.length:Int)))),(14,.i (IntKind.wrap .i64 (a1*(b1.Fibers.length:Int)))),(88,.b v)],[(3,.var (.agg [.lst .o 1 (c.Nodes.map AV.z),.lst .o 4 (c.Fibers.map (ai .o))]))]⟩)) (s:=p1) ?_ ?_
    ·replace h:=q1;obtain⟨u,h⟩|⟨u,h⟩:=aq h
     ·cases h;exact ZL (ZA f u) trivial
     ·cases h;exact ZL (ZA f u) trivial
    ·simp only[ZC,MO];obtain⟨w,h⟩|⟨w,h⟩:=aq h
     ·cases h;exact ZL (ZA f w) e
     ·cases h;exact ZL (ZA f w) e
 ·cases h;exact ZL p e
def Iv(a:af)(b:List au)(c:List Int)(v:Int×Int×Int×Int):St:=⟨[(1,.lst .o 2 (b.map (aC .o))),(2,.lst .o 1 (c.map AV.i)),(3,.pt 3 0 0),(8,.i v.1),(9,.i v.2.1),(10,.i v.2.2.1),(11,.i v.2.2.2)],[(3,.var (.agg [.lst .o 1 (a.Nodes.map AV.z),.lst .o 4 (a.Fibers.map (ai .o))]))]⟩
def Ai(v:Int×Int):St:=⟨[(8,.i v.1),(9,.i v.2)],[]⟩
theorem w_aw(a:af)(b:List au)(c:List Int)(d:Int×Int×Int×Int)(o:(Int×Int×Int×Int)⊕(Int×Int))(h:Mb a b c d=some o):AWP (OkS Tryz.prog) wn (qL [1,2,3,8,9,10,11] [3] (Iv a b c) (qX 0 [8,9] [] (Ai)) o) (Iv a b c d):=by
 have e:=ZA @Iv.eq_1 @Ai.eq_1;unfold Mb at h;simp only[ZC,Iv,wn];obtain⟨g,h⟩|⟨g,h⟩:=aq h
 ·obtain⟨l,m,h⟩:=ae h;try refine ZF g ?_
  refine ax (sh:=(fun v=>⟨[(1,.lst .o 2 (b.map (aC .o))),(2,.lst .o 1 (c.map AV.i)),(3,.pt 3 0 0),(8,.i v.1),(9,.i v.2.1),(10,.i v.2.2),(11,.i d.2.2.2)],[(3,.var (.agg [.lst .o 1 (a.Nodes.map AV.z),.lst .o 4 (a.Fibers.map (ai .o))]))]⟩)) (s:=l) ?_ ?_
  ·replace h:=m;obtain⟨p,j,h⟩:=ae h;try refine ZF g ?_
   first|refine de (aX (aB (w_r a b c d) j ?_)) (fun τ k=>?_)|refine dM (aB (w_r a b c d) j ?_) (fun τ k=>?_)
   ·exact ZK (ZA @S_r.eq_1 @OC.eq_1)
   ·cases h;try refine ZF trivial ?_
    refine⟨rfl,Shp.sub k (by decide) (by decide) ?_⟩;exact ZK @OC.eq_1
  ·simp only[ZC,GC];cases h;exact ZL g e
 ·cases h;exact ZL g e
theorem w_gb(a:af)(b:List au)(c:List Int){r:Int×Int}(h:LN a b c=some r):Ok Tryz.prog 122 [.agg [.lst .o 1 (a.Nodes.map AV.z),.lst .o 4 (a.Fibers.map (ai .o))],.lst .o 2 (b.map (aC .o)),.lst .o 1 (c.map AV.i)] (.tup [.i r.1,.i r.2]):=by
 refine aA bb m122 rfl ?_;unfold LN at h;simp only[ZC,A122,xU,aH];obtain⟨g,d,h⟩:=ae h;try refine ZF trivial ?_
 refine ax (aX (aB (w_aw a b c) d ?_)) ?_
 ·exact ZK (ZA @Iv.eq_1 @Ai.eq_1)
 ·simp only[ZC,Ai,LR];cases h;exact ZL trivial @xU.eq_1
def Lh(b:af)(c:List ah)(a:ah)(v:Int):St:=⟨[(1,.lst .o 10 (c.map (aj .o))),(3,.pt 3 0 0),(5,.pt 5 0 0),(7,.i v)],[(3,.var (.agg [.lst .o 1 (b.Nodes.map AV.z),.lst .o 4 (b.Fibers.map (ai .o))])),(5,.var (.agg [.i a.Id,.i a.Class,.i a.Work.Start,.lst .o 1 (a.Work.Fibers.map AV.i),.i a.WorkBlock.First,.i a.WorkBlock.Count,.i a.Spare.Start,.lst .o 1 (a.Spare.Fibers.map AV.i),.i a.SpareBlock.First,.i a.SpareBlock.Count]))]⟩
theorem w_de(a:af)(c:List ah)(d:ah)(j:Int)(o:Int⊕(Unit⊕Bool))(h:Jj a c d j=some o):AWP (OkS Tryz.prog) wj (qL [1,3,5,7] [3,5] (Lh a c d) (qS (qX 0 [] [] (bO)) (qR bJ (fun r=>.b r))) o) (Lh a c d j):=by
 have e:=ZA @Lh.eq_1 @bO.eq_1;unfold Jj at h;simp only[ZC,Lh,wj];obtain⟨g,h⟩|⟨g,h⟩:=aq h
 ·obtain⟨m,k,h⟩:=ae h;obtain⟨p,l,h⟩:=ae h;have f:=ZA g (aL k);refine ZF f ?_;refine ZSG f (w_dn _ _ _ l) ?_;obtain⟨i,h⟩|⟨i,h⟩:=aq h
  ·cases h;exact ZL (ZA f i) @bJ.eq_1
  ·cases h;exact ZL (ZA f i) e
 ·cases h;exact ZL g e
theorem w_ee(c:af)(d:List ah)(a:ah){r:Bool}(h:AU c d a=some r):Ok Tryz.prog 166 [.agg [.lst .o 1 (c.Nodes.map AV.z),.lst .o 4 (c.Fibers.map (ai .o))],.lst .o 10 (d.map (aj .o)),.agg [.i a.Id,.i a.Class,.i a.Work.Start,.lst .o 1 (a.Work.Fibers.map AV.i),.i a.WorkBlock.First,.i a.WorkBlock.Count,.i a.Spare.Start,.lst .o 1 (a.Spare.Fibers.map AV.i),.i a.SpareBlock.First,.i a.SpareBlock.Count]] (.b r):=by
 refine aA bb m166 rfl ?_;unfold AU at h;simp only[ZC,A166,bJ,aH];obtain⟨g,j,h⟩:=ae h;try refine ZF trivial ?_
 refine bj (o:=g) (bq cD (aB (w_de c d a) j ?_)) (fun l hv=>?_) (fun m hv e τ hne hq=>?_)
 ·exact ZK (ZA @Lh.eq_1 @bO.eq_1)
 ·subst hv;simp only[] at h;simp only[ZC,bO,Ge];cases h;exact ZL trivial @bJ.eq_1
 ·subst hv;simp only[] at h;obtain⟨rfl,k⟩:=hq;cases h;exact k
def rV(a:au)(c:List ByteArray)(d:List az)(g:Int)(b:List au)(v:Int):St:=⟨[(0,.pt 1000000000 0 0),(3,.pt 3 0 0),(4,.i v)],[(3,.var (.agg [.i ((a).Start),.lst .m 1 (((a).Fibers).map AV.i)])),(1000000000,.var (.agg [.lst .m 1 (c.map AV.z),.lst .m 4 (d.map (ai .m)),.i g,.sl 1000000001 0 b.length])),(1000000001,.arr 2 (b.map (aC .u)))]⟩
theorem w_bs(a:au)(b:List ByteArray)(c:List az)(g:Int)(d:List au)(k:Int)(o:Int⊕Int)(h:VG a b c d k=some o):AWP (OkS Tryz.prog) nG (qL [0,3,4] [3,1000000000,1000000001] (rV a b c g d) (qX 0 [0,3,4] [3,1000000000,1000000001] (rV a b c g d)) o) (rV a b c g d k):=by
 have e:=ZA @rV.eq_1 @rV.eq_1;unfold VG at h;simp only[ZC,rV,nG];obtain⟨i,h⟩|⟨i,h⟩:=aq h
 ·obtain⟨q,l,h⟩:=ae h;obtain⟨s,m,h⟩:=ae h;obtain⟨t,p,h⟩:=ae h;have f:=ZA i (ZA (aI l) m);refine ZF f ?_;refine ZSG f (w_ed _ _ _ p) ?_;obtain⟨j,h⟩|⟨j,h⟩:=aq h
  ·cases h;exact ZL (ZA f j) e
  ·cases h;exact ZL (ZA f j) e
 ·cases h;exact ZL i e
theorem w_ht(b:au)(j:List ByteArray)(k:List az)(l:Int)(a:List au){r:List ByteArray×List az×Int×List au×List au}(h:SJ b j k l a=some r):OkM Tryz.prog 261 [.pt 1000000000 0 0,.agg [.i ((b).Start),.lst .m 1 (((b).Fibers).map AV.i)]] [(1000000000,.var (.agg [.lst .m 1 (j.map AV.z),.lst .m 4 (k.map (ai .m)),.i l,.sl 1000000001 0 a.length])),(1000000001,.arr 2 (a.map (aC .u)))] (.tup []) ([(49,.arr 2 (r.2.2.2.1.map (aC .m))),(1000000000,.var (.agg [.lst .m 1 (r.1.map AV.z),.lst .m 4 (r.2.1.map (ai .m)),.i r.2.2.1,.sl 49 0 r.2.2.2.1.length])),(1000000001,.arr 2 (r.2.2.2.2.map (aC .u)))]):=by
 refine aY (lr:=[49,1000000000,1000000001]) bb Uh rfl rfl ?_;unfold SJ at h;simp only[ZC,Je,cF];obtain⟨p,d1,h⟩:=ae h;try refine ZF trivial ?_
 refine ax (aX (aB (w_bs b j k l a) d1 ?_)) ?_
 ·exact ZK (ZA @rV.eq_1 @rV.eq_1)
 ·simp only[ZC,rV,tr];obtain⟨w1,g1,h⟩:=ae h;obtain⟨q,i1,h⟩:=aK h;have j1:sub (a.map (aC .u)) 0 (Int.toNat p)=q.map (aC .u):=by rw[bD,i1]
  obtain⟨x1,k1,h⟩:=ae h;obtain⟨s,c,h⟩:=aK h;have l1:Row.arr 2 [(.agg [.i ((b).Start),.lst .m 1 (((b).Fibers).map AV.i)]:AV)]=Row.arr 2 (s.map (aC .m)):=by rw[<-c];rfl
  have w:s.length=1:=by rw[<-c];rfl
  obtain⟨y1,m1,h⟩:=ae h;have x:=aI m1;obtain⟨d,g,h⟩:=aK h;have p1:q.map (aC .m)++s.map (aC .m)=d.map (aC .m):=by rw[<-g,List.map_append]
  have y:q.length+1=d.length:=by simp[<-c,<-g]<;>omega
  rw[y] at x;obtain⟨z1,q1,h⟩:=ae h;obtain⟨t,s1,h⟩:=aK h;have t1:sub (a.map (aC .u)) (Int.toNat p) (a.length-(Int.toNat p))=t.map (aC .u):=by rw[bD,s1]
  obtain⟨a2,u1,h⟩:=ae h;have a1:=aI u1;obtain⟨b1,v,h⟩:=aK h;have v1:d.map (aC .m)++t.map (aC .m)=b1.map (aC .m):=by rw[<-v,List.map_append]
  have c1:d.length+t.length=b1.length:=by simp[<-c,<-g,<-v]<;>omega
  rw[c1] at a1;cases h;exact ZL (ZA (aI g1) (ZA j1 (ZA (aI k1) (ZA l1 (ZA w (ZA x (ZA p1 (ZA y (ZA (aI q1) (ZA t1 (ZA a1 (ZA v1 c1)))))))))))) (ZA @cF.eq_1 (ZA c.symm (ZA g.symm (ZA v.symm w))))
def sa(a:au)(c:List ByteArray)(d:List az)(g:Int)(b:List au)(v:Int):St:=⟨[(0,.pt 1000000000 0 0),(3,.pt 3 0 0),(4,.i v)],[(3,.var (.agg [.i ((a).Start),.lst .m 1 (((a).Fibers).map AV.i)])),(1000000000,.var (.agg [.lst .m 1 (c.map AV.z),.lst .m 4 (d.map (ai .m)),.i g,.sl 1000000001 0 b.length])),(1000000001,.arr 2 (b.map (aC .m)))]⟩
theorem w_ax(a:au)(b:List ByteArray)(c:List az)(g:Int)(d:List au)(k:Int)(o:Int⊕Int)(h:Bj a b c d k=some o):AWP (OkS Tryz.prog) oT (qL [0,3,4] [3,1000000000,1000000001] (sa a b c g d) (qX 0 [0,3,4] [3,1000000000,1000000001] (sa a b c g d)) o) (sa a b c g d k):=by
 have e:=ZA @sa.eq_1 @sa.eq_1;unfold Bj at h;simp only[ZC,sa,oT];obtain⟨i,h⟩|⟨i,h⟩:=aq h
 ·obtain⟨q,l,h⟩:=ae h;obtain⟨s,m,h⟩:=ae h;obtain⟨t,p,h⟩:=ae h;have f:=ZA i (ZA (aI l) m);refine ZF f ?_;refine ZSG f (w_ed _ _ _ p) ?_;obtain⟨j,h⟩|⟨j,h⟩:=aq h
  ·cases h;exact ZL (ZA f j) e
  ·cases h;exact ZL (ZA f j) e
 ·cases h;exact ZL i e
theorem w_gc(b:au)(j:List ByteArray)(k:List az)(l:Int)(a:List au){r:List ByteArray×List az×Int×List au×List au}(h:GZ b j k l a=some r):OkM Tryz.prog 261 [.pt 1000000000 0 0,.agg [.i ((b).Start),.lst .m 1 (((b).Fibers).map AV.i)]] [(1000000000,.var (.agg [.lst .m 1 (j.map AV.z),.lst .m 4 (k.map (ai .m)),.i l,.sl 1000000001 0 a.length])),(1000000001,.arr 2 (a.map (aC .m)))] (.tup []) ([(49,.arr 2 (r.2.2.2.1.map (aC .m))),(1000000000,.var (.agg [.lst .m 1 (r.1.map AV.z),.lst .m 4 (r.2.1.map (ai .m)),.i r.2.2.1,.sl 49 0 r.2.2.2.1.length])),(1000000001,.arr 2 (r.2.2.2.2.map (aC .m)))]):=by
 refine aY (lr:=[49,1000000000,1000000001]) bb Ua rfl rfl ?_;unfold GZ at h;simp only[ZC,Mp,cF];obtain⟨p,c1,h⟩:=ae h;try refine ZF trivial ?_
 refine ax (aX (aB (w_ax b j k l a) c1 ?_)) ?_
 ·exact ZK (ZA @sa.eq_1 @sa.eq_1)
 ·simp only[ZC,sa,tR];obtain⟨v1,d1,h⟩:=ae h;obtain⟨q,g1,h⟩:=aK h;have i1:sub (a.map (aC .m)) 0 (Int.toNat p)=q.map (aC .m):=by rw[bD,g1]
  obtain⟨w1,j1,h⟩:=ae h;obtain⟨s,c,h⟩:=aK h;have k1:Row.arr 2 [(.agg [.i ((b).Start),.lst .m 1 (((b).Fibers).map AV.i)]:AV)]=Row.arr 2 (s.map (aC .m)):=by rw[<-c];rfl
  have v:s.length=1:=by rw[<-c];rfl
  obtain⟨x1,l1,h⟩:=ae h;have w:=aI l1;obtain⟨d,g,h⟩:=aK h;have m1:q.map (aC .m)++s.map (aC .m)=d.map (aC .m):=by rw[<-g,List.map_append]
  have x:q.length+1=d.length:=by simp[<-c,<-g]<;>omega
  rw[x] at w;obtain⟨y1,p1,h⟩:=ae h;obtain⟨t,q1,h⟩:=aK h;have s1:sub (a.map (aC .m)) (Int.toNat p) (a.length-(Int.toNat p))=t.map (aC .m):=by rw[bD,q1]
  obtain⟨z1,t1,h⟩:=ae h;have y:=aI t1;obtain⟨a1,u,h⟩:=aK h;have u1:d.map (aC .m)++t.map (aC .m)=a1.map (aC .m):=by rw[<-u,List.map_append]
  have b1:d.length+t.length=a1.length:=by simp[<-c,<-g,<-u]<;>omega
  rw[b1] at y;cases h;exact ZL (ZA (aI d1) (ZA i1 (ZA (aI j1) (ZA k1 (ZA v (ZA w (ZA m1 (ZA x (ZA (aI p1) (ZA s1 (ZA y (ZA u1 b1)))))))))))) (ZA @cF.eq_1 (ZA c.symm (ZA g.symm (ZA u.symm v))))
def Ly(b:Int)(c:List Int)(a:List Int)(d:Int)(v:Int×List ByteArray×List az×Int×List au):St:=⟨[(0,.pt 1000000000 0 0),(2,.sl 1000000003 0 a.length),(4,.pt 4 0 0),(6,.i d),(7,.i v.1)],[(4,.var (.agg [.i b,.lst .m 1 (c.map AV.i)])),(470000003,.arr 2 (v.2.2.2.2.map (aC .m))),(1000000000,.var (.agg [.lst .m 1 (v.2.1.map AV.z),.lst .m 4 (v.2.2.1.map (ai .m)),.i v.2.2.2.1,.sl 470000003 0 v.2.2.2.2.length])),(1000000003,.arr 1 (a.map AV.i))]⟩
def zo(a:List Int)(v:List ByteArray×List az×Int×List au):St:=⟨[],[(470000003,.arr 2 (v.2.2.2.map (aC .m))),(1000000000,.var (.agg [.lst .m 1 (v.1.map AV.z),.lst .m 4 (v.2.1.map (ai .m)),.i v.2.2.1,.sl 470000003 0 v.2.2.2.length])),(1000000003,.arr 1 (a.map AV.i))]⟩
theorem w_aj(j:Int)(u:List ByteArray)(w:List az)(x:Int)(p:List au)(d:List Int)(c:List Int)(i1:Int->List ByteArray->List az->Int->List au->List Int->List Int->Option (List ByteArray×List az×Int×List au×List Int))(k:Int)(x1:∀(j:Int)(u:List ByteArray)(w:List az)(x:Int)(p:List au)(d:List Int)(c:List Int){r:List ByteArray×List az×Int×List au×List Int},i1 j u w x p d c=some r->OkM Tryz.prog 240 [.pt 1000000000 0 0,.agg [.i j,.sl 1000000002 0 d.length],.sl 1000000003 0 c.length] [(1000000000,.var (.agg [.lst .m 1 (u.map AV.z),.lst .m 4 (w.map (ai .m)),.i x,.sl 1000000001 0 p.length])),(1000000001,.arr 2 (p.map (aC .m))),(1000000002,.arr 1 (d.map AV.i)),(1000000003,.arr 1 (c.map AV.i))] (.tup []) ([(470000003,.arr 2 (r.2.2.2.1.map (aC .m))),(1000000000,.var (.agg [.lst .m 1 (r.1.map AV.z),.lst .m 4 (r.2.1.map (ai .m)),.i r.2.2.1,.sl 470000003 0 r.2.2.2.1.length])),(1000000003,.arr 1 (r.2.2.2.2.map AV.i))]))(a:Int×List ByteArray×List az×Int×List au)(o:(Int×List ByteArray×List az×Int×List au)⊕(List ByteArray×List az×Int×List au))(h:Mq j d c i1 k a=some o):AWP (OkS Tryz.prog) lG (qL [0,2,4,6,7] [4,470000003,1000000000,1000000003] (Ly j d c k) (qX 0 [] [470000003,1000000000,1000000003] (zo c)) o) (Ly j d c k a):=by
 have e:=ZA @Ly.eq_1 @zo.eq_1;unfold Mq at h;simp only[ZC,Ly,lG];obtain⟨y1,z1,h⟩:=ae h;try refine ZF trivial ?_
 refine ax (sh:=(fun v=>⟨[(0,.pt 1000000000 0 0),(2,.sl 1000000003 0 c.length),(4,.pt 4 0 0),(6,.i k),(7,.i a.1),(39,.b v)],[(4,.var (.agg [.i j,.lst .m 1 (d.map AV.i)])),(470000003,.arr 2 (a.2.2.2.2.map (aC .m))),(1000000000,.var (.agg [.lst .m 1 (a.2.1.map AV.z),.lst .m 4 (a.2.2.1.map (ai .m)),.i a.2.2.2.1,.sl 470000003 0 a.2.2.2.2.length])),(1000000003,.arr 1 (c.map AV.i))]⟩)) (s:=y1) ?_ ?_
 ·replace h:=z1;obtain⟨y,h⟩|⟨y,h⟩:=aq h
  ·cases h;exact ZL y trivial
  ·cases h;exact ZL y trivial
 ·simp only[ZC,qD];obtain⟨g,h⟩|⟨g,h⟩:=aq h
  ·obtain⟨j1,a2,h⟩:=ae h;refine ZF g ?_;refine ZSG g (Hd _ _ _ a2) ?_;obtain⟨b2,c2,h⟩:=ae h;try refine ZF g ?_
   refine ax (sh:=(fun v=>⟨[(0,.pt 1000000000 0 0),(2,.sl 1000000003 0 c.length),(4,.pt 4 0 0),(6,.i k),(7,.i a.1),(8,.i j1),(56,.b v)],[(4,.var (.agg [.i j,.lst .m 1 (d.map AV.i)])),(470000003,.arr 2 (a.2.2.2.2.map (aC .m))),(1000000000,.var (.agg [.lst .m 1 (a.2.1.map AV.z),.lst .m 4 (a.2.2.1.map (ai .m)),.i a.2.2.2.1,.sl 470000003 0 a.2.2.2.2.length])),(1000000003,.arr 1 (c.map AV.i))]⟩)) (s:=b2) ?_ ?_
   ·replace h:=c2;obtain⟨a1,h⟩|⟨a1,h⟩:=aq h
    ·obtain⟨t2,d2,h⟩:=ae h;have f:=ZA g a1;refine ZF f ?_;refine ZSG f (Br _ _ d2) ?_;cases h;exact ZL f trivial
    ·cases h;exact ZL (ZA g a1) trivial
   ·simp only[ZC,qV];obtain⟨b1,h⟩|⟨b1,h⟩:=aq h
    ·obtain⟨k1,g2,h⟩:=ae h;have f:=ZA g b1;refine ZF f ?_;refine ZUG f (w_q _ g2) ?_;obtain⟨c1,l,h⟩:=aK h;have i2:Row.arr 1 [(.i a.1:AV)]=Row.arr 1 (c1.map AV.i):=by rw[<-l];rfl
     have l1:c1.length=1:=by rw[<-l];rfl
     obtain⟨u2,j2,h⟩:=ae h;have m1:=aI j2;obtain⟨p1,q,h⟩:=aK h;have k2:k1.map AV.i++c1.map AV.i=p1.map AV.i:=by rw[<-q,List.map_append]
     have q1:k1.length+1=p1.length:=by simp[<-l,<-q]<;>omega
     rw[q1] at m1;obtain⟨s1,l2,h⟩:=ae h;have f:=ZA f (ZA i2 (ZA l1 (ZA m1 (ZA k2 q1))));refine ZF f ?_;refine ZUG f (w_q _ l2) ?_;obtain⟨d1,t,h⟩:=aK h;have m2:Row.arr 1 [(.i j1:AV)]=Row.arr 1 (d1.map AV.i):=by rw[<-t];rfl
     have t1:d1.length=1:=by rw[<-t];rfl
     obtain⟨v2,p2,h⟩:=ae h;have u1:=aI p2;obtain⟨v1,g1,h⟩:=aK h;have q2:s1.map AV.i++d1.map AV.i=v1.map AV.i:=by rw[<-g1,List.map_append]
     have w1:s1.length+1=v1.length:=by simp[<-l,<-q,<-t,<-g1]<;>omega
     rw[w1] at u1;obtain⟨w2,s2,h⟩:=ae h;have f:=ZA f (ZA m2 (ZA t1 (ZA u1 (ZA q2 w1))));refine ZF f ?_;refine ZWG f (x1 _ _ _ _ _ _ _ s2) [470000003,1000000000,1000000003] [477300003] ?_;cases h;exact ZL f (ZA e (ZA l.symm (ZA q.symm (ZA t.symm (ZA g1.symm (ZA l1 t1))))))
    ·cases h;exact ZL (ZA g b1) e
  ·cases h;exact ZL g e
theorem WA(l:Int->List ByteArray->List az->Int->List au->List Int->List Int->Option (List ByteArray×List az×Int×List au×List Int))(q:∀(d:Int)(g:List ByteArray)(j:List az)(k:Int)(a:List au)(b:List Int)(c:List Int){r:List ByteArray×List az×Int×List au×List Int},l d g j k a b c=some r->OkM Tryz.prog 240 [.pt 1000000000 0 0,.agg [.i d,.sl 1000000002 0 b.length],.sl 1000000003 0 c.length] [(1000000000,.var (.agg [.lst .m 1 (g.map AV.z),.lst .m 4 (j.map (ai .m)),.i k,.sl 1000000001 0 a.length])),(1000000001,.arr 2 (a.map (aC .m))),(1000000002,.arr 1 (b.map AV.i)),(1000000003,.arr 1 (c.map AV.i))] (.tup []) ([(470000003,.arr 2 (r.2.2.2.1.map (aC .m))),(1000000000,.var (.agg [.lst .m 1 (r.1.map AV.z),.lst .m 4 (r.2.1.map (ai .m)),.i r.2.2.1,.sl 470000003 0 r.2.2.2.1.length])),(1000000003,.arr 1 (r.2.2.2.2.map AV.i))]))(d:Int)(g:List ByteArray)(j:List az)(k:Int)(a:List au)(b:List Int)(c:List Int){r:List ByteArray×List az×Int×List au×List Int}(h:DP l d g j k a b c=some r):OkM Tryz.prog 240 [.pt 1000000000 0 0,.agg [.i d,.sl 1000000002 0 b.length],.sl 1000000003 0 c.length] [(1000000000,.var (.agg [.lst .m 1 (g.map AV.z),.lst .m 4 (j.map (ai .m)),.i k,.sl 1000000001 0 a.length])),(1000000001,.arr 2 (a.map (aC .m))),(1000000002,.arr 1 (b.map AV.i)),(1000000003,.arr 1 (c.map AV.i))] (.tup []) ([(470000003,.arr 2 (r.2.2.2.1.map (aC .m))),(1000000000,.var (.agg [.lst .m 1 (r.1.map AV.z),.lst .m 4 (r.2.1.map (ai .m)),.i r.2.2.1,.sl 470000003 0 r.2.2.2.1.length])),(1000000003,.arr 1 (r.2.2.2.2.map AV.i))]):=by
 refine aY (lr:=[470000003,1000000000,1000000003]) bb OP rfl rfl ?_;unfold DP at h;simp only[ZC,yU,cF];obtain⟨y,s,h⟩:=ae h;obtain⟨t,u,h⟩:=ae h;obtain⟨p,h⟩|⟨p,h⟩:=aq h
 ·obtain⟨a1,x,h⟩:=ae h;have f:=ZA (aI s) (ZA u p);refine ZF f ?_;refine ZWG f (w_gc _ _ _ _ _ x) [49,1000000000,1000000001] [2400049] ?_;cases h;exact ZL f @cF.eq_1
 ·obtain⟨b1,v,h⟩:=ae h;try refine ZF (ZA (aI s) (ZA u p)) ?_
  first|refine de (aX (aB (w_aj d g j k a b c l t q) v ?_)) (fun τ w=>?_)|refine dM (aB (w_aj d g j k a b c l t q) v ?_) (fun τ w=>?_)
  ·exact ZK (ZA @Ly.eq_1 @zo.eq_1)
  ·cases h;refine pw w (by decide) ?_ rfl;exact ZK (ZA @cF.eq_1 @zo.eq_1)
theorem w_dg:∀(n:Nat)(d:Int)(g:List ByteArray)(j:List az)(k:Int)(a:List au)(b:List Int)(c:List Int){r:List ByteArray×List az×Int×List au×List Int}(_:wz n d g j k a b c=some r),OkM Tryz.prog 240 [.pt 1000000000 0 0,.agg [.i d,.sl 1000000002 0 b.length],.sl 1000000003 0 c.length] [(1000000000,.var (.agg [.lst .m 1 (g.map AV.z),.lst .m 4 (j.map (ai .m)),.i k,.sl 1000000001 0 a.length])),(1000000001,.arr 2 (a.map (aC .m))),(1000000002,.arr 1 (b.map AV.i)),(1000000003,.arr 1 (c.map AV.i))] ((fun(r:List ByteArray×List az×Int×List au×List Int)=>.tup []) r) ((fun(r:List ByteArray×List az×Int×List au×List Int)=>[(470000003,.arr 2 (r.2.2.2.1.map (aC .m))),(1000000000,.var (.agg [.lst .m 1 (r.1.map AV.z),.lst .m 4 (r.2.1.map (ai .m)),.i r.2.2.1,.sl 470000003 0 r.2.2.2.1.length])),(1000000003,.arr 1 (r.2.2.2.2.map AV.i))]) r)
 |0,d,g,j,k,a,b,c,_,h=>by cases h
 |n+1,d,g,j,k,a,b,c,_,h=>WA (wz n) (w_dg n) d g j k a b c h
def Hy(b:Int)(a:List Int)(c:Int)(v:Int×List ByteArray×List az×Int×List au):St:=⟨[(0,.pt 1000000000 0 0),(2,.sl 1000000001 0 a.length),(4,.pt 4 0 0),(6,.i c),(7,.i v.1)],[(4,.var (.agg [.i b,.lst .m 1 []])),(470000003,.arr 2 (v.2.2.2.2.map (aC .m))),(1000000000,.var (.agg [.lst .m 1 (v.2.1.map AV.z),.lst .m 4 (v.2.2.1.map (ai .m)),.i v.2.2.2.1,.sl 470000003 0 v.2.2.2.2.length])),(1000000001,.arr 1 (a.map AV.i))]⟩
def yN(a:List Int)(v:List ByteArray×List az×Int×List au):St:=⟨[],[(470000003,.arr 2 (v.2.2.2.map (aC .m))),(1000000000,.var (.agg [.lst .m 1 (v.1.map AV.z),.lst .m 4 (v.2.1.map (ai .m)),.i v.2.2.1,.sl 470000003 0 v.2.2.2.length])),(1000000001,.arr 1 (a.map AV.i))]⟩
theorem w_bi(g:Int)(d:List Int)(j:Int)(a:Int×List ByteArray×List az×Int×List au)(o:(Int×List ByteArray×List az×Int×List au)⊕(List ByteArray×List az×Int×List au))(h:Uz g d j a=some o):AWP (OkS Tryz.prog) nV (qL [0,2,4,6,7] [4,470000003,1000000000,1000000001] (Hy g d j) (qX 0 [] [470000003,1000000000,1000000001] (yN d)) o) (Hy g d j a):=by
 have e:=ZA @Hy.eq_1 @yN.eq_1;unfold Uz at h;simp only[ZC,Hy,nV];obtain⟨q1,s1,h⟩:=ae h;try refine ZF trivial ?_
 refine ax (sh:=(fun v=>⟨[(0,.pt 1000000000 0 0),(2,.sl 1000000001 0 d.length),(4,.pt 4 0 0),(6,.i j),(7,.i a.1),(39,.b v)],[(4,.var (.agg [.i g,.lst .m 1 []])),(470000003,.arr 2 (a.2.2.2.2.map (aC .m))),(1000000000,.var (.agg [.lst .m 1 (a.2.1.map AV.z),.lst .m 4 (a.2.2.1.map (ai .m)),.i a.2.2.2.1,.sl 470000003 0 a.2.2.2.2.length])),(1000000001,.arr 1 (d.map AV.i))]⟩)) (s:=q1) ?_ ?_
 ·replace h:=s1;obtain⟨q,h⟩|⟨q,h⟩:=aq h
  ·cases h;exact ZL q trivial
  ·cases h;exact ZL q trivial
 ·simp only[ZC,uV];obtain⟨c,h⟩|⟨c,h⟩:=aq h
  ·obtain⟨a1,t1,h⟩:=ae h;refine ZF c ?_;refine ZSG c (Hd _ _ _ t1) ?_;obtain⟨u1,v1,h⟩:=ae h;try refine ZF c ?_
   refine ax (sh:=(fun v=>⟨[(0,.pt 1000000000 0 0),(2,.sl 1000000001 0 d.length),(4,.pt 4 0 0),(6,.i j),(7,.i a.1),(8,.i a1),(56,.b v)],[(4,.var (.agg [.i g,.lst .m 1 []])),(470000003,.arr 2 (a.2.2.2.2.map (aC .m))),(1000000000,.var (.agg [.lst .m 1 (a.2.1.map AV.z),.lst .m 4 (a.2.2.1.map (ai .m)),.i a.2.2.2.1,.sl 470000003 0 a.2.2.2.2.length])),(1000000001,.arr 1 (d.map AV.i))]⟩)) (s:=u1) ?_ ?_
   ·replace h:=v1;obtain⟨t,h⟩|⟨t,h⟩:=aq h
    ·obtain⟨j2,w1,h⟩:=ae h;have f:=ZA c t;refine ZF f ?_;refine ZSG f (Br _ _ w1) ?_;cases h;exact ZL f trivial
    ·cases h;exact ZL (ZA c t) trivial
   ·simp only[ZC,th];obtain⟨u,h⟩|⟨u,h⟩:=aq h
    ·obtain⟨b1,x1,h⟩:=ae h;have f:=ZA c u;refine ZF f ?_;refine ZUG f (w_q _ x1) ?_;obtain⟨w,k,h⟩:=aK h;have y1:Row.arr 1 [(.i a.1:AV)]=Row.arr 1 (w.map AV.i):=by rw[<-k];rfl
     have c1:w.length=1:=by rw[<-k];rfl
     obtain⟨k2,z1,h⟩:=ae h;have d1:=aI z1;obtain⟨g1,l,h⟩:=aK h;have a2:b1.map AV.i++w.map AV.i=g1.map AV.i:=by rw[<-l,List.map_append]
     have i1:b1.length+1=g1.length:=by simp[<-k,<-l]<;>omega
     rw[i1] at d1;obtain⟨j1,b2,h⟩:=ae h;have f:=ZA f (ZA y1 (ZA c1 (ZA d1 (ZA a2 i1))));refine ZF f ?_;refine ZUG f (w_q _ b2) ?_;obtain⟨x,p,h⟩:=aK h;have c2:Row.arr 1 [(.i a1:AV)]=Row.arr 1 (x.map AV.i):=by rw[<-p];rfl
     have k1:x.length=1:=by rw[<-p];rfl
     obtain⟨l2,d2,h⟩:=ae h;have l1:=aI d2;obtain⟨m1,y,h⟩:=aK h;have g2:j1.map AV.i++x.map AV.i=m1.map AV.i:=by rw[<-y,List.map_append]
     have p1:j1.length+1=m1.length:=by simp[<-k,<-l,<-p,<-y]<;>omega
     rw[p1] at l1;obtain⟨m2,i2,h⟩:=ae h;have f:=ZA f (ZA c2 (ZA k1 (ZA l1 (ZA g2 p1))));refine ZF f ?_;refine ZWG f (w_dg N0 _ _ _ _ _ _ _ i2) [470000003,1000000000,1000000003] [477300003] ?_;cases h;exact ZL f (ZA e (ZA k.symm (ZA l.symm (ZA p.symm (ZA y.symm (ZA c1 k1))))))
    ·cases h;exact ZL (ZA c u) e
  ·cases h;exact ZL c e
theorem w_ho(b:Int)(d:List ByteArray)(g:List az)(j:Int)(a:List Int){r:List ByteArray×List az×Int×List au×List Int}(h:QT b d g j a=some r):OkM Tryz.prog 240 [.pt 1000000000 0 0,.agg [.i b,.lst .u 1 []],.sl 1000000001 0 a.length] [(1000000000,.var (.agg [.lst .m 1 (d.map AV.z),.lst .m 4 (g.map (ai .m)),.i j,.lst .u 2 []])),(1000000001,.arr 1 (a.map AV.i))] (.tup []) ([(470000003,.arr 2 (r.2.2.2.1.map (aC .m))),(1000000000,.var (.agg [.lst .m 1 (r.1.map AV.z),.lst .m 4 (r.2.1.map (ai .m)),.i r.2.2.1,.sl 470000003 0 r.2.2.2.1.length])),(1000000001,.arr 1 (r.2.2.2.2.map AV.i))]):=by
 refine aY (lr:=[470000003,1000000000,1000000001]) bb Uf rfl rfl ?_;unfold QT at h;simp only[ZC,GH,cF];obtain⟨v,k,h⟩:=ae h;obtain⟨l,p,h⟩:=ae h;obtain⟨c,h⟩|⟨c,h⟩:=aq h
 ·obtain⟨w,t,h⟩:=ae h;have f:=ZA (aI k) (ZA p c);refine ZF f ?_;refine ZWG f (w_ht _ _ _ _ _ t) [49,1000000000,1000000001] [2400049] ?_;cases h;exact ZL f @cF.eq_1
 ·obtain⟨x,q,h⟩:=ae h;try refine ZF (ZA (aI k) (ZA p c)) ?_
  first|refine de (aX (aB (w_bi b a l) q ?_)) (fun τ s=>?_)|refine dM (aB (w_bi b a l) q ?_) (fun τ s=>?_)
  ·exact ZK (ZA @Hy.eq_1 @yN.eq_1)
  ·cases h;refine pw s (by decide) ?_ rfl;exact ZK (ZA @cF.eq_1 @yN.eq_1)
theorem w_gd(c:af)(d:Int)(k:Int){r:Bool×List au}(h:LZ c d k=some r):OkM Tryz.prog 218 [.agg [.lst .m 1 (((c).Nodes).map AV.z),.lst .m 4 (((c).Fibers).map (ai .m))],.i d,.i k] [] (.tup [.sl 6 0 r.2.length,.b r.1]) ([(6,.arr 2 (r.2.map (aC .m)))]):=by
 refine aY (lr:=[6]) bb UK rfl rfl ?_;unfold LZ at h;simp only[ZC,Fz,xU];obtain⟨l,a,h⟩:=aK h;have p:Row.arr 1 [(.i d:AV)]=Row.arr 1 (l.map AV.i):=by rw[<-a];rfl
 have g:l.length=1:=by rw[<-a];rfl
 obtain⟨t,q,h⟩:=ae h;have f:=ZA p g;refine ZF f ?_;refine ZWG f (w_ho _ _ _ _ _ q) [470000003,1000000000,1000000001] [471900003] ?_;obtain⟨j,h⟩|⟨j,h⟩:=aq h
 ·cases h;exact ZL (ZA f j) (ZA @xU.eq_1 (ZA a.symm g))
 ·obtain⟨u,s,h⟩:=ae h;cases h;exact ZL (ZA f (ZA j (aI s))) (ZA @xU.eq_1 (ZA a.symm g))
def JM(b:af)(d:Nat)(g:Nat)(a:be)(j:List aU)(c:Bool×List au)(v:Int×List au×List Int):St:=⟨[(1,.sl 1000000000 d g),(3,.pt 3 0 0),(5,.pt 5 0 0),(9,.sl 9 0 v.2.1.length),(10,.sl 10 0 v.2.2.length),(11,.sl 11 0 c.2.length),(13,.i v.1)],[(3,.var (.agg [.lst .m 1 (((b).Nodes).map AV.z),.lst .m 4 (((b).Fibers).map (ai .m))])),(5,.var (.agg [.i ((a).From),.i ((a).To),.i ((a).Rate),.i ((a).Class)])),(9,.arr 2 (v.2.1.map (aC .m))),(10,.arr 1 (v.2.2.map AV.i)),(11,.arr 2 (c.2.map (aC .m))),(1000000000,.arr 2 (j.map (aE .u)))]⟩
def zu(a:List aU)(v:List au×List Int):St:=⟨[(9,.sl 9 0 v.1.length),(10,.sl 10 0 v.2.length)],[(9,.arr 2 (v.1.map (aC .m))),(10,.arr 1 (v.2.map AV.i)),(1000000000,.arr 2 (a.map (aE .u)))]⟩
theorem w_ay(l:af)(d:Nat)(g:Nat)(p:be)(b:List aU)(q:Bool×List au)(a:Int×List au×List Int)(o:(Int×List au×List Int)⊕(List au×List Int))(h:GJ l d g p b q a=some o):AWP (OkS Tryz.prog) nt (qL [1,3,5,9,10,11,13] [3,5,9,10,11,1000000000] (JM l d g p b q) (qX 0 [9,10] [9,10,1000000000] (zu b)) o) (JM l d g p b q a):=by
 have e:=ZA @JM.eq_1 @zu.eq_1;unfold GJ at h;simp only[ZC,JM,nt];obtain⟨s,h⟩|⟨s,h⟩:=aq h
 ·obtain⟨b2,k1,h⟩:=ae h;obtain⟨y,l1,h⟩:=ae h;obtain⟨c2,m1,h⟩:=ae h;have f:=ZA s (ZA (aI k1) l1);refine ZF f ?_;refine ZSG f (Ia _ _ m1) ?_;obtain⟨p1,q1,h⟩:=aK h;have s1:sub (b.map (aE .u)) d g=p1.map (aE .u):=by rw[bD,q1]
  obtain⟨t1,u1,h⟩:=ae h;have f:=ZA f s1;refine ZF f ?_;refine ZSG f (Td _ _ _ u1) ?_;obtain⟨t,h⟩|⟨t,h⟩:=aq h
  ·obtain⟨v,c,h⟩:=aK h;have v1:Row.arr 2 [(.agg [.i y.Start,.lst .m 1 (y.Fibers.map AV.i)]:AV)]=Row.arr 2 (v.map (aC .m)):=by rw[<-c];rfl
   have z:v.length=1:=by rw[<-c];rfl
   obtain⟨d2,w1,h⟩:=ae h;have a1:=aI w1;obtain⟨b1,j,h⟩:=aK h;have x1:a.2.1.map (aC .m)++v.map (aC .m)=b1.map (aC .m):=by rw[<-j,List.map_append]
   have c1:a.2.1.length+1=b1.length:=by simp[<-c,<-j]<;>omega
   rw[c1] at a1;obtain⟨w,k,h⟩:=aK h;have y1:Row.arr 1 [(.i t1:AV)]=Row.arr 1 (w.map AV.i):=by rw[<-k];rfl
   have d1:w.length=1:=by rw[<-k];rfl
   obtain⟨g2,z1,h⟩:=ae h;have g1:=aI z1;obtain⟨i1,x,h⟩:=aK h;have a2:a.2.2.map AV.i++w.map AV.i=i1.map AV.i:=by rw[<-x,List.map_append]
   have j1:a.2.2.length+1=i1.length:=by simp[<-c,<-j,<-k,<-x]<;>omega
   rw[j1] at g1;cases h;exact ZL (ZA f (ZA t (ZA v1 (ZA z (ZA a1 (ZA x1 (ZA c1 (ZA y1 (ZA d1 (ZA g1 (ZA a2 j1))))))))))) (ZA e (ZA c.symm (ZA j.symm (ZA k.symm (ZA x.symm (ZA z d1))))))
  ·cases h;exact ZL (ZA f t) e
 ·cases h;exact ZL s e
theorem w_ge(c:af)(g:Nat)(j:Nat)(a:be)(k:List aU){r:Bool×List au×List Int×List aU}(h:FA c g j a k=some r):OkM Tryz.prog 184 [.agg [.lst .m 1 (((c).Nodes).map AV.z),.lst .m 4 (((c).Fibers).map (ai .m))],.sl 1000000000 g j,.agg [.i ((a).From),.i ((a).To),.i ((a).Rate),.i ((a).Class)]] [(1000000000,.arr 2 (k.map (aE .u)))] (.tup [.sl 6 0 r.2.1.length,.sl 7 0 r.2.2.1.length,.b r.1]) ([(6,.arr 2 (r.2.1.map (aC .m))),(7,.arr 1 (r.2.2.1.map AV.i)),(1000000000,.arr 2 (r.2.2.2.map (aE .u)))]):=by
 refine aY (lr:=[6,7,1000000000]) bb Uc rfl rfl ?_;unfold FA at h;simp only[ZC,Ma,js];obtain⟨l,p,h⟩:=ae h;refine ZF trivial ?_;refine ZWG trivial (w_gd _ _ _ p) [6] [2400006] ?_;obtain⟨d,h⟩|⟨d,h⟩:=aq h
 ·cases h;exact ZL d @js.eq_1
 ·obtain⟨s,q,h⟩:=ae h;try refine ZF d ?_
  refine ax (aX (aB (w_ay c g j a k l) q ?_)) ?_
  ·exact ZK (ZA @JM.eq_1 @zu.eq_1)
  ·simp only[ZC,zu,vw];cases h;exact ZL d @js.eq_1
theorem w_ef(c:af)(g:Nat)(j:Nat)(a:be)(k:List aU){r:Bool×List au×List Int×List aU}(h:Bx c g j a k=some r):OkM Tryz.prog 121 [.agg [.lst .m 1 (((c).Nodes).map AV.z),.lst .m 4 (((c).Fibers).map (ai .m))],.sl 1000000000 g j,.agg [.i ((a).From),.i ((a).To),.i ((a).Rate),.i ((a).Class)]] [(1000000000,.arr 2 (k.map (aE .u)))] (.tup [.sl 6 0 r.2.1.length,.sl 7 0 r.2.2.1.length,.b r.1]) ([(6,.arr 2 (r.2.1.map (aC .m))),(7,.arr 1 (r.2.2.1.map AV.i)),(1000000000,.arr 2 (r.2.2.2.map (aE .u)))]):=by
 refine aY (lr:=[6,7,1000000000]) bb UA rfl rfl ?_;unfold Bx at h;simp only[ZC,Gg,js];obtain⟨q,t,h⟩:=ae h;try refine ZF trivial ?_
 refine ax (sh:=(fun v=>⟨[(1,.sl 1000000000 g j),(3,.pt 3 0 0),(5,.pt 5 0 0),(22,.b v)],[(3,.var (.agg [.lst .m 1 (((c).Nodes).map AV.z),.lst .m 4 (((c).Fibers).map (ai .m))])),(5,.var (.agg [.i ((a).From),.i ((a).To),.i ((a).Rate),.i ((a).Class)])),(1000000000,.arr 2 (k.map (aE .u)))]⟩)) (s:=q) ?_ ?_
 ·replace h:=t;obtain⟨g1,w,h⟩:=ae h;refine ZF trivial ?_;refine ZSG trivial (Te _ w) ?_;obtain⟨l,h⟩|⟨l,h⟩:=aq h
  ·cases h;exact ZL l trivial
  ·obtain⟨x,y,h⟩:=aK h;have a1:sub (k.map (aE .u)) g j=x.map (aE .u):=by rw[bD,y]
   obtain⟨i1,b1,h⟩:=ae h;have f:=ZA l a1;refine ZF f ?_;refine ZSG f (w_fx _ b1) ?_;obtain⟨p,h⟩|⟨p,h⟩:=aq h
   ·cases h;exact ZL (ZA f p) trivial
   ·obtain⟨j1,c1,h⟩:=ae h;have f:=ZA f p;refine ZF f ?_;refine ZSG f (w_fy _ _ c1) ?_;cases h;exact ZL f trivial
 ·simp only[ZC,vr];obtain⟨d,h⟩|⟨d,h⟩:=aq h
  ·cases h;exact ZL d @js.eq_1
  ·obtain⟨k1,d1,h⟩:=ae h;refine ZF d ?_;refine ZWG d (w_ge _ _ _ _ _ d1) [6,7,1000000000] [2900006,2900007] ?_;cases h;exact ZL d @js.eq_1
theorem w_er(d:af)(j:Nat)(k:Nat)(c:be)(l:List aU){r:au×au×Bool×List aU}(h:DM d j k c l=some r):OkM Tryz.prog 44 [.agg [.lst .m 1 (((d).Nodes).map AV.z),.lst .m 4 (((d).Fibers).map (ai .m))],.sl 1000000000 j k,.agg [.i ((c).From),.i ((c).To),.i ((c).Rate),.i ((c).Class)]] [(1000000000,.arr 2 (l.map (aE .u)))] (.tup [.agg [.i ((r.1).Start),.lst .m 1 (((r.1).Fibers).map AV.i)],.agg [.i ((r.2.1).Start),.lst .m 1 (((r.2.1).Fibers).map AV.i)],.b r.2.2.1]) ([(1000000000,.arr 2 (r.2.2.2.map (aE .u)))]):=by
 refine aY (lr:=[1000000000]) bb Ws rfl rfl ?_;unfold DM at h;simp only[ZC,Rm,vb];obtain⟨x,p,h⟩:=ae h;refine ZF trivial ?_;refine ZWG trivial (w_ef _ _ _ _ _ p) [6,7,1000000000] [1900006,1900007] ?_;obtain⟨a,h⟩|⟨a,h⟩:=aq h
 ·cases h;exact ZL a @vb.eq_1
 ·obtain⟨y,q,h⟩:=ae h;refine ZF a ?_;refine ZUG a (w_gb _ _ _ q) ?_;obtain⟨g,h⟩|⟨g,h⟩:=aq h
  ·cases h;exact ZL (ZA a g) @vb.eq_1
  ·obtain⟨a1,s,h⟩:=ae h;obtain⟨b1,t,h⟩:=ae h;obtain⟨c1,v,h⟩:=ae h;obtain⟨d1,w,h⟩:=ae h;cases h;exact ZL (ZA a (ZA g (ZA (aI s) (ZA t (ZA (aI v) w))))) @vb.eq_1
theorem w_es(a:au){r:au}(h:GY a=some r):Ok Tryz.prog 214 [.agg [.i a.Start,.lst .o 1 (a.Fibers.map AV.i)]] (.agg [.i r.Start,.lst .u 1 (r.Fibers.map AV.i)]):=by
 refine aA bb m214 rfl ?_;unfold GY at h;simp only[ZC,A214,dh,aH];obtain⟨c,b,h⟩:=ae h;refine ZF trivial ?_;refine ZUG trivial (w_q _ b) ?_;cases h;exact ZL trivial @dh.eq_1
theorem VC(a:ah){r:ah}(h:wl a=some r):Ok Tryz.prog 167 [.agg [.i a.Id,.i a.Class,.i a.Work.Start,.lst .o 1 (a.Work.Fibers.map AV.i),.i a.WorkBlock.First,.i a.WorkBlock.Count,.i a.Spare.Start,.lst .o 1 (a.Spare.Fibers.map AV.i),.i a.SpareBlock.First,.i a.SpareBlock.Count]] (.agg [.i r.Id,.i r.Class,.i r.Work.Start,.lst .u 1 (r.Work.Fibers.map AV.i),.i r.WorkBlock.First,.i r.WorkBlock.Count,.i r.Spare.Start,.lst .u 1 (r.Spare.Fibers.map AV.i),.i r.SpareBlock.First,.i r.SpareBlock.Count]):=by
 refine aA bb m167 rfl ?_;unfold wl at h;simp only[ZC,A167,UJ,aH];obtain⟨d,b,h⟩:=ae h;refine ZF trivial ?_;refine ZUG trivial (w_es _ b) ?_;obtain⟨g,c,h⟩:=ae h;refine ZF trivial ?_;refine ZUG trivial (w_es _ c) ?_;cases h;exact ZL trivial @UJ.eq_1
def rD(b:List ah)(a:ah)(v:Int×List ah):St:=⟨[(0,.lst .o 10 (b.map (aj .o))),(3,.pt 3 0 0),(5,.sl 5 0 v.2.length),(6,.i v.1)],[(3,.var (.agg [.i a.Id,.i a.Class,.i a.Work.Start,.lst .o 1 (a.Work.Fibers.map AV.i),.i a.WorkBlock.First,.i a.WorkBlock.Count,.i a.Spare.Start,.lst .o 1 (a.Spare.Fibers.map AV.i),.i a.SpareBlock.First,.i a.SpareBlock.Count])),(5,.arr 10 (v.2.map (aj .u)))]⟩
theorem w_bj(g:List ah)(a:ah)(d:Int×List ah)(o:(Int×List ah)⊕(Int×List ah))(h:Ju g a d=some o):AWP (OkS Tryz.prog) FC (qL [0,3,5,6] [3,5] (rD g a) (qX 0 [0,3,5,6] [3,5] (rD g a)) o) (rD g a d):=by
 have e:=ZA @rD.eq_1 @rD.eq_1;unfold Ju at h;simp only[ZC,rD,FC];obtain⟨y,z,h⟩:=ae h;try refine ZF trivial ?_
 refine ax (sh:=(fun v=>⟨[(0,.lst .o 10 (g.map (aj .o))),(3,.pt 3 0 0),(5,.sl 5 0 d.2.length),(6,.i d.1),(21,.b v)],[(3,.var (.agg [.i a.Id,.i a.Class,.i a.Work.Start,.lst .o 1 (a.Work.Fibers.map AV.i),.i a.WorkBlock.First,.i a.WorkBlock.Count,.i a.Spare.Start,.lst .o 1 (a.Spare.Fibers.map AV.i),.i a.SpareBlock.First,.i a.SpareBlock.Count])),(5,.arr 10 (d.2.map (aj .u)))]⟩)) (s:=y) ?_ ?_
 ·replace h:=z;obtain⟨k,h⟩|⟨k,h⟩:=aq h
  ·obtain⟨j1,a1,h⟩:=ae h;cases h;exact ZL (ZA k (aL a1)) trivial
  ·cases h;exact ZL k trivial
 ·simp only[ZC,Rx];obtain⟨l,h⟩|⟨l,h⟩:=aq h
  ·obtain⟨k1,b1,h⟩:=ae h;obtain⟨c,c1,h⟩:=ae h;have f:=ZA l (aL b1);refine ZF f ?_;refine ZUG f (VC _ c1) ?_;obtain⟨m,j,h⟩:=aK h;have d1:Row.arr 10 [(.agg [.i c.Id,.i c.Class,.i c.Work.Start,.lst .u 1 (c.Work.Fibers.map AV.i),.i c.WorkBlock.First,.i c.WorkBlock.Count,.i c.Spare.Start,.lst .u 1 (c.Spare.Fibers.map AV.i),.i c.SpareBlock.First,.i c.SpareBlock.Count]:AV)]=Row.arr 10 (m.map (aj .u)):=by rw[<-j];rfl
   have q:m.length=1:=by rw[<-j];rfl
   obtain⟨l1,g1,h⟩:=ae h;have t:=aI g1;obtain⟨w,p,h⟩:=aK h;have i1:d.2.map (aj .u)++m.map (aj .u)=w.map (aj .u):=by rw[<-p,List.map_append]
   have x:d.2.length+1=w.length:=by simp[<-j,<-p]<;>omega
   rw[x] at t;cases h;exact ZL (ZA f (ZA d1 (ZA q (ZA t (ZA i1 x))))) (ZA e (ZA j.symm (ZA p.symm q)))
  ·cases h;exact ZL l e
def Gv(a:List ah)(v:Int×List ah):St:=⟨[(0,.lst .o 10 (a.map (aj .o))),(5,.sl 5 0 v.2.length),(6,.i v.1)],[(5,.arr 10 (v.2.map (aj .u)))]⟩
def Ac(v:List ah):St:=⟨[(5,.sl 5 0 v.length)],[(5,.arr 10 (v.map (aj .u)))]⟩
theorem w_az(d:List ah)(b:Int×List ah)(o:(Int×List ah)⊕(List ah))(h:Hm d b=some o):AWP (OkS Tryz.prog) MF (qL [0,5,6] [5] (Gv d) (qX 2 [5] [5] (Ac)) o) (Gv d b):=by
 have e:=ZA @Gv.eq_1 @Ac.eq_1;unfold Hm at h;simp only[ZC,Gv,MF];obtain⟨g,h⟩|⟨g,h⟩:=aq h
 ·obtain⟨y,s,h⟩:=ae h;obtain⟨a,t,h⟩:=ae h;have f:=ZA g (aL s);refine ZF f ?_;refine ZUG f (VC _ t) ?_;obtain⟨j,c,h⟩:=aK h;have v:Row.arr 10 [(.agg [.i a.Id,.i a.Class,.i a.Work.Start,.lst .u 1 (a.Work.Fibers.map AV.i),.i a.WorkBlock.First,.i a.WorkBlock.Count,.i a.Spare.Start,.lst .u 1 (a.Spare.Fibers.map AV.i),.i a.SpareBlock.First,.i a.SpareBlock.Count]:AV)]=Row.arr 10 (j.map (aj .u)):=by rw[<-c];rfl
  have l:j.length=1:=by rw[<-c];rfl
  obtain⟨z,w,h⟩:=ae h;have m:=aI w;obtain⟨p,k,h⟩:=aK h;have x:b.2.map (aj .u)++j.map (aj .u)=p.map (aj .u):=by rw[<-k,List.map_append]
  have q:b.2.length+1=p.length:=by simp[<-c,<-k]<;>omega
  rw[q] at m;cases h;exact ZL (ZA f (ZA v (ZA l (ZA m (ZA x q))))) (ZA e (ZA c.symm (ZA k.symm l)))
 ·cases h;exact ZL g e
theorem w_gf(c:List ah)(a:ah){r:List ah}(h:FB c a=some r):Ok Tryz.prog 93 [.lst .o 10 (c.map (aj .o)),.agg [.i a.Id,.i a.Class,.i a.Work.Start,.lst .o 1 (a.Work.Fibers.map AV.i),.i a.WorkBlock.First,.i a.WorkBlock.Count,.i a.Spare.Start,.lst .o 1 (a.Spare.Fibers.map AV.i),.i a.SpareBlock.First,.i a.SpareBlock.Count]] (.lst .u 10 (r.map (aj .u))):=by
 refine aA bb m93 rfl ?_;unfold FB at h;simp only[ZC,A93,ay,aH];obtain⟨l,s,h⟩:=ae h;try refine ZF trivial ?_
 refine ax (aX (aB (w_bj c a) s ?_)) ?_
 ·exact ZK (ZA @rD.eq_1 @rD.eq_1)
 ·simp only[ZC,rD,Sx];obtain⟨b,t,h⟩:=ae h;refine ZF trivial ?_;refine ZUG trivial (VC _ t) ?_;obtain⟨g,d,h⟩:=aK h;have v:Row.arr 10 [(.agg [.i b.Id,.i b.Class,.i b.Work.Start,.lst .u 1 (b.Work.Fibers.map AV.i),.i b.WorkBlock.First,.i b.WorkBlock.Count,.i b.Spare.Start,.lst .u 1 (b.Spare.Fibers.map AV.i),.i b.SpareBlock.First,.i b.SpareBlock.Count]:AV)]=Row.arr 10 (g.map (aj .u)):=by rw[<-d];rfl
  have j:g.length=1:=by rw[<-d];rfl
  obtain⟨z,w,h⟩:=ae h;have m:=aI w;obtain⟨p,k,h⟩:=aK h;have x:l.2.map (aj .u)++g.map (aj .u)=p.map (aj .u):=by rw[<-k,List.map_append]
  have q:l.2.length+1=p.length:=by simp[<-d,<-k]<;>omega
  rw[q] at m;obtain⟨a1,y,h⟩:=ae h;have f:=ZA v (ZA j (ZA m (ZA x q)));try refine ZF f ?_
  refine ax (aX (aB (w_az c) y ?_)) ?_
  ·exact ZK (ZA @Gv.eq_1 (ZA @Ac.eq_1 (ZA d.symm (ZA k.symm j))))
  ·simp only[ZC,Ac,Rj];cases h;exact ZL f (ZA @ay.eq_1 j)
theorem w_gg(j:af)(d:aw){r:be×aw}(h:Fr j d=some r):OkM Tryz.prog 84 [.pt 1000000000 0 0,.agg [.lst .m 1 (((j).Nodes).map AV.z),.lst .m 4 (((j).Fibers).map (ai .m))]] [(1000000000,.var (.agg [.lst .o 1 (((d).code).map AV.u8),.i ((d).atF),.sc (.int .u64 ((d).seed))]))] (.agg [.i ((r.1).From),.i ((r.1).To),.i ((r.1).Rate),.i ((r.1).Class)]) ([(1000000000,.var (.agg [.lst .o 1 (((r.2).code).map AV.u8),.i ((r.2).atF),.sc (.int .u64 ((r.2).seed))]))]):=by
 have e:=@Mj.eq_1;refine aY (lr:=[1000000000]) bb VQ rfl rfl ?_;unfold Fr at h;simp only[ZC,RJ,Mj];obtain⟨m1,w,h⟩:=ae h;refine ZF trivial ?_;refine ZWG trivial (w_b _ _ w) [1000000000] [] ?_;obtain⟨p1,x,h⟩:=ae h;refine ZF trivial ?_;refine ZWG trivial (w_b _ _ x) [1000000000] [] ?_;obtain⟨q1,y,h⟩:=ae h;obtain⟨q,a,h⟩:=aK h;have a1:Row.arr 1 [(.i 10:AV),(.i 20:AV),(.i 40:AV),(.i 50:AV),(.i 90:AV),(.i 120:AV)]=Row.arr 1 (q.map AV.i):=by rw[<-a];rfl
 have b:q.length=6:=by rw[<-a];rfl
 obtain⟨s1,b1,h⟩:=ae h;have f:=ZA (aI y) (ZA a1 b);refine ZF f ?_;refine ZWG f (w_k _ _ b1) [1000000000,1000000001] [] ?_;obtain⟨t1,c1,h⟩:=ae h;refine ZF f ?_;refine ZWG f (w_b _ _ c1) [1000000000] [] ?_;obtain⟨u1,d1,h⟩:=ae h;refine ZF f ?_;refine ZWG f (w_b _ _ d1) [1000000000] [] ?_;obtain⟨c,h⟩|⟨c,h⟩:=aq h
 ·obtain⟨v1,g1,h⟩:=ae h;have f:=ZA f c;refine ZF f ?_;refine ZWG f (w_b _ _ g1) [1000000000] [] ?_;cases h;exact ZL f (ZA e (ZA a.symm b))
 ·obtain⟨g,h⟩|⟨g,h⟩:=aq h
  ·obtain⟨s,k,h⟩:=aK h;have i1:Row.arr 1 [(.i 0:AV),(.i 1:AV),(.i 1000:AV),(.i 1001:AV)]=Row.arr 1 (s.map AV.i):=by rw[<-k];rfl
   have t:s.length=4:=by rw[<-k];rfl
   obtain⟨w1,j1,h⟩:=ae h;have f:=ZA f (ZA c (ZA g (ZA i1 t)));refine ZF f ?_;refine ZWG f (w_k _ _ j1) [1000000000,1000000001] [] ?_;cases h;exact ZL f (ZA e (ZA a.symm (ZA k.symm (ZA b t))))
  ·obtain⟨l,h⟩|⟨l,h⟩:=aq h
   ·obtain⟨u,p,h⟩:=aK h;have k1:Row.arr 1 [(.i (-1):AV),(.i 3:AV)]=Row.arr 1 (u.map AV.i):=by rw[<-p];rfl
    have v:u.length=2:=by rw[<-p];rfl
    obtain⟨x1,l1,h⟩:=ae h;have f:=ZA f (ZA c (ZA g (ZA l (ZA k1 v))));refine ZF f ?_;refine ZWG f (w_k _ _ l1) [1000000000,1000000001] [] ?_;cases h;exact ZL f (ZA e (ZA a.symm (ZA p.symm (ZA b v))))
   ·cases h;exact ZL (ZA f (ZA c (ZA g l))) (ZA e (ZA a.symm b))
theorem w_gh(d:af)(k:Nat)(l:Nat)(a:be)(p:List aU){r:au×Int×Bool×List aU}(h:Kp d k l a p=some r):OkM Tryz.prog 89 [.agg [.lst .m 1 (((d).Nodes).map AV.z),.lst .m 4 (((d).Fibers).map (ai .m))],.sl 1000000000 k l,.agg [.i ((a).From),.i ((a).To),.i ((a).Rate),.i ((a).Class)]] [(1000000000,.arr 2 (p.map (aE .u)))] (.tup [.agg [.i ((r.1).Start),.lst .m 1 (((r.1).Fibers).map AV.i)],.i r.2.1,.b r.2.2.1]) ([(1000000000,.arr 2 (r.2.2.2.map (aE .u)))]):=by
 refine aY (lr:=[1000000000]) bb Wi rfl rfl ?_;unfold Kp at h;simp only[ZC,RN,yk];obtain⟨c,q,h⟩:=ae h;refine ZF trivial ?_;refine ZWG trivial (w_ef _ _ _ _ _ q) [6,7,1000000000] [1800006,1800007] ?_;obtain⟨t,w,h⟩:=ae h;refine ZF trivial ?_;refine ZSG trivial (w_ga _ _ w) ?_;obtain⟨x,y,h⟩:=ae h;try refine ZF trivial ?_
 refine ax (sh:=(fun v=>⟨[(6,.pt 6 0 0),(9,.sl 9 0 c.2.1.length),(10,.sl 10 0 c.2.2.1.length),(12,.i t),(29,.b v)],[(6,.var (.agg [.i 0,.lst .u 1 []])),(9,.arr 2 (c.2.1.map (aC .m))),(10,.arr 1 (c.2.2.1.map AV.i)),(1000000000,.arr 2 (c.2.2.2.map (aE .u)))]⟩)) (s:=x) ?_ ?_
 ·replace h:=y;obtain⟨g,h⟩|⟨g,h⟩:=aq h
  ·cases h;exact ZL g trivial
  ·cases h;exact ZL g trivial
 ·simp only[ZC,zQ];obtain⟨j,h⟩|⟨j,h⟩:=aq h
  ·cases h;exact ZL j @yk.eq_1
  ·obtain⟨g1,a1,h⟩:=ae h;obtain⟨i1,b1,h⟩:=ae h;obtain⟨j1,c1,h⟩:=ae h;obtain⟨k1,d1,h⟩:=ae h;cases h;exact ZL (ZA j (ZA (aI a1) (ZA b1 (ZA (aI c1) d1)))) @yk.eq_1
def MX(b:af)(c:Nat)(d:Nat)(a:ah)(g:Int)(j:Int)(k:List ah)(v:Int×ah):St:=⟨[(1,.sl 1000000000 c d),(3,.i g),(4,.i j),(5,.pt 5 0 0),(7,.pt 7 0 0),(10,.pt 10 0 0),(12,.pt 12 0 0),(13,.i v.1)],[(5,.var (.agg [.lst .m 1 (((b).Nodes).map AV.z),.lst .m 4 (((b).Fibers).map (ai .m))])),(7,.var (.agg [.i ((a).Id),.i ((a).Class),.i (((a).Work).Start),.lst .m 1 ((((a).Work).Fibers).map AV.i),.i (((a).WorkBlock).First),.i (((a).WorkBlock).Count),.i (((a).Spare).Start),.lst .m 1 ((((a).Spare).Fibers).map AV.i),.i (((a).SpareBlock).First),.i (((a).SpareBlock).Count)])),(10,.var (.agg [.i 0,.i 0,.i 0,.lst .u 1 [],.i 0,.i 0,.i 0,.lst .u 1 [],.i 0,.i 0])),(12,.var (.agg [.i ((v.2).Id),.i ((v.2).Class),.i (((v.2).Work).Start),.lst .m 1 ((((v.2).Work).Fibers).map AV.i),.i (((v.2).WorkBlock).First),.i (((v.2).WorkBlock).Count),.i (((v.2).Spare).Start),.lst .u 1 ((((v.2).Spare).Fibers).map AV.i),.i (((v.2).SpareBlock).First),.i (((v.2).SpareBlock).Count)])),(1000000000,.arr 10 (k.map (aj .u)))]⟩
def zj(b:af)(c:Nat)(d:Nat)(a:ah)(g:Int)(j:List ah)(v:ah):St:=⟨[(1,.sl 1000000000 c d),(4,.i g),(5,.pt 5 0 0),(7,.pt 7 0 0),(10,.pt 10 0 0),(12,.pt 12 0 0)],[(5,.var (.agg [.lst .m 1 (((b).Nodes).map AV.z),.lst .m 4 (((b).Fibers).map (ai .m))])),(7,.var (.agg [.i ((a).Id),.i ((a).Class),.i (((a).Work).Start),.lst .m 1 ((((a).Work).Fibers).map AV.i),.i (((a).WorkBlock).First),.i (((a).WorkBlock).Count),.i (((a).Spare).Start),.lst .m 1 ((((a).Spare).Fibers).map AV.i),.i (((a).SpareBlock).First),.i (((a).SpareBlock).Count)])),(10,.var (.agg [.i 0,.i 0,.i 0,.lst .u 1 [],.i 0,.i 0,.i 0,.lst .u 1 [],.i 0,.i 0])),(12,.var (.agg [.i ((v).Id),.i ((v).Class),.i (((v).Work).Start),.lst .m 1 ((((v).Work).Fibers).map AV.i),.i (((v).WorkBlock).First),.i (((v).WorkBlock).Count),.i (((v).Spare).Start),.lst .u 1 ((((v).Spare).Fibers).map AV.i),.i (((v).SpareBlock).First),.i (((v).SpareBlock).Count)])),(1000000000,.arr 10 (j.map (aj .u)))]⟩
theorem w_ba(g:af)(a:Nat)(c:Nat)(j:ah)(k:Int)(l:Int)(d:List ah)(s:Int×ah)(o:(Int×ah)⊕(ah⊕(ah×Bool×List ah)))(h:Fw g a c j k d s=some o):AWP (OkS Tryz.prog) rN (qL [1,3,4,5,7,10,12,13] [5,7,10,12,1000000000] (MX g a c j k l d) (qS (qX 0 [1,4,5,7,10,12] [5,7,10,12,1000000000] (zj g a c j l d)) (qM mz [1000000000] (fun(r:ah×Bool×List ah)=>.tup [.agg [.i ((r.1).Id),.i ((r.1).Class),.i (((r.1).Work).Start),.lst .m 1 ((((r.1).Work).Fibers).map AV.i),.i (((r.1).WorkBlock).First),.i (((r.1).WorkBlock).Count),.i (((r.1).Spare).Start),.lst .m 1 ((((r.1).Spare).Fibers).map AV.i),.i (((r.1).SpareBlock).First),.i (((r.1).SpareBlock).Count)],.b r.2.1]) (fun(r:ah×Bool×List ah)=>[(1000000000,.arr 10 (r.2.2.map (aj .u)))]))) o) (MX g a c j k l d s):=by
 have e:=ZA @MX.eq_1 @zj.eq_1;unfold Fw at h;simp only[ZC,MX,rN];obtain⟨p,h⟩|⟨p,h⟩:=aq h
 ·cases h;exact ZL p @mz.eq_1
 ·obtain⟨t,v,h⟩:=aK h;have w:sub (d.map (aj .u)) a c=t.map (aj .u):=by rw[bD,v]
  obtain⟨y,x,h⟩:=ae h;have f:=ZA p w;refine ZF f ?_;refine ZSG f (w_ee _ _ _ x) ?_;obtain⟨q,h⟩|⟨q,h⟩:=aq h
  ·cases h;exact ZL (ZA f q) e
  ·cases h;exact ZL (ZA f q) e
def MP(a:af)(b:Nat)(c:Nat)(d:Int)(g:List ah)(v:Int×ah):St:=⟨[(1,.sl 1000000000 b c),(4,.i d),(5,.pt 5 0 0),(7,.pt 7 0 0),(10,.pt 10 0 0),(14,.i v.1)],[(5,.var (.agg [.lst .m 1 (((a).Nodes).map AV.z),.lst .m 4 (((a).Fibers).map (ai .m))])),(7,.var (.agg [.i ((v.2).Id),.i ((v.2).Class),.i (((v.2).Work).Start),.lst .m 1 ((((v.2).Work).Fibers).map AV.i),.i (((v.2).WorkBlock).First),.i (((v.2).WorkBlock).Count),.i (((v.2).Spare).Start),.lst .m 1 ((((v.2).Spare).Fibers).map AV.i),.i (((v.2).SpareBlock).First),.i (((v.2).SpareBlock).Count)])),(10,.var (.agg [.i 0,.i 0,.i 0,.lst .u 1 [],.i 0,.i 0,.i 0,.lst .u 1 [],.i 0,.i 0])),(1000000000,.arr 10 (g.map (aj .u)))]⟩
def zN(a:List ah)(v:ah):St:=⟨[(7,.pt 7 0 0),(10,.pt 10 0 0)],[(7,.var (.agg [.i ((v).Id),.i ((v).Class),.i (((v).Work).Start),.lst .m 1 ((((v).Work).Fibers).map AV.i),.i (((v).WorkBlock).First),.i (((v).WorkBlock).Count),.i (((v).Spare).Start),.lst .m 1 ((((v).Spare).Fibers).map AV.i),.i (((v).SpareBlock).First),.i (((v).SpareBlock).Count)])),(10,.var (.agg [.i 0,.i 0,.i 0,.lst .u 1 [],.i 0,.i 0,.i 0,.lst .u 1 [],.i 0,.i 0])),(1000000000,.arr 10 (a.map (aj .u)))]⟩
theorem w_bb(g:af)(c:Nat)(d:Nat)(j:Int)(a:List ah)(p:Int×ah)(o:(Int×ah)⊕(ah⊕(ah×Bool×List ah)))(h:KF g c d j a p=some o):AWP (OkS Tryz.prog) si (qL [1,4,5,7,10,14] [5,7,10,1000000000] (MP g c d j a) (qS (qX 2 [7,10] [7,10,1000000000] (zN a)) (qM mz [1000000000] (fun(r:ah×Bool×List ah)=>.tup [.agg [.i ((r.1).Id),.i ((r.1).Class),.i (((r.1).Work).Start),.lst .m 1 ((((r.1).Work).Fibers).map AV.i),.i (((r.1).WorkBlock).First),.i (((r.1).WorkBlock).Count),.i (((r.1).Spare).Start),.lst .m 1 ((((r.1).Spare).Fibers).map AV.i),.i (((r.1).SpareBlock).First),.i (((r.1).SpareBlock).Count)],.b r.2.1]) (fun(r:ah×Bool×List ah)=>[(1000000000,.arr 10 (r.2.2.map (aj .u)))]))) o) (MP g c d j a p):=by
 have e:=ZA @MP.eq_1 @zN.eq_1;unfold KF at h;simp only[ZC,MP,si];obtain⟨k,h⟩|⟨k,h⟩:=aq h
 ·obtain⟨q,s,h⟩:=aK h;have t:sub (a.map (aj .u)) c d=q.map (aj .u):=by rw[bD,s]
  obtain⟨w,v,h⟩:=ae h;have f:=ZA k t;refine ZF f ?_;refine ZSG f (w_ee _ _ _ v) ?_;obtain⟨l,h⟩|⟨l,h⟩:=aq h
  ·cases h;exact ZL (ZA f l) @mz.eq_1
  ·cases h;exact ZL (ZA f l) e
 ·cases h;exact ZL k e
theorem w_gi(c:af)(d:Nat)(g:Nat)(a:ah)(p:Int)(j:Int)(k:List ah){r:ah×Bool×List ah}(h:HR c d g a p j k=some r):OkM Tryz.prog 92 [.agg [.lst .m 1 (((c).Nodes).map AV.z),.lst .m 4 (((c).Fibers).map (ai .m))],.sl 1000000000 d g,.agg [.i ((a).Id),.i ((a).Class),.i (((a).Work).Start),.lst .m 1 ((((a).Work).Fibers).map AV.i),.i (((a).WorkBlock).First),.i (((a).WorkBlock).Count),.i (((a).Spare).Start),.lst .m 1 ((((a).Spare).Fibers).map AV.i),.i (((a).SpareBlock).First),.i (((a).SpareBlock).Count)],.i p,.i j] [(1000000000,.arr 10 (k.map (aj .u)))] (.tup [.agg [.i ((r.1).Id),.i ((r.1).Class),.i (((r.1).Work).Start),.lst .m 1 ((((r.1).Work).Fibers).map AV.i),.i (((r.1).WorkBlock).First),.i (((r.1).WorkBlock).Count),.i (((r.1).Spare).Start),.lst .m 1 ((((r.1).Spare).Fibers).map AV.i),.i (((r.1).SpareBlock).First),.i (((r.1).SpareBlock).Count)],.b r.2.1]) ([(1000000000,.arr 10 (r.2.2.map (aj .u)))]):=by
 refine aY (lr:=[1000000000]) bb Wc rfl rfl ?_;unfold HR at h;simp only[ZC,Ri,mz];obtain⟨q,s,h⟩:=ae h;try refine ZF trivial ?_
 refine bj (o:=q) (bq nQ (aB (w_ba c d g a p j k) s ?_)) (fun y hv=>?_) (fun a1 hv e τ hne hq=>?_)
 ·exact ZK (ZA @MX.eq_1 @zj.eq_1)
 ·subst hv;simp only[] at h;simp only[ZC,zj,Af];obtain⟨l,h⟩|⟨l,h⟩:=aq h
  ·cases h;exact ZL l @mz.eq_1
  ·obtain⟨t,v,h⟩:=ae h;try refine ZF l ?_
   refine bj (o:=t) (bq nQ (aB (w_bb c d g j k) v ?_)) (fun b1 hv=>?_) (fun c1 hv e τ hne hq=>?_)
   ·exact ZK (ZA @MP.eq_1 @zN.eq_1)
   ·subst hv;simp only[] at h;simp only[ZC,zN,yw];cases h;exact ZL l @mz.eq_1
   ·subst hv;simp only[] at h;obtain⟨rfl,w⟩:=hq;cases h;exact w
 ·subst hv;simp only[] at h;obtain⟨rfl,x⟩:=hq;cases h;exact x
def Ho(b:af)(c:Nat)(d:Nat)(g:Nat)(j:Nat)(a:be)(k:List aU)(l:List ah)(v:Int×ah):St:=⟨[(1,.sl 1000000000 c d),(2,.sl 1000000001 g j),(4,.pt 4 0 0),(7,.pt 7 0 0),(11,.sl 11 0 0),(12,.pt 12 0 0),(13,.i v.1)],[(4,.var (.agg [.lst .m 1 (((b).Nodes).map AV.z),.lst .m 4 (((b).Fibers).map (ai .m))])),(7,.var (.agg [.i ((a).From),.i ((a).To),.i ((a).Rate),.i ((a).Class)])),(11,.arr 10 []),(12,.var (.agg [.i ((v.2).Id),.i ((v.2).Class),.i (((v.2).Work).Start),.lst .m 1 ((((v.2).Work).Fibers).map AV.i),.i (((v.2).WorkBlock).First),.i (((v.2).WorkBlock).Count),.i (((v.2).Spare).Start),.lst .m 1 ((((v.2).Spare).Fibers).map AV.i),.i (((v.2).SpareBlock).First),.i (((v.2).SpareBlock).Count)])),(1000000000,.arr 2 (k.map (aE .u))),(1000000001,.arr 10 (l.map (aj .u)))]⟩
def yg(b:af)(c:Nat)(d:Nat)(g:Nat)(j:Nat)(a:be)(k:List aU)(l:List ah)(v:ah):St:=⟨[(1,.sl 1000000000 c d),(2,.sl 1000000001 g j),(4,.pt 4 0 0),(7,.pt 7 0 0),(11,.sl 11 0 0),(12,.pt 12 0 0)],[(4,.var (.agg [.lst .m 1 (((b).Nodes).map AV.z),.lst .m 4 (((b).Fibers).map (ai .m))])),(7,.var (.agg [.i ((a).From),.i ((a).To),.i ((a).Rate),.i ((a).Class)])),(11,.arr 10 []),(12,.var (.agg [.i ((v).Id),.i ((v).Class),.i (((v).Work).Start),.lst .m 1 ((((v).Work).Fibers).map AV.i),.i (((v).WorkBlock).First),.i (((v).WorkBlock).Count),.i (((v).Spare).Start),.lst .m 1 ((((v).Spare).Fibers).map AV.i),.i (((v).SpareBlock).First),.i (((v).SpareBlock).Count)])),(1000000000,.arr 2 (k.map (aE .u))),(1000000001,.arr 10 (l.map (aj .u)))]⟩
theorem w_bc(d:af)(l:Nat)(p:Nat)(g:Nat)(j:Nat)(c:be)(q:List aU)(k:List ah)(a:Int×ah)(o:(Int×ah)⊕ah)(h:EO g j k a=some o):AWP (OkS Tryz.prog) sC (qL [1,2,4,7,11,12,13] [4,7,11,12,1000000000,1000000001] (Ho d l p g j c q k) (qX 0 [1,2,4,7,11,12] [4,7,11,12,1000000000,1000000001] (yg d l p g j c q k)) o) (Ho d l p g j c q k a):=by
 have e:=ZA @Ho.eq_1 @yg.eq_1;unfold EO at h;simp only[ZC,Ho,sC];obtain⟨x,y,h⟩:=ae h;try refine ZF trivial ?_
 refine ax (sh:=(fun v=>⟨[(1,.sl 1000000000 l p),(2,.sl 1000000001 g j),(4,.pt 4 0 0),(7,.pt 7 0 0),(11,.sl 11 0 0),(12,.pt 12 0 0),(13,.i a.1),(50,.b v)],[(4,.var (.agg [.lst .m 1 (((d).Nodes).map AV.z),.lst .m 4 (((d).Fibers).map (ai .m))])),(7,.var (.agg [.i ((c).From),.i ((c).To),.i ((c).Rate),.i ((c).Class)])),(11,.arr 10 []),(12,.var (.agg [.i ((a.2).Id),.i ((a.2).Class),.i (((a.2).Work).Start),.lst .m 1 ((((a.2).Work).Fibers).map AV.i),.i (((a.2).WorkBlock).First),.i (((a.2).WorkBlock).Count),.i (((a.2).Spare).Start),.lst .m 1 ((((a.2).Spare).Fibers).map AV.i),.i (((a.2).SpareBlock).First),.i (((a.2).SpareBlock).Count)])),(1000000000,.arr 2 (q.map (aE .u))),(1000000001,.arr 10 (k.map (aj .u)))]⟩)) (s:=x) ?_ ?_
 ·replace h:=y;obtain⟨t,h⟩|⟨t,h⟩:=aq h
  ·obtain⟨c1,a1,h⟩:=ae h;obtain⟨d1,b1,h⟩:=ae h;cases h;exact ZL (ZA t (ZA (aI a1) b1)) trivial
  ·cases h;exact ZL t trivial
 ·simp only[ZC,yY];obtain⟨w,h⟩|⟨w,h⟩:=aq h
  ·cases h;exact ZL w e
  ·cases h;exact ZL w e
theorem w_gj(d:af)(j:Nat)(k:Nat)(l:Nat)(p:Nat)(a:be)(t:List aU)(q:List ah){r:Int×Bool×List ah×List aU×List ah}(h:JG d j k l p a t q=some r):OkM Tryz.prog 23 [.agg [.lst .m 1 (((d).Nodes).map AV.z),.lst .m 4 (((d).Fibers).map (ai .m))],.sl 1000000000 j k,.sl 1000000001 l p,.agg [.i ((a).From),.i ((a).To),.i ((a).Rate),.i ((a).Class)]] [(1000000000,.arr 2 (t.map (aE .u))),(1000000001,.arr 10 (q.map (aj .u)))] (.tup [.sl 8 0 r.2.2.1.length,.i r.1,.b r.2.1]) ([(8,.arr 10 (r.2.2.1.map (aj .u))),(1000000000,.arr 2 (r.2.2.2.1.map (aE .u))),(1000000001,.arr 10 (r.2.2.2.2.map (aj .u)))]):=by
 have e:=@Fn.eq_1;refine aY (lr:=[8,1000000000,1000000001]) bb Wu rfl rfl ?_;unfold JG at h;simp only[ZC,Sw,Fn];obtain⟨d1,g1,h⟩:=ae h;try refine ZF trivial ?_
 refine ax (sh:=(fun v=>⟨[(1,.sl 1000000000 j k),(2,.sl 1000000001 l p),(4,.pt 4 0 0),(7,.pt 7 0 0),(11,.sl 11 0 0),(32,.b v)],[(4,.var (.agg [.lst .m 1 (((d).Nodes).map AV.z),.lst .m 4 (((d).Fibers).map (ai .m))])),(7,.var (.agg [.i ((a).From),.i ((a).To),.i ((a).Rate),.i ((a).Class)])),(11,.arr 10 []),(1000000000,.arr 2 (t.map (aE .u))),(1000000001,.arr 10 (q.map (aj .u)))]⟩)) (s:=d1) ?_ ?_
 ·replace h:=g1;obtain⟨i1,j1,h⟩:=aK h;have w:sub (q.map (aj .u)) l p=i1.map (aj .u):=by rw[bD,j1]
  obtain⟨p2,k1,h⟩:=ae h;refine ZF w ?_;refine ZSG w (VJ _ _ k1) ?_;obtain⟨x,h⟩|⟨x,h⟩:=aq h
  ·cases h;exact ZL (ZA w x) trivial
  ·cases h;exact ZL (ZA w x) trivial
 ·simp only[ZC,zY];obtain⟨g,h⟩|⟨g,h⟩:=aq h
  ·cases h;exact ZL g e
  ·obtain⟨q2,l1,h⟩:=ae h;try refine ZF g ?_
   refine ax (aX (aB (w_bc d j k l p a t q) l1 ?_)) ?_
   ·exact ZK (ZA @Ho.eq_1 @yg.eq_1)
   ·simp only[ZC,yg,zE];obtain⟨s2,m1,h⟩:=ae h;refine ZF g ?_;refine ZWG g (w_gh _ _ _ _ _ m1) [1000000000] [] ?_;obtain⟨c,p1,h⟩:=ae h;try refine ZF g ?_
    refine ax (sh:=(fun v=>⟨[(1,.sl 1000000000 j k),(2,.sl 1000000001 l p),(4,.pt 4 0 0),(7,.pt 7 0 0),(11,.sl 11 0 0),(12,.pt 12 0 0),(14,.pt 14 0 0),(16,.b v.1),(17,.i 0)],[(4,.var (.agg [.lst .m 1 (((d).Nodes).map AV.z),.lst .m 4 (((d).Fibers).map (ai .m))])),(7,.var (.agg [.i ((a).From),.i ((a).To),.i ((a).Rate),.i ((a).Class)])),(11,.arr 10 []),(12,.var (.agg [.i ((v.2.1).Id),.i ((v.2.1).Class),.i (((v.2.1).Work).Start),.lst .m 1 ((((v.2.1).Work).Fibers).map AV.i),.i (((v.2.1).WorkBlock).First),.i (((v.2.1).WorkBlock).Count),.i (((v.2.1).Spare).Start),.lst .m 1 ((((v.2.1).Spare).Fibers).map AV.i),.i (((v.2.1).SpareBlock).First),.i (((v.2.1).SpareBlock).Count)])),(14,.var (.agg [.i ((v.2.2.1).Start),.lst .m 1 (((v.2.2.1).Fibers).map AV.i)])),(1000000000,.arr 2 (v.2.2.2.map (aE .u))),(1000000001,.arr 10 (q.map (aj .u)))]⟩)) (s:=c) ?_ ?_
    ·replace h:=p1;obtain⟨y,h⟩|⟨y,h⟩:=aq h
     ·obtain⟨t2,q1,h⟩:=ae h;have f:=ZA g y;refine ZF f ?_;refine ZWG f (w_er _ _ _ _ _ q1) [1000000000] [] ?_;cases h;exact ZL f trivial
     ·cases h;exact ZL (ZA g y) trivial
    ·simp only[ZC,yD];obtain⟨a1,h⟩|⟨a1,h⟩:=aq h
     ·cases h;exact ZL (ZA g a1) e
     ·obtain⟨s1,t1,h⟩:=ae h;have f:=ZA g a1;try refine ZF f ?_
      refine ax (sh:=(fun v=>⟨[(1,.sl 1000000000 j k),(2,.sl 1000000001 l p),(4,.pt 4 0 0),(7,.pt 7 0 0),(11,.sl 11 0 0),(12,.pt 12 0 0),(14,.pt 14 0 0),(17,.i v)],[(4,.var (.agg [.lst .m 1 (((d).Nodes).map AV.z),.lst .m 4 (((d).Fibers).map (ai .m))])),(7,.var (.agg [.i ((a).From),.i ((a).To),.i ((a).Rate),.i ((a).Class)])),(11,.arr 10 []),(12,.var (.agg [.i ((c.2.1).Id),.i ((c.2.1).Class),.i (((c.2.1).Work).Start),.lst .m 1 ((((c.2.1).Work).Fibers).map AV.i),.i (((c.2.1).WorkBlock).First),.i (((c.2.1).WorkBlock).Count),.i (((c.2.1).Spare).Start),.lst .m 1 ((((c.2.1).Spare).Fibers).map AV.i),.i (((c.2.1).SpareBlock).First),.i (((c.2.1).SpareBlock).Count)])),(14,.var (.agg [.i ((c.2.2.1).Start),.lst .m 1 (((c.2.2.1).Fibers).map AV.i)])),(1000000000,.arr 2 (c.2.2.2.map (aE .u))),(1000000001,.arr 10 (q.map (aj .u)))]⟩)) (s:=s1) ?_ ?_
      ·replace h:=t1;obtain⟨b1,h⟩|⟨b1,h⟩:=aq h
       ·obtain⟨u2,u1,h⟩:=ae h;have f:=ZA f b1;refine ZF f ?_;refine ZSG f (Ia _ _ u1) ?_;obtain⟨v1,w1,h⟩:=aK h;have x1:sub (c.2.2.2.map (aE .u)) j k=v1.map (aE .u):=by rw[bD,w1]
        obtain⟨v2,y1,h⟩:=ae h;have f:=ZA f x1;refine ZF f ?_;refine ZSG f (Td _ _ _ y1) ?_;cases h;exact ZL f trivial
       ·cases h;exact ZL (ZA f b1) trivial
      ·simp only[ZC,zi];obtain⟨w2,z1,h⟩:=ae h;refine ZF f ?_;refine ZSG f (Ia _ _ z1) ?_;obtain⟨a2,b2,h⟩:=aK h;have c2:sub (c.2.2.2.map (aE .u)) j k=a2.map (aE .u):=by rw[bD,b2]
       obtain⟨x2,d2,h⟩:=ae h;have f:=ZA f c2;refine ZF f ?_;refine ZSG f (Td _ _ _ d2) ?_;obtain⟨g2,i2,h⟩:=ae h;refine ZF f ?_;refine ZWG f (w_gi _ _ _ _ _ _ _ i2) [1000000000] [] ?_;obtain⟨c1,h⟩|⟨c1,h⟩:=aq h
       ·cases h;exact ZL (ZA f c1) e
       ·obtain⟨j2,k2,h⟩:=aK h;have l2:sub (g2.2.2.map (aj .u)) l p=j2.map (aj .u):=by rw[bD,k2]
        obtain⟨y2,m2,h⟩:=ae h;have f:=ZA f (ZA c1 l2);refine ZF f ?_;refine ZUG f (w_gf _ _ m2) ?_;cases h;exact ZL f e
def LX(a:Nat×Nat×List ByteArray×List az×aw)(b:List ByteArray)(v:Nat×Nat×Int×List ah×List aU×aw):St:=⟨[(0,.pt 1000000000 0 0),(2,.pt 2 0 0),(4,.pt 4 0 0),(5,.sl 5 0 v.1),(6,.sl 6 0 v.2.1),(7,.i v.2.2.1)],[(2,.var (.agg [.lst .u 1 [],.lst .u 4 []])),(4,.var (.agg [.lst .m 1 (b.map AV.z),.lst .m 4 (a.2.2.2.1.map (ai .m))])),(5,.arr 10 (v.2.2.2.1.map (aj .u))),(6,.arr 2 (v.2.2.2.2.1.map (aE .u))),(1000000000,.var (.agg [.lst .o 1 (((v.2.2.2.2.2).code).map AV.u8),.i ((v.2.2.2.2.2).atF),.sc (.int .u64 ((v.2.2.2.2.2).seed))]))]⟩
def zA(a:Nat×Nat×List ByteArray×List az×aw)(b:List ByteArray)(v:Nat×List ah×aw):St:=⟨[(2,.pt 2 0 0),(4,.pt 4 0 0),(5,.sl 5 0 v.1)],[(2,.var (.agg [.lst .u 1 [],.lst .u 4 []])),(4,.var (.agg [.lst .m 1 (b.map AV.z),.lst .m 4 (a.2.2.2.1.map (ai .m))])),(5,.arr 10 (v.2.1.map (aj .u))),(1000000000,.var (.agg [.lst .o 1 (((v.2.2).code).map AV.u8),.i ((v.2.2).atF),.sc (.int .u64 ((v.2.2).seed))]))]⟩
theorem w_bd(b:Nat×Nat×List ByteArray×List az×aw)(c:List ByteArray)(g:Nat×Nat×Int×List ah×List aU×aw)(o:(Nat×Nat×Int×List ah×List aU×aw)⊕(Nat×List ah×aw))(h:Jo b c g=some o):AWP (OkS Tryz.prog) nX (qL [0,2,4,5,6,7] [2,4,5,6,1000000000] (LX b c) (qX 0 [2,4,5] [2,4,5,1000000000] (zA b c)) o) (LX b c g):=by
 have e:=ZA @LX.eq_1 @zA.eq_1;unfold Jo at h;simp only[ZC,LX,nX];obtain⟨a,h⟩|⟨a,h⟩:=aq h
 ·obtain⟨k,i,h⟩:=ae h;refine ZF a ?_;refine ZWG a (w_gg _ _ i) [1000000000] [] ?_;obtain⟨l,j,h⟩:=ae h;refine ZF a ?_;refine ZWG a (w_gj _ _ _ _ _ _ _ _ j) [8,1000000000,1000000001] [3100008] ?_;obtain⟨d,h⟩|⟨d,h⟩:=aq h
  ·cases h;exact ZL (ZA a d) e
  ·cases h;exact ZL (ZA a d) e
 ·cases h;exact ZL a e
theorem w_gk(a:aw){r:af×Nat×Nat×List ah×aw}(h:Kz a=some r):OkM Tryz.prog 150 [.pt 1000000000 0 0] [(1000000000,.var (.agg [.lst .o 1 (((a).code).map AV.u8),.i ((a).atF),.sc (.int .u64 ((a).seed))]))] (.tup [.agg [.lst .m 1 (((r.1).Nodes).map AV.z),.lst .m 4 (((r.1).Fibers).map (ai .m))],.sl 3 r.2.1 r.2.2.1]) ([(3,.arr 10 (r.2.2.2.1.map (aj .u))),(1000000000,.var (.agg [.lst .o 1 (((r.2.2.2.2).code).map AV.u8),.i ((r.2.2.2.2).atF),.sc (.int .u64 ((r.2.2.2.2).seed))]))]):=by
 refine aY (lr:=[3,1000000000]) bb UF rfl rfl ?_;unfold Kz at h;simp only[ZC,Iw,kz];obtain⟨b,k,h⟩:=ae h;refine ZF trivial ?_;refine ZWG trivial (w_fv _ k) [500000128,500000129,1000000000] [501300128,501300129] ?_;obtain⟨g,l,h⟩:=aK h;have p:sub (b.2.2.1.map AV.z) b.1 b.2.1=g.map AV.z:=by rw[bD,l]
 obtain⟨j,c,h⟩:=aK h;have q:Row.arr 2 [(.agg [.i 3000,.i 10]:AV),(.agg [.i 900,.i 20]:AV)]=Row.arr 2 (j.map (aE .u)):=by rw[<-c];rfl
 have d:j.length=2:=by rw[<-c];rfl
 obtain⟨v,s,h⟩:=ae h;have f:=ZA p (ZA q d);refine ZF f ?_;refine ZWG f (w_b _ _ s) [1000000000] [] ?_;obtain⟨w,t,h⟩:=ae h;try refine ZF f ?_
 refine ax (aX (aB (w_bd b g) t ?_)) ?_
 ·exact ZK (ZA @LX.eq_1 (ZA @zA.eq_1 (ZA c.symm d)))
 ·simp only[ZC,zA,tv];cases h;exact ZL f (ZA @kz.eq_1 d)
def GF(b:af)(c:Int×aw)(a:Int×List Int×List Int×aw)(v:Int×List Int):St:=⟨[(0,.pt 1000000000 0 0),(3,.pt 3 0 0),(4,.pt 4 0 0),(6,.pt 6 0 0),(7,.sl 7 0 a.2.1.length),(8,.i a.1),(9,.sl 9 0 v.2.length),(10,.i v.1)],[(3,.var (.agg [.lst .m 1 (((b).Nodes).map AV.z),.lst .m 4 (((b).Fibers).map (ai .m))])),(4,.var (.agg [.i 0,.lst .u 1 []])),(6,.var (.agg [.i c.1,.sl 500000385 0 a.2.2.1.length])),(7,.arr 1 (a.2.1.map AV.i)),(9,.arr 1 (v.2.map AV.i)),(500000385,.arr 1 (a.2.2.1.map AV.i)),(1000000000,.var (.agg [.lst .o 1 (((a.2.2.2).code).map AV.u8),.i ((a.2.2.2).atF),.sc (.int .u64 ((a.2.2.2).seed))]))]⟩
def Ah(b:af)(c:Int×aw)(a:Int×List Int×List Int×aw)(v:List Int):St:=⟨[(0,.pt 1000000000 0 0),(3,.pt 3 0 0),(4,.pt 4 0 0),(6,.pt 6 0 0),(7,.sl 7 0 a.2.1.length),(8,.i a.1),(9,.sl 9 0 v.length)],[(3,.var (.agg [.lst .m 1 (((b).Nodes).map AV.z),.lst .m 4 (((b).Fibers).map (ai .m))])),(4,.var (.agg [.i 0,.lst .u 1 []])),(6,.var (.agg [.i c.1,.sl 500000385 0 a.2.2.1.length])),(7,.arr 1 (a.2.1.map AV.i)),(9,.arr 1 (v.map AV.i)),(500000385,.arr 1 (a.2.2.1.map AV.i)),(1000000000,.var (.agg [.lst .o 1 (((a.2.2.2).code).map AV.u8),.i ((a.2.2.2).atF),.sc (.int .u64 ((a.2.2.2).seed))]))]⟩
theorem w_ak(d:af)(g:Int×aw)(a:Int×List Int×List Int×aw)(c:Int×List Int)(o:(Int×List Int)⊕(List Int))(h:AK d a c=some o):AWP (OkS Tryz.prog) nF (qL [0,3,4,6,7,8,9,10] [3,4,6,7,9,500000385,1000000000] (GF d g a) (qX 2 [0,3,4,6,7,8,9] [3,4,6,7,9,500000385,1000000000] (Ah d g a)) o) (GF d g a c):=by
 have e:=ZA @GF.eq_1 @Ah.eq_1;unfold AK at h;simp only[ZC,GF,nF];obtain⟨k,h⟩|⟨k,h⟩:=aq h
 ·obtain⟨p1,b1,h⟩:=ae h;obtain⟨q1,c1,h⟩:=ae h;obtain⟨s1,d1,h⟩:=ae h;have f:=ZA k (ZA (aI b1) c1);refine ZF f ?_;refine ZSG f (Hd _ _ _ d1) ?_;obtain⟨g1,i1,h⟩:=ae h;try refine ZF f ?_
  refine ax (sh:=(fun v=>⟨[(0,.pt 1000000000 0 0),(3,.pt 3 0 0),(4,.pt 4 0 0),(6,.pt 6 0 0),(7,.sl 7 0 a.2.1.length),(8,.i a.1),(9,.sl 9 0 c.2.length),(10,.i c.1),(53,.b v)],[(3,.var (.agg [.lst .m 1 (((d).Nodes).map AV.z),.lst .m 4 (((d).Fibers).map (ai .m))])),(4,.var (.agg [.i 0,.lst .u 1 []])),(6,.var (.agg [.i g.1,.sl 500000385 0 a.2.2.1.length])),(7,.arr 1 (a.2.1.map AV.i)),(9,.arr 1 (c.2.map AV.i)),(500000385,.arr 1 (a.2.2.1.map AV.i)),(1000000000,.var (.agg [.lst .o 1 (((a.2.2.2).code).map AV.u8),.i ((a.2.2.2).atF),.sc (.int .u64 ((a.2.2.2).seed))]))]⟩)) (s:=g1) ?_ ?_
  ·replace h:=i1;obtain⟨l,h⟩|⟨l,h⟩:=aq h
   ·obtain⟨t1,j1,h⟩:=ae h;have f:=ZA f l;refine ZF f ?_;refine ZSG f (Br _ _ j1) ?_;cases h;exact ZL f trivial
   ·cases h;exact ZL (ZA f l) trivial
  ·simp only[ZC,vk];obtain⟨p,h⟩|⟨p,h⟩:=aq h
   ·obtain⟨q,j,h⟩:=aK h;have k1:Row.arr 1 [(.i c.1:AV)]=Row.arr 1 (q.map AV.i):=by rw[<-j];rfl
    have w:q.length=1:=by rw[<-j];rfl
    obtain⟨u1,l1,h⟩:=ae h;have x:=aI l1;obtain⟨y,t,h⟩:=aK h;have m1:c.2.map AV.i++q.map AV.i=y.map AV.i:=by rw[<-t,List.map_append]
    have a1:c.2.length+1=y.length:=by simp[<-j,<-t]<;>omega
    rw[a1] at x;cases h;exact ZL (ZA f (ZA p (ZA k1 (ZA w (ZA x (ZA m1 a1)))))) (ZA e (ZA j.symm (ZA t.symm w)))
   ·cases h;exact ZL (ZA f p) e
 ·cases h;exact ZL k e
def Lo(a:af)(b:Int×aw)(v:Int×List Int×List Int×aw):St:=⟨[(0,.pt 1000000000 0 0),(3,.pt 3 0 0),(4,.pt 4 0 0),(6,.pt 6 0 0),(7,.sl 7 0 v.2.1.length),(8,.i v.1)],[(3,.var (.agg [.lst .m 1 (((a).Nodes).map AV.z),.lst .m 4 (((a).Fibers).map (ai .m))])),(4,.var (.agg [.i 0,.lst .u 1 []])),(6,.var (.agg [.i b.1,.sl 500000385 0 v.2.2.1.length])),(7,.arr 1 (v.2.1.map AV.i)),(500000385,.arr 1 (v.2.2.1.map AV.i)),(1000000000,.var (.agg [.lst .o 1 (((v.2.2.2).code).map AV.u8),.i ((v.2.2.2).atF),.sc (.int .u64 ((v.2.2.2).seed))]))]⟩
def yF(a:Int×aw)(v:List Int×aw):St:=⟨[(4,.pt 4 0 0),(6,.pt 6 0 0)],[(4,.var (.agg [.i 0,.lst .u 1 []])),(6,.var (.agg [.i a.1,.sl 500000385 0 v.1.length])),(500000385,.arr 1 (v.1.map AV.i)),(1000000000,.var (.agg [.lst .o 1 (((v.2).code).map AV.u8),.i ((v.2).atF),.sc (.int .u64 ((v.2).seed))]))]⟩
theorem w_be(d:af)(g:Int×aw)(a:Int×List Int×List Int×aw)(o:(Int×List Int×List Int×aw)⊕(List Int×aw))(h:FW d a=some o):AWP (OkS Tryz.prog) pq (qL [0,3,4,6,7,8] [3,4,6,7,500000385,1000000000] (Lo d g) (qX 0 [4,6] [4,6,500000385,1000000000] (yF g)) o) (Lo d g a):=by
 have e:=ZA @Lo.eq_1 @yF.eq_1;unfold FW at h;simp only[ZC,Lo,pq];obtain⟨b,h⟩|⟨b,h⟩:=aq h
 ·obtain⟨v1,a1,h⟩:=ae h;try refine ZF b ?_
  refine ax (aX (aB (w_ak d g a) a1 ?_)) ?_
  ·exact ZK (ZA @GF.eq_1 @Ah.eq_1)
  ·simp only[ZC,Ah,vg];obtain⟨l,h⟩|⟨l,h⟩:=aq h
   ·cases h;exact ZL (ZA b l) e
   ·obtain⟨w1,b1,h⟩:=ae h;have f:=ZA b l;refine ZF f ?_;refine ZWG f (w_b _ _ b1) [1000000000] [] ?_;obtain⟨x1,c1,h⟩:=ae h;obtain⟨d1,g1,h⟩:=ae h;obtain⟨m,c,h⟩:=aK h;have i1:Row.arr 1 [(.i d1:AV)]=Row.arr 1 (m.map AV.i):=by rw[<-c];rfl
    have s:m.length=1:=by rw[<-c];rfl
    obtain⟨y1,j1,h⟩:=ae h;have t:=aI j1;obtain⟨u,j,h⟩:=aK h;have k1:a.2.2.1.map AV.i++m.map AV.i=u.map AV.i:=by rw[<-j,List.map_append]
    have v:a.2.2.1.length+1=u.length:=by simp[<-c,<-j]<;>omega
    rw[v] at t;obtain⟨z1,l1,h⟩:=ae h;obtain⟨a2,m1,h⟩:=ae h;obtain⟨p1,q1,h⟩:=ae h;have f:=ZA f (ZA (aI c1) (ZA g1 (ZA i1 (ZA s (ZA t (ZA k1 (ZA v (ZA (aI l1) m1))))))));refine ZF f ?_;refine ZSG f (Hd _ _ _ q1) ?_;obtain⟨p,k,h⟩:=aK h;have s1:Row.arr 1 [(.i p1:AV)]=Row.arr 1 (p.map AV.i):=by rw[<-k];rfl
    have w:p.length=1:=by rw[<-k];rfl
    obtain⟨b2,t1,h⟩:=ae h;have x:=aI t1;obtain⟨y,q,h⟩:=aK h;have u1:a.2.1.map AV.i++p.map AV.i=y.map AV.i:=by rw[<-q,List.map_append]
    have z:a.2.1.length+1=y.length:=by simp[<-c,<-j,<-k,<-q]<;>omega
    rw[z] at x;cases h;exact ZL (ZA f (ZA s1 (ZA w (ZA x (ZA u1 z))))) (ZA e (ZA c.symm (ZA j.symm (ZA k.symm (ZA q.symm (ZA s w))))))
 ·cases h;exact ZL b e
theorem w_gl(a:af)(b:aw){r:Int×List Int×aw}(h:Ib a b=some r):OkM Tryz.prog 208 [.pt 1000000000 0 0,.agg [.lst .m 1 (((a).Nodes).map AV.z),.lst .m 4 (((a).Fibers).map (ai .m))]] [(1000000000,.var (.agg [.lst .o 1 (((b).code).map AV.u8),.i ((b).atF),.sc (.int .u64 ((b).seed))]))] (.agg [.i r.1,.sl 500000257 0 r.2.1.length]) ([(500000257,.arr 1 (r.2.1.map AV.i)),(1000000000,.var (.agg [.lst .o 1 (((r.2.2).code).map AV.u8),.i ((r.2.2).atF),.sc (.int .u64 ((r.2.2).seed))]))]):=by
 refine aY (lr:=[500000257,1000000000]) bb TM rfl rfl ?_;unfold Ib at h;simp only[ZC,Kb,ma];obtain⟨g,k,h⟩:=ae h;refine ZF trivial ?_;refine ZWG trivial (w_b _ _ k) [1000000000] [] ?_;obtain⟨j,c,h⟩:=aK h;have l:Row.arr 1 [(.i g.1:AV)]=Row.arr 1 (j.map AV.i):=by rw[<-c];rfl
 have d:j.length=1:=by rw[<-c];rfl
 obtain⟨s,p,h⟩:=ae h;have f:=ZA l d;refine ZF f ?_;refine ZWG f (w_b _ _ p) [1000000000] [] ?_;obtain⟨t,q,h⟩:=ae h;try refine ZF f ?_
 refine ax (aX (aB (w_be a g) q ?_)) ?_
 ·exact ZK (ZA @Lo.eq_1 (ZA @yF.eq_1 (ZA c.symm d)))
 ·simp only[ZC,yF,tw];cases h;exact ZL f (ZA @ma.eq_1 d)
theorem w_eg(p:af)(d:aw){r:Int×List Int×aw}(h:Cj p d=some r):OkM Tryz.prog 152 [.pt 1000000000 0 0,.agg [.lst .m 1 (((p).Nodes).map AV.z),.lst .m 4 (((p).Fibers).map (ai .m))]] [(1000000000,.var (.agg [.lst .o 1 (((d).code).map AV.u8),.i ((d).atF),.sc (.int .u64 ((d).seed))]))] (.agg [.i r.1,.sl 500000257 0 r.2.1.length]) ([(500000257,.arr 1 (r.2.1.map AV.i)),(1000000000,.var (.agg [.lst .o 1 (((r.2.2).code).map AV.u8),.i ((r.2.2).atF),.sc (.int .u64 ((r.2.2).seed))]))]):=by
 have e:=@ma.eq_1;refine aY (lr:=[500000257,1000000000]) bb Ud rfl rfl ?_;unfold Cj at h;simp only[ZC,ER,ma];obtain⟨g,i1,h⟩:=ae h;refine ZF trivial ?_;refine ZWG trivial (w_gl _ _ i1) [500000257,1000000000] [500900257] ?_;obtain⟨z1,j1,h⟩:=ae h;refine ZF trivial ?_;refine ZWG trivial (w_b _ _ j1) [1000000000] [] ?_;obtain⟨a,h⟩|⟨a,h⟩:=aq h
 ·obtain⟨a2,k1,h⟩:=ae h;refine ZF a ?_;refine ZWG a (w_b _ _ k1) [1000000000] [] ?_;cases h;exact ZL a e
 ·obtain⟨b,h⟩|⟨b,h⟩:=aq h
  ·obtain⟨l1,m1,h⟩:=ae h;have f:=ZA a b;refine ZF f ?_;refine ZWG f (w_b _ _ m1) [1000000000] [] ?_;obtain⟨q,j,h⟩:=aK h;have p1:Row.arr 1 [(.i (IntKind.wrap .i64 (l1.1-1)):AV)]=Row.arr 1 (q.map AV.i):=by rw[<-j];rfl
   have w:q.length=1:=by rw[<-j];rfl
   obtain⟨b2,q1,h⟩:=ae h;have x:=aI q1;obtain⟨y,s,h⟩:=aK h;have s1:g.2.1.map AV.i++q.map AV.i=y.map AV.i:=by rw[<-s,List.map_append]
   have a1:g.2.1.length+1=y.length:=by simp[<-j,<-s]<;>omega
   rw[a1] at x;cases h;exact ZL (ZA f (ZA p1 (ZA w (ZA x (ZA s1 a1))))) (ZA e (ZA j.symm (ZA s.symm w)))
  ·obtain⟨c,h⟩|⟨c,h⟩:=aq h
   ·cases h;exact ZL (ZA a (ZA b c)) e
   ·obtain⟨k,h⟩|⟨k,h⟩:=aq h
    ·obtain⟨t,h⟩|⟨t,h⟩:=aq h
     ·obtain⟨c2,t1,h⟩:=ae h;obtain⟨u1,v1,h⟩:=ae h;obtain⟨u,l,h⟩:=aK h;have w1:Row.arr 1 [(.i u1:AV)]=Row.arr 1 (u.map AV.i):=by rw[<-l];rfl
      have b1:u.length=1:=by rw[<-l];rfl
      obtain⟨d2,x1,h⟩:=ae h;have c1:=aI x1;obtain⟨d1,v,h⟩:=aK h;have y1:g.2.1.map AV.i++u.map AV.i=d1.map AV.i:=by rw[<-v,List.map_append]
      have g1:g.2.1.length+1=d1.length:=by simp[<-l,<-v]<;>omega
      rw[g1] at c1;cases h;exact ZL (ZA a (ZA b (ZA c (ZA k (ZA t (ZA (aI t1) (ZA v1 (ZA w1 (ZA b1 (ZA c1 (ZA y1 g1))))))))))) (ZA e (ZA l.symm (ZA v.symm b1)))
     ·cases h;exact ZL (ZA a (ZA b (ZA c (ZA k t)))) e
    ·cases h;exact ZL (ZA a (ZA b (ZA c k))) e
theorem w_eh(b:aw){r:aM×aw}(h:Dz b=some r):OkM Tryz.prog 153 [.pt 1000000000 0 0] [(1000000000,.var (.agg [.lst .o 1 (((b).code).map AV.u8),.i ((b).atF),.sc (.int .u64 ((b).seed))]))] (.agg [.i ((r.1).First),.i ((r.1).Count)]) ([(1000000000,.var (.agg [.lst .o 1 (((r.2).code).map AV.u8),.i ((r.2).atF),.sc (.int .u64 ((r.2).seed))]))]):=by
 refine aY (lr:=[1000000000]) bb TN rfl rfl ?_;unfold Dz at h;simp only[ZC,Gj,dh];obtain⟨l,c,h⟩:=ae h;refine ZF trivial ?_;refine ZWG trivial (Qs _ _ c) [1000000000] [] ?_;obtain⟨a,h⟩|⟨a,h⟩:=aq h
 ·obtain⟨m,d,h⟩:=ae h;refine ZF a ?_;refine ZWG a (w_b _ _ d) [1000000000] [] ?_;obtain⟨p,g,h⟩:=ae h;refine ZF a ?_;refine ZWG a (w_b _ _ g) [1000000000] [] ?_;cases h;exact ZL a @dh.eq_1
 ·obtain⟨q,j,h⟩:=ae h;refine ZF a ?_;refine ZWG a (w_b _ _ j) [1000000000] [] ?_;obtain⟨s,k,h⟩:=ae h;refine ZF a ?_;refine ZWG a (w_b _ _ k) [1000000000] [] ?_;cases h;exact ZL a @dh.eq_1
theorem w_gm(a:aw)(b:List ByteArray){r:ByteArray×aw×List ByteArray}(h:Lr a b=some r):OkM Tryz.prog 210 [.pt 1000000000 0 0,.sl 1000000001 0 b.length] [(1000000000,.var (.agg [.lst .o 1 (((a).code).map AV.u8),.i ((a).atF),.sc (.int .u64 ((a).seed))])),(1000000001,.arr 1 (b.map AV.z))] (.z r.1) ([(1000000000,.var (.agg [.lst .o 1 (((r.2.1).code).map AV.u8),.i ((r.2.1).atF),.sc (.int .u64 ((r.2.1).seed))])),(1000000001,.arr 1 (r.2.2.map AV.z))]):=by
 refine aY (lr:=[1000000000,1000000001]) bb Tz rfl rfl ?_;unfold Lr at h;simp only[ZC,Kd,ay];obtain⟨j,c,h⟩:=ae h;refine ZF trivial ?_;refine ZWG trivial (w_b _ _ c) [1000000000] [] ?_;obtain⟨k,d,h⟩:=ae h;obtain⟨l,g,h⟩:=ae h;cases h;exact ZL (ZA (aI d) g) @ay.eq_1
def Gb(a:Nat×Nat×List ByteArray×List az×aw)(v:List az×aw):St:=⟨[(0,.pt 1000000000 0 0),(2,.pt 2 0 0),(3,.pt 3 0 0)],[(2,.var (.agg [.lst .u 1 [],.lst .u 4 []])),(3,.var (.agg [.sl 500000192 a.1 a.2.1,.sl 500000193 0 v.1.length])),(500000192,.arr 1 (a.2.2.1.map AV.z)),(500000193,.arr 4 (v.1.map (ai .u))),(1000000000,.var (.agg [.lst .o 1 (((v.2).code).map AV.u8),.i ((v.2).atF),.sc (.int .u64 ((v.2).seed))]))]⟩
def yx(a:Nat×Nat×List ByteArray×List az×aw)(v:List az×aw):St:=⟨[(2,.pt 2 0 0),(3,.pt 3 0 0)],[(2,.var (.agg [.lst .u 1 [],.lst .u 4 []])),(3,.var (.agg [.sl 500000192 a.1 a.2.1,.sl 500000193 0 v.1.length])),(500000192,.arr 1 (a.2.2.1.map AV.z)),(500000193,.arr 4 (v.1.map (ai .u))),(1000000000,.var (.agg [.lst .o 1 (((v.2).code).map AV.u8),.i ((v.2).atF),.sc (.int .u64 ((v.2).seed))]))]⟩
theorem w_al(d:Nat×Nat×List ByteArray×List az×aw)(a:List az×aw)(o:(List az×aw)⊕(List az×aw))(h:CR a=some o):AWP (OkS Tryz.prog) po (qL [0,2,3] [2,3,500000192,500000193,1000000000] (Gb d) (qX 1 [2,3] [2,3,500000192,500000193,1000000000] (yx d)) o) (Gb d a):=by
 have e:=ZA @Gb.eq_1 @yx.eq_1;unfold CR at h;simp only[ZC,Gb,po];obtain⟨z,s,h⟩:=ae h;refine ZF trivial ?_;refine ZWG trivial (w_b _ _ s) [1000000000] [] ?_;obtain⟨g,h⟩|⟨g,h⟩:=aq h
 ·obtain⟨a1,t,h⟩:=ae h;obtain⟨b,v,h⟩:=ae h;obtain⟨j,c,h⟩:=aK h;have w:Row.arr 4 [(.agg [.i b.A,.i b.B,.i b.Length,.i b.Risk]:AV)]=Row.arr 4 (j.map (ai .u)):=by rw[<-c];rfl
  have l:j.length=1:=by rw[<-c];rfl
  obtain⟨b1,x,h⟩:=ae h;have m:=aI x;obtain⟨p,k,h⟩:=aK h;have y:a.1.map (ai .u)++j.map (ai .u)=p.map (ai .u):=by rw[<-k,List.map_append]
  have q:a.1.length+1=p.length:=by simp[<-c,<-k]<;>omega
  rw[q] at m;cases h;exact ZL (ZA g (ZA (aI t) (ZA v (ZA w (ZA l (ZA m (ZA y q))))))) (ZA e (ZA c.symm (ZA k.symm l)))
 ·cases h;exact ZL g e
theorem w_gn(p:aw){r:Nat×Nat×List ByteArray×List az×aw}(h:KZ p=some r):OkM Tryz.prog 154 [.pt 1000000000 0 0] [(1000000000,.var (.agg [.lst .o 1 (((p).code).map AV.u8),.i ((p).atF),.sc (.int .u64 ((p).seed))]))] (.agg [.sl 500000128 r.1 r.2.1,.sl 500000129 0 r.2.2.2.1.length]) ([(500000128,.arr 1 (r.2.2.1.map AV.z)),(500000129,.arr 4 (r.2.2.2.1.map (ai .u))),(1000000000,.var (.agg [.lst .o 1 (((r.2.2.2.2).code).map AV.u8),.i ((r.2.2.2.2).atF),.sc (.int .u64 ((r.2.2.2.2).seed))]))]):=by
 refine aY (lr:=[500000128,500000129,1000000000]) bb UM rfl rfl ?_;unfold KZ at h;simp only[ZC,Ka,dh];obtain⟨c,b2,h⟩:=ae h;refine ZF trivial ?_;refine ZWG trivial (w_dy _ b2) [500000128,500000129,1000000000] [500800128,500800129] ?_;obtain⟨k,h⟩|⟨k,h⟩:=aq h
 ·cases h;exact ZL k @dh.eq_1
 ·obtain⟨j1,c2,h⟩:=ae h;refine ZF k ?_;refine ZWG k (w_b _ _ c2) [1000000000] [] ?_;obtain⟨z3,d2,h⟩:=ae h;obtain⟨a4,g2,h⟩:=ae h;obtain⟨i2,j2,h⟩:=ae h;have f:=ZA k (ZA (aI d2) g2);try refine ZF f ?_
  refine bj (sh:=(fun v=>⟨[(2,.pt 2 0 0),(3,.pt 3 0 0),(4,.i j1.1),(5,.pt 5 0 0)],[(2,.var (.agg [.lst .u 1 [],.lst .u 4 []])),(3,.var (.agg [.sl 500000192 v.1 v.2.1,.sl 500000193 0 v.2.2.2.2.1.length])),(5,.var (.agg [.i ((v.2.2.1).A),.i ((v.2.2.1).B),.i ((v.2.2.1).Length),.i ((v.2.2.1).Risk)])),(500000192,.arr 1 (v.2.2.2.1.map AV.z)),(500000193,.arr 4 (v.2.2.2.2.1.map (ai .u))),(1000000000,.var (.agg [.lst .o 1 (((v.2.2.2.2.2).code).map AV.u8),.i ((v.2.2.2.2.2).atF),.sc (.int .u64 ((v.2.2.2.2.2).seed))]))]⟩)) (q:=(qM dh [500000128,500000129,1000000000] (fun(r:Nat×Nat×List ByteArray×List az×aw)=>.agg [.sl 500000128 r.1 r.2.1,.sl 500000129 0 r.2.2.2.1.length]) (fun(r:Nat×Nat×List ByteArray×List az×aw)=>[(500000128,.arr 1 (r.2.2.1.map AV.z)),(500000129,.arr 4 (r.2.2.2.1.map (ai .u))),(1000000000,.var (.agg [.lst .o 1 (((r.2.2.2.2).code).map AV.u8),.i ((r.2.2.2.2).atF),.sc (.int .u64 ((r.2.2.2.2).seed))]))]))) (o:=i2) ?_ (fun l hv=>?_) (fun b4 hv e τ hne hq=>?_)
  ·replace h:=j2;obtain⟨c4,k2,h⟩:=ae h;refine ZF f ?_;refine ZWG f (w_b _ _ k2) [1000000000] [] ?_;obtain⟨a,h⟩|⟨a,h⟩:=aq h
   ·obtain⟨k1,x,h⟩:=aK h;have l2:Row.arr 1 [(.z (⟨#[98]⟩:ByteArray):AV),(.z (⟨#[]⟩:ByteArray):AV),(.z (⟨#[65]⟩:ByteArray):AV),(.z (⟨#[97,98,99,100,101,102,103,104]⟩:ByteArray):AV),(.z (⟨#[97,98,99,100,101,102,103,104,105]⟩:ByteArray):AV),(.z (⟨#[120,49]⟩:ByteArray):AV)]=Row.arr 1 (k1.map AV.z):=by rw[<-x];rfl
    have l1:k1.length=6:=by rw[<-x];rfl
    obtain⟨m2,p2,h⟩:=ae h;have f:=ZA f (ZA a (ZA l2 l1));refine ZF f ?_;refine ZWG f (w_gm _ _ p2) [1000000000,1000000001] [] ?_;obtain⟨d4,q2,h⟩:=ae h;obtain⟨g4,s2,h⟩:=ae h;obtain⟨t2,m1,h⟩:=aK h;have u2:(c.2.2.1.map AV.z).set (c.1+(Int.toNat 0)) (.z m2.1)=t2.map AV.z:=by rw[<-m1,List.map_set]
    cases h;exact ZL (ZA f (ZA (aI q2) (ZA s2 u2))) (ZA x.symm (ZA m1.symm l1))
   ·obtain⟨b,h⟩|⟨b,h⟩:=aq h
    ·obtain⟨i4,v2,h⟩:=ae h;have f:=ZA f (ZA a b);refine ZF f ?_;refine ZWG f (w_b _ _ v2) [1000000000] [] ?_;cases h;exact ZL f trivial
    ·obtain⟨d,h⟩|⟨d,h⟩:=aq h
     ·obtain⟨j4,w2,h⟩:=ae h;have f:=ZA f (ZA a (ZA b d));refine ZF f ?_;refine ZWG f (w_b _ _ w2) [1000000000] [] ?_;cases h;exact ZL f trivial
     ·obtain⟨g,h⟩|⟨g,h⟩:=aq h
      ·obtain⟨p1,y,h⟩:=aK h;have x2:Row.arr 1 [(.i 0:AV),(.i 1:AV),(.i 5000:AV),(.i 5001:AV)]=Row.arr 1 (p1.map AV.i):=by rw[<-y];rfl
       have q1:p1.length=4:=by rw[<-y];rfl
       obtain⟨k4,y2,h⟩:=ae h;have f:=ZA f (ZA a (ZA b (ZA d (ZA g (ZA x2 q1)))));refine ZF f ?_;refine ZWG f (w_k _ _ y2) [1000000000,1000000001] [] ?_;cases h;exact ZL f (ZA y.symm q1)
      ·obtain⟨j,h⟩|⟨j,h⟩:=aq h
       ·obtain⟨s1,a1,h⟩:=aK h;have z2:Row.arr 1 [(.i (-1):AV),(.i 9:AV),(.i 10:AV)]=Row.arr 1 (s1.map AV.i):=by rw[<-a1];rfl
        have t1:s1.length=3:=by rw[<-a1];rfl
        obtain⟨l4,a3,h⟩:=ae h;have f:=ZA f (ZA a (ZA b (ZA d (ZA g (ZA j (ZA z2 t1))))));refine ZF f ?_;refine ZWG f (w_k _ _ a3) [1000000000,1000000001] [] ?_;cases h;exact ZL f (ZA a1.symm t1)
       ·obtain⟨m,h⟩|⟨m,h⟩:=aq h
        ·obtain⟨m4,b3,h⟩:=ae h;obtain⟨s,c3,h⟩:=ae h;obtain⟨b1,t,h⟩:=aK h;have d3:Row.arr 4 [(.agg [.i s.A,.i s.B,.i s.Length,.i s.Risk]:AV)]=Row.arr 4 (b1.map (ai .u)):=by rw[<-t];rfl
         have u1:b1.length=1:=by rw[<-t];rfl
         obtain⟨p4,g3,h⟩:=ae h;have v1:=aI g3;obtain⟨w1,c1,h⟩:=aK h;have i3:c.2.2.2.1.map (ai .u)++b1.map (ai .u)=w1.map (ai .u):=by rw[<-c1,List.map_append]
         have x1:c.2.2.2.1.length+1=w1.length:=by simp[<-t,<-c1]<;>omega
         rw[x1] at v1;cases h;exact ZL (ZA f (ZA a (ZA b (ZA d (ZA g (ZA j (ZA m (ZA (aI b3) (ZA c3 (ZA d3 (ZA u1 (ZA v1 (ZA i3 x1))))))))))))) (ZA t.symm (ZA c1.symm u1))
        ·obtain⟨w,h⟩|⟨w,h⟩:=aq h
         ·obtain⟨q4,j3,h⟩:=ae h;have f:=ZA f (ZA a (ZA b (ZA d (ZA g (ZA j (ZA m w))))));try refine ZF f ?_
          refine ax (aX (aB (w_al c) j3 ?_)) ?_
          ·exact ZK (ZA @Gb.eq_1 @yx.eq_1)
          ·simp only[ZC,yx,tm];cases h;exact ZL f @dh.eq_1
         ·obtain⟨d1,h⟩|⟨d1,h⟩:=aq h
          ·obtain⟨g1,i1,h⟩:=aK h;have k3:Row.arr 1 [(.z (⟨#[112]⟩:ByteArray):AV),(.z (⟨#[113]⟩:ByteArray):AV),(.z (⟨#[114]⟩:ByteArray):AV),(.z (⟨#[115]⟩:ByteArray):AV)]=Row.arr 1 (g1.map AV.z):=by rw[<-i1];rfl
           have y1:g1.length=4:=by rw[<-i1];rfl
           obtain⟨z1,l3,h⟩:=aK h;have m3:sub (c.2.2.1.map AV.z) c.1 c.2.1=z1.map AV.z:=by rw[bD,l3]
           obtain⟨s4,p3,h⟩:=ae h;obtain⟨q3,s3,h⟩:=aK h;have t3:z1.map AV.z++g1.map AV.z=q3.map AV.z:=by rw[<-s3,List.map_append]
           cases h;exact ZL (ZA f (ZA a (ZA b (ZA d (ZA g (ZA j (ZA m (ZA w (ZA d1 (ZA k3 (ZA y1 (ZA m3 (ZA (aI p3) t3))))))))))))) (ZA i1.symm y1)
          ·cases h;exact ZL (ZA f (ZA a (ZA b (ZA d (ZA g (ZA j (ZA m (ZA w d1)))))))) trivial
  ·subst hv;simp only[] at h;simp only[ZC,sY];obtain⟨t4,u3,h⟩:=ae h;obtain⟨u4,v3,h⟩:=ae h;obtain⟨w3,a2,h⟩:=aK h;have x3:(l.2.2.2.2.1.map (ai .u)).set (Int.toNat j1.1) (.agg [.i ((l.2.2.1).A),.i ((l.2.2.1).B),.i ((l.2.2.1).Length),.i ((l.2.2.1).Risk)])=w3.map (ai .u):=by rw[<-a2,List.map_set];rfl
   cases h;exact ZL (ZA f (ZA (aI u3) (ZA v3 x3))) (ZA @dh.eq_1 a2.symm)
  ·subst hv;simp only[] at h;obtain⟨rfl,y3⟩:=hq;cases h;exact y3
end Vs

