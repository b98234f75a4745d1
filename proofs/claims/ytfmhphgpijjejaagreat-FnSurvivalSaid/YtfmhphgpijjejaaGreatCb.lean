/-
  Part of the proof that the law FnSurvival returns true at every input; no condition beside the row's own.
-/
import Derived.Test.YtfmhphgpijjejaaGreatCa
set_option linter.defProp false
set_option linter.unusedSimpArgs false
set_option linter.unusedVariables false
set_option maxHeartbeats 1000000
set_option maxRecDepth 8000
namespace Vs
open Go Go.Proofs
attribute [local irreducible] AWP dS eff sD fB callM
theorem VT1:(∀(f:Fl)(x:ay),ai f x=.agg [.i x.A,.i x.B,.i x.Length,.i x.Risk])/\
 (∀(f:Fl)(x:ah),aV f x=.agg [.lst f 1 (x.Nodes.map AV.z),.lst f 4 (x.Fibers.map (ai f))])/\
 (∀(f:Fl)(x:ar),aB f x=.agg [.i x.Start,.lst f 1 (x.Fibers.map AV.i)])/\
 (∀(f:Fl)(x:aH),ba f x=.agg [.i x.First,.i x.Count])/\
 (∀(f:Fl)(x:af),aj f x=.agg [.i x.Id,.i x.Class,.i x.Work.Start,.lst f 1 (x.Work.Fibers.map AV.i),.i x.WorkBlock.First,.i x.WorkBlock.Count,.i x.Spare.Start,.lst f 1 (x.Spare.Fibers.map AV.i),.i x.SpareBlock.First,.i x.SpareBlock.Count])/\
 (∀(f:Fl)(x:ax),bf f x=.agg [.lst f 1 (x.code.map AV.u8),.i x.atF,.sc (.int .u64 x.seed)])/\
 (∀(f:Fl)(x:aR),aF f x=.agg [.i x.Reach,.i x.Rate])/\
 (∀(f:Fl)(x:be),aW f x=.agg [.i x.From,.i x.To,.i x.Rate,.i x.Class])/\
 (∀(f:Fl)(x:bG),aP f x=.agg [.lst f 1 (x.n.Nodes.map AV.z),.lst f 4 (x.n.Fibers.map (ai f)),.i x.toF,.lst f 2 (x.list.map (aB f))])/\
 (∀(f:Fl)(x:List Int),bI f x=.lst f 1 (x.map AV.i))/\
 (∀(f:Fl)(x:ce),bg f x=.agg [.i x.Id,.i x.Route.Start,.lst f 1 (x.Route.Fibers.map AV.i),.i x.Block.First,.i x.Block.Count]):=⟨fun _ _=>rfl,fun _ _=>rfl,fun _ _=>rfl,fun _ _=>rfl,fun _ _=>rfl,fun _ _=>rfl,fun _ _=>rfl,fun _ _=>rfl,fun _ _=>rfl,fun _ _=>rfl,fun _ _=>rfl⟩
theorem VT2:(∀(f:Fl)(x:ay),(ai f x).nrm=ai .o x)/\
 (∀(f:Fl)(xs:List ay),(xs.map (ai f)).map AV.nrm=xs.map (ai .o))/\
 (∀(f:Fl)(x:ay),(ai f x).als=ai f.als x)/\
 (∀(f:Fl)(xs:List ay),(xs.map (ai f)).map AV.als=xs.map (ai f.als))/\
 (∀(f:Fl),AV.als∘ai f=ai f.als)/\
 (∀(f:Fl)(x:ay),(ai f x).fix=ai f.fix x)/\
 (∀(f:Fl)(xs:List ay),(xs.map (ai f)).map AV.fix=xs.map (ai f.fix))/\
 (∀(f:Fl)(x:ah),(aV f x).nrm=aV .o x)/\
 (∀(f:Fl)(xs:List ah),(xs.map (aV f)).map AV.nrm=xs.map (aV .o))/\
 (∀(f:Fl)(x:ah),(aV f x).als=aV f.als x)/\
 (∀(f:Fl)(xs:List ah),(xs.map (aV f)).map AV.als=xs.map (aV f.als))/\
 (∀(f:Fl),AV.als∘aV f=aV f.als)/\
 (∀(f:Fl)(x:ah),(aV f x).fix=aV f.fix x)/\
 (∀(f:Fl)(xs:List ah),(xs.map (aV f)).map AV.fix=xs.map (aV f.fix))/\
 (∀(f:Fl)(x:ar),(aB f x).nrm=aB .o x)/\
 (∀(f:Fl)(xs:List ar),(xs.map (aB f)).map AV.nrm=xs.map (aB .o))/\
 (∀(f:Fl)(x:ar),(aB f x).als=aB f.als x)/\
 (∀(f:Fl)(xs:List ar),(xs.map (aB f)).map AV.als=xs.map (aB f.als))/\
 (∀(f:Fl),AV.als∘aB f=aB f.als)/\
 (∀(f:Fl)(x:ar),(aB f x).fix=aB f.fix x)/\
 (∀(f:Fl)(xs:List ar),(xs.map (aB f)).map AV.fix=xs.map (aB f.fix))/\
 (∀(f:Fl)(x:aH),(ba f x).nrm=ba .o x)/\
 (∀(f:Fl)(xs:List aH),(xs.map (ba f)).map AV.nrm=xs.map (ba .o))/\
 (∀(f:Fl)(x:aH),(ba f x).als=ba f.als x)/\
 (∀(f:Fl)(xs:List aH),(xs.map (ba f)).map AV.als=xs.map (ba f.als))/\
 (∀(f:Fl),AV.als∘ba f=ba f.als)/\
 (∀(f:Fl)(x:aH),(ba f x).fix=ba f.fix x)/\
 (∀(f:Fl)(xs:List aH),(xs.map (ba f)).map AV.fix=xs.map (ba f.fix))/\
 (∀(f:Fl)(x:af),(aj f x).nrm=aj .o x)/\
 (∀(f:Fl)(xs:List af),(xs.map (aj f)).map AV.nrm=xs.map (aj .o))/\
 (∀(f:Fl)(x:af),(aj f x).als=aj f.als x)/\
 (∀(f:Fl)(xs:List af),(xs.map (aj f)).map AV.als=xs.map (aj f.als))/\
 (∀(f:Fl),AV.als∘aj f=aj f.als)/\
 (∀(f:Fl)(x:af),(aj f x).fix=aj f.fix x)/\
 (∀(f:Fl)(xs:List af),(xs.map (aj f)).map AV.fix=xs.map (aj f.fix))/\
 (∀(f:Fl)(x:ax),(bf f x).nrm=bf .o x)/\
 (∀(f:Fl)(xs:List ax),(xs.map (bf f)).map AV.nrm=xs.map (bf .o))/\
 (∀(f:Fl)(x:ax),(bf f x).als=bf f.als x)/\
 (∀(f:Fl)(xs:List ax),(xs.map (bf f)).map AV.als=xs.map (bf f.als))/\
 (∀(f:Fl),AV.als∘bf f=bf f.als)/\
 (∀(f:Fl)(x:ax),(bf f x).fix=bf f.fix x)/\
 (∀(f:Fl)(xs:List ax),(xs.map (bf f)).map AV.fix=xs.map (bf f.fix))/\
 (∀(f:Fl)(x:aR),(aF f x).nrm=aF .o x)/\
 (∀(f:Fl)(xs:List aR),(xs.map (aF f)).map AV.nrm=xs.map (aF .o))/\
 (∀(f:Fl)(x:aR),(aF f x).als=aF f.als x)/\
 (∀(f:Fl)(xs:List aR),(xs.map (aF f)).map AV.als=xs.map (aF f.als))/\
 (∀(f:Fl),AV.als∘aF f=aF f.als)/\
 (∀(f:Fl)(x:aR),(aF f x).fix=aF f.fix x)/\
 (∀(f:Fl)(xs:List aR),(xs.map (aF f)).map AV.fix=xs.map (aF f.fix))/\
 (∀(f:Fl)(x:be),(aW f x).nrm=aW .o x)/\
 (∀(f:Fl)(xs:List be),(xs.map (aW f)).map AV.nrm=xs.map (aW .o))/\
 (∀(f:Fl)(x:be),(aW f x).als=aW f.als x)/\
 (∀(f:Fl)(xs:List be),(xs.map (aW f)).map AV.als=xs.map (aW f.als))/\
 (∀(f:Fl),AV.als∘aW f=aW f.als)/\
 (∀(f:Fl)(x:be),(aW f x).fix=aW f.fix x)/\
 (∀(f:Fl)(xs:List be),(xs.map (aW f)).map AV.fix=xs.map (aW f.fix))/\
 (∀(f:Fl)(x:bG),(aP f x).nrm=aP .o x)/\
 (∀(f:Fl)(xs:List bG),(xs.map (aP f)).map AV.nrm=xs.map (aP .o))/\
 (∀(f:Fl)(x:bG),(aP f x).als=aP f.als x)/\
 (∀(f:Fl)(xs:List bG),(xs.map (aP f)).map AV.als=xs.map (aP f.als))/\
 (∀(f:Fl),AV.als∘aP f=aP f.als)/\
 (∀(f:Fl)(x:bG),(aP f x).fix=aP f.fix x)/\
 (∀(f:Fl)(xs:List bG),(xs.map (aP f)).map AV.fix=xs.map (aP f.fix))/\
 (∀(f:Fl)(x:List Int),(bI f x).nrm=bI .o x)/\
 (∀(f:Fl)(xs:List (List Int)),(xs.map (bI f)).map AV.nrm=xs.map (bI .o))/\
 (∀(f:Fl)(x:List Int),(bI f x).als=bI f.als x)/\
 (∀(f:Fl)(xs:List (List Int)),(xs.map (bI f)).map AV.als=xs.map (bI f.als))/\
 (∀(f:Fl),AV.als∘bI f=bI f.als)/\
 (∀(f:Fl)(x:List Int),(bI f x).fix=bI f.fix x)/\
 (∀(f:Fl)(xs:List (List Int)),(xs.map (bI f)).map AV.fix=xs.map (bI f.fix))/\
 (∀(f:Fl)(x:ce),(bg f x).nrm=bg .o x)/\
 (∀(f:Fl)(xs:List ce),(xs.map (bg f)).map AV.nrm=xs.map (bg .o))/\
 (∀(f:Fl)(x:ce),(bg f x).als=bg f.als x)/\
 (∀(f:Fl)(xs:List ce),(xs.map (bg f)).map AV.als=xs.map (bg f.als))/\
 (∀(f:Fl),AV.als∘bg f=bg f.als)/\
 (∀(f:Fl)(x:ce),(bg f x).fix=bg f.fix x)/\
 (∀(f:Fl)(xs:List ce),(xs.map (bg f)).map AV.fix=xs.map (bg f.fix)):=
 ⟨@fE,@qe,@eQ,@pJ,@qc,@eL,@kf,@jw,@mY,@ge,@nc,@mT,@fP,@iU,@hM,@pL,@fL,@pK,@qh,@fI,@kq,@kV,@pM,@iE,@qo,@pU,@ic,@ki,@jd,@nb,@gh,@mQ,@mV,@fS,@iL,@lj,@qf,@ig,@qp,@pY,@im,@kn,@kl,@nD,@gF,@ph,@oK,@gK,@js,@ke,@nW,@gI,@nS,@nO,@gG,@jb,@iO,@lU,@ft,@ma,@mb,@fw,@gL,@ta,@CD,@pp,@BB,@De,@pw,@qW,@kZ,@pZ,@iH,@ql,@pR,@iB,@kg⟩
theorem VF1:(∀(f:Fl)(x:ay),(ai f x).fix=ai f.fix x)/\
 (∀(f:Fl)(xs:List ay),(xs.map (ai f)).map AV.fix=xs.map (ai f.fix))/\
 (∀(f:Fl)(x:ah),(aV f x).fix=aV f.fix x)/\
 (∀(f:Fl)(xs:List ah),(xs.map (aV f)).map AV.fix=xs.map (aV f.fix))/\
 (∀(f:Fl)(x:ar),(aB f x).fix=aB f.fix x)/\
 (∀(f:Fl)(xs:List ar),(xs.map (aB f)).map AV.fix=xs.map (aB f.fix))/\
 (∀(f:Fl)(x:aH),(ba f x).fix=ba f.fix x)/\
 (∀(f:Fl)(xs:List aH),(xs.map (ba f)).map AV.fix=xs.map (ba f.fix))/\
 (∀(f:Fl)(x:af),(aj f x).fix=aj f.fix x)/\
 (∀(f:Fl)(xs:List af),(xs.map (aj f)).map AV.fix=xs.map (aj f.fix))/\
 (∀(f:Fl)(x:ax),(bf f x).fix=bf f.fix x)/\
 (∀(f:Fl)(xs:List ax),(xs.map (bf f)).map AV.fix=xs.map (bf f.fix))/\
 (∀(f:Fl)(x:aR),(aF f x).fix=aF f.fix x)/\
 (∀(f:Fl)(xs:List aR),(xs.map (aF f)).map AV.fix=xs.map (aF f.fix))/\
 (∀(f:Fl)(x:be),(aW f x).fix=aW f.fix x)/\
 (∀(f:Fl)(xs:List be),(xs.map (aW f)).map AV.fix=xs.map (aW f.fix))/\
 (∀(f:Fl)(x:bG),(aP f x).fix=aP f.fix x)/\
 (∀(f:Fl)(xs:List bG),(xs.map (aP f)).map AV.fix=xs.map (aP f.fix))/\
 (∀(f:Fl)(x:List Int),(bI f x).fix=bI f.fix x)/\
 (∀(f:Fl)(xs:List (List Int)),(xs.map (bI f)).map AV.fix=xs.map (bI f.fix))/\
 (∀(f:Fl)(x:ce),(bg f x).fix=bg f.fix x)/\
 (∀(f:Fl)(xs:List ce),(xs.map (bg f)).map AV.fix=xs.map (bg f.fix)):=
 ⟨@eL,@kf,@fP,@iU,@fI,@kq,@ic,@ki,@fS,@iL,@im,@kn,@gK,@js,@gG,@jb,@fw,@gL,@pw,@qW,@iB,@kg⟩
theorem VZ1:(∀(x:ay),(ai .o x).fz=true)/\
 (∀(xs:List ay),fzL (xs.map (ai .o))=true)/\
 (∀(x:ay),(ai .u x).ouB=true)/\
 (∀(xs:List ay),cH (xs.map (ai .u))=true)/\
 (∀(x:ah),(aV .o x).fz=true)/\
 (∀(xs:List ah),fzL (xs.map (aV .o))=true)/\
 (∀(x:ah),(aV .u x).ouB=true)/\
 (∀(xs:List ah),cH (xs.map (aV .u))=true)/\
 (∀(x:ar),(aB .o x).fz=true)/\
 (∀(xs:List ar),fzL (xs.map (aB .o))=true)/\
 (∀(x:ar),(aB .u x).ouB=true)/\
 (∀(xs:List ar),cH (xs.map (aB .u))=true)/\
 (∀(x:aH),(ba .o x).fz=true)/\
 (∀(xs:List aH),fzL (xs.map (ba .o))=true)/\
 (∀(x:aH),(ba .u x).ouB=true)/\
 (∀(xs:List aH),cH (xs.map (ba .u))=true)/\
 (∀(x:af),(aj .o x).fz=true)/\
 (∀(xs:List af),fzL (xs.map (aj .o))=true)/\
 (∀(x:af),(aj .u x).ouB=true)/\
 (∀(xs:List af),cH (xs.map (aj .u))=true)/\
 (∀(x:ax),(bf .o x).fz=true)/\
 (∀(xs:List ax),fzL (xs.map (bf .o))=true)/\
 (∀(x:ax),(bf .u x).ouB=true)/\
 (∀(xs:List ax),cH (xs.map (bf .u))=true)/\
 (∀(x:aR),(aF .o x).fz=true)/\
 (∀(xs:List aR),fzL (xs.map (aF .o))=true)/\
 (∀(x:aR),(aF .u x).ouB=true)/\
 (∀(xs:List aR),cH (xs.map (aF .u))=true)/\
 (∀(x:be),(aW .o x).fz=true)/\
 (∀(xs:List be),fzL (xs.map (aW .o))=true)/\
 (∀(x:be),(aW .u x).ouB=true)/\
 (∀(xs:List be),cH (xs.map (aW .u))=true)/\
 (∀(x:bG),(aP .o x).fz=true)/\
 (∀(xs:List bG),fzL (xs.map (aP .o))=true)/\
 (∀(x:bG),(aP .u x).ouB=true)/\
 (∀(xs:List bG),cH (xs.map (aP .u))=true)/\
 (∀(x:List Int),(bI .o x).fz=true)/\
 (∀(xs:List (List Int)),fzL (xs.map (bI .o))=true)/\
 (∀(x:List Int),(bI .u x).ouB=true)/\
 (∀(xs:List (List Int)),cH (xs.map (bI .u))=true)/\
 (∀(x:ce),(bg .o x).fz=true)/\
 (∀(xs:List ce),fzL (xs.map (bg .o))=true)/\
 (∀(x:ce),(bg .u x).ouB=true)/\
 (∀(xs:List ce),cH (xs.map (bg .u))=true):=
 ⟨@mw,@eK,@mJ,@eN,@kb,@oq,@kp,@pz,@mq,@iI,@mO,@ij,@mp,@sj,@my,@rA,@kj,@oS,@ka,@nK,@mI,@sw,@mM,@sk,@lp,@pW,@ld,@qn,@lG,@pT,@lI,@qj,@jf,@mW,@jm,@na,@zm,@MR,@Ag,@FE,@mA,@sE,@mC,@sP⟩
theorem VE1:ai .o=ai .u/\ai .m=ai .u/\ai .s=ai .u/\ba .o=ba .u/\ba .m=ba .u/\ba .s=ba .u/\aF .o=aF .u/\aF .m=aF .u/\aF .s=aF .u/\aW .o=aW .u/\aW .m=aW .u/\aW .s=aW .u:=⟨rfl,rfl,rfl,rfl,rfl,rfl,rfl,rfl,rfl,rfl,rfl,rfl⟩
theorem Zr{α:Type}(n:Nat)(a:α):(List.replicate n a).length=n:=List.length_replicate
theorem ZA{A B:Prop}(a:A)(b:B):A/\B:=⟨a,b⟩
theorem ZF{A:Prop}(a:A){P Q:Prop}(k:Q)(e:A->P=Q:=by intro a;simp only[VS1,VS2,VS3,VS4,VS5,VS6,VT1,VT2,ch,cg,decide_true,decide_false,List.nodup_nil,List.nodup_cons,fy,fA,fC,ne_eq,not_false_eq_true,Int.reduceEq,Int.reduceNe,true_and,false_and,Nat.reduceSub,Nat.reduceMul,↓reduceIte,reduceCtorEq,Nat.reduceEqDiff,Nat.reduceAdd,Nat.reduceLeDiff,Int.reduceLE,a];exact Eq.refl _):P:=(e a).mpr k
theorem ZG{P Q:Prop}(k:Q)(e:P=Q:=by simp only[VA,VF1,↓reduceIte,Nat.reduceEqDiff,Nat.reduceAdd,Nat.reduceMul,Nat.reduceSub,Nat.reduceLeDiff];exact Eq.refl _):P:=e.mpr k
theorem ZL{A:Prop}(a:A){B:Prop}(b:B){P:Prop}(e:A->B->P:=by intro a b;(try simp only[VS1,VS2,VS3,VS4,VS5,VS6,VT1,VT2,ch,cg,decide_true,decide_false,List.nodup_nil,List.nodup_cons,fy,fA,fC,ne_eq,not_false_eq_true,Int.reduceEq,Int.reduceNe,true_and,false_and,Nat.reduceSub,Nat.reduceMul,↓reduceIte,reduceCtorEq,Nat.reduceEqDiff,Nat.reduceAdd,Nat.reduceLeDiff,Int.reduceLE,a]);all_goals first|(simp[qL,qJ,qJ0,qS,qX,qR,qM,Shp,sub,gl,ch,cg,VS1,VS2,VS3,VS4,VS5,VS6,VT1,VT2,b];done)|simp[qL,qJ,qJ0,qS,qX,qR,qM,Shp,sub,gl,ch,cg,VS1,VS2,VS3,VS4,VS5,VS6,VT1,VT2,VE1,b]):P:=e a b
theorem ZK{B:Prop}(b:B){P:Prop}(e:B->P:=by intro b;simp[qL,qJ,qJ0,qS,qX,qR,qM,Shp,sub,gl,ch,cg,VS1,VS2,VS3,VS4,VS5,VS6,VT1,VT2,b]):P:=e b
theorem ZS{A:Prop}(a:A){W:Prop}(w:W){ok:Oks}{ρ:Nat->Option Row}{d f:Nat}{args:List AV}{K:AV->List (Nat×Row)->Prop}{v:Value}(hk:K (.sc v) [])
 (e:A->W->ok.p f (args.map (snp ρ 4)) (.sc v):=by intro a w;simp only[VS1,VS2,VS3,VS4,VS5,VS6,VT1,VT2,ch,cg,decide_true,decide_false,List.nodup_nil,List.nodup_cons,fy,fA,fC,ne_eq,not_false_eq_true,Int.reduceEq,Int.reduceNe,true_and,false_and,Nat.reduceSub,Nat.reduceMul,↓reduceIte,reduceCtorEq,Nat.reduceEqDiff,Nat.reduceAdd,Nat.reduceLeDiff,Int.reduceLE,a];exact w):fB ok ρ d f args K:=Hm (e a w) hk
theorem ZU{A:Prop}(a:A){W:Prop}(w:W){ok:Oks}{ρ:Nat->Option Row}{d f:Nat}{args:List AV}{K:AV->List (Nat×Row)->Prop}{res:AV}(hk:K (adopt 4 d res).1 (adopt 4 d res).2.1)
 (e:A->W->ok.p f (args.map (snp ρ 4)) res:=by intro a w;simp only[VS1,VS2,VS3,VS4,VS5,VS6,VT1,VT2,ch,cg,decide_true,decide_false,List.nodup_nil,List.nodup_cons,fy,fA,fC,ne_eq,not_false_eq_true,Int.reduceEq,Int.reduceNe,true_and,false_and,Nat.reduceSub,Nat.reduceMul,↓reduceIte,reduceCtorEq,Nat.reduceEqDiff,Nat.reduceAdd,Nat.reduceLeDiff,Int.reduceLE,a];exact w) (hu:res.allU:=by simp[AV.allU,ju,qG,VT1,VT2]) (hn:∀p∈(adopt 4 d res).2.1,ρ p.1=none/\p.1<1000000000:=by simp only[VS1,VS2,VS3,VS4,VS5,VS6,VT1,VT2,ch,cg,decide_true,decide_false,List.nodup_nil,List.nodup_cons,fy,fA,fC,ne_eq,not_false_eq_true,Int.reduceEq,Int.reduceNe,true_and,false_and,Nat.reduceSub,Nat.reduceMul,↓reduceIte,reduceCtorEq,Nat.reduceEqDiff,Nat.reduceAdd,Nat.reduceLeDiff,Int.reduceLE,Nat.reduceLT]):fB ok ρ d f args K:=KA (e a w) hu hn hk
theorem ZQ{P:Prop}(e:P:=by simp[VS1,VS2,VS3,VS4,VS5,VS6,VT1,VT2]):P:=e
theorem ZW{A:Prop}(a:A){W:Prop}(w:W){ok:Oks}{ρ:Nat->Option Row}{d f:Nat}{args:List AV}{rs:List Nat}{K:AV->List (Nat×Row)->Prop}{res:AV}{outs:List (Nat×Row)}
 (e:A->W->ok.m f (args.map (AV.rg (cnm rs))) (rs.map (gv ρ rs)) res outs:=by intro a w;simp only[VS1,VS2,VS3,VS4,VS5,VS6,VT1,VT2,ch,cg,decide_true,decide_false,List.nodup_nil,List.nodup_cons,fy,fA,fC,ne_eq,not_false_eq_true,Int.reduceEq,Int.reduceNe,true_and,false_and,Nat.reduceSub,Nat.reduceMul,↓reduceIte,reduceCtorEq,Nat.reduceEqDiff,Nat.reduceAdd,Nat.reduceLeDiff,Int.reduceLE,a];first|exact w|(simp only[VS1,VS2,VS3,VS4,VS5,VS6,VT1,VT2,ch,cg,decide_true,decide_false,List.nodup_nil,List.nodup_cons,fy,fA,fC,ne_eq,not_false_eq_true,Int.reduceEq,Int.reduceNe,true_and,false_and,Nat.reduceSub,Nat.reduceMul,↓reduceIte,reduceCtorEq,Nat.reduceEqDiff,Nat.reduceAdd,Nat.reduceLeDiff,Int.reduceLE,a] at w;exact w))
 (h1:rs.Nodup/\(∀r∈rs,cL (ρ r))/\(∀r∈rs,∀q∈me (ρ r),q∈rs)/\(∀r∈aN args,r∈rs):=by simp[VS1,VS2,VS3,VS4,VS5,VS6,VT1,VT2])
 (h2:(outs.map fun p=>bkn d rs p.1).Nodup/\(∀p∈outs,1000000000<=p.1->p.1-1000000000<rs.length)/\(∀p∈outs,p.1<1000000000->ρ (bkn d rs p.1)=none/\bkn d rs p.1<1000000000))
 (hk:K (res.rg (bkn d rs)) (aL rs++outs.map (eS d rs))):callM ok ρ d f args rs K:=HW (e a w) h1 h2 hk
def NmK(ns ks:List Nat)(P:Prop):Prop:=P
theorem nmK{ns ks:List Nat}{P:Prop}(p:P):NmK ns ks P:=p
theorem ZSG{A:Prop}(a:A){W:Prop}(w:W){ok:Oks}{ρ:Nat->Option Row}{d f:Nat}{args:List AV}{K:AV->List (Nat×Row)->Prop}{v:Value}{Q:Prop}(k:Q)
 (e:A->W->ok.p f (args.map (snp ρ 4)) (.sc v):=by intro a w;simp only[VS1,VS2,VS3,VS4,VS5,VS6,VT1,VT2,ch,cg,decide_true,decide_false,List.nodup_nil,List.nodup_cons,fy,fA,fC,ne_eq,not_false_eq_true,Int.reduceEq,Int.reduceNe,true_and,false_and,Nat.reduceSub,Nat.reduceMul,↓reduceIte,reduceCtorEq,Nat.reduceEqDiff,Nat.reduceAdd,Nat.reduceLeDiff,Int.reduceLE,a];exact w) (g:K (.sc v) []=Q:=by simp only[VA,VF1,↓reduceIte,Nat.reduceEqDiff,Nat.reduceAdd,Nat.reduceMul,Nat.reduceSub,Nat.reduceLeDiff];exact Eq.refl _):fB ok ρ d f args K:=Hm (e a w) (g.mpr k)
theorem ZUG{A:Prop}(a:A){W:Prop}(w:W){ok:Oks}{ρ:Nat->Option Row}{d f:Nat}{args:List AV}{K:AV->List (Nat×Row)->Prop}{res:AV}{Q:Prop}(k:Q)
 (e:A->W->ok.p f (args.map (snp ρ 4)) res:=by intro a w;simp only[VS1,VS2,VS3,VS4,VS5,VS6,VT1,VT2,ch,cg,decide_true,decide_false,List.nodup_nil,List.nodup_cons,fy,fA,fC,ne_eq,not_false_eq_true,Int.reduceEq,Int.reduceNe,true_and,false_and,Nat.reduceSub,Nat.reduceMul,↓reduceIte,reduceCtorEq,Nat.reduceEqDiff,Nat.reduceAdd,Nat.reduceLeDiff,Int.reduceLE,a];exact w) (hu:res.allU:=by simp[AV.allU,ju,qG,VT1,VT2]) (hn:∀p∈(adopt 4 d res).2.1,ρ p.1=none/\p.1<1000000000:=by simp only[VS1,VS2,VS3,VS4,VS5,VS6,VT1,VT2,ch,cg,decide_true,decide_false,List.nodup_nil,List.nodup_cons,fy,fA,fC,ne_eq,not_false_eq_true,Int.reduceEq,Int.reduceNe,true_and,false_and,Nat.reduceSub,Nat.reduceMul,↓reduceIte,reduceCtorEq,Nat.reduceEqDiff,Nat.reduceAdd,Nat.reduceLeDiff,Int.reduceLE,Nat.reduceLT]) (g:K (adopt 4 d res).1 (adopt 4 d res).2.1=Q:=by simp only[VA,VF1,↓reduceIte,Nat.reduceEqDiff,Nat.reduceAdd,Nat.reduceMul,Nat.reduceSub,Nat.reduceLeDiff];exact Eq.refl _):fB ok ρ d f args K:=KA (e a w) hu hn (g.mpr k)
theorem NM1{ρ:Nat->Option Row}{d:Nat}{rs:List Nat}{outs:List (Nat×Row)}{ns ks:List Nat}(hn:outs.map (·.1)=ns)(h:TZ rs ns=true):
 NmK ns ks ((outs.map fun p=>bkn d rs p.1).Nodup/\(∀p∈outs,1000000000<=p.1->p.1-1000000000<rs.length)/\(∀p∈outs,p.1<1000000000->ρ (bkn d rs p.1)=none/\bkn d rs p.1<1000000000)):=VW ns hn h
theorem NM2{ρ:Nat->Option Row}{d:Nat}{rs:List Nat}{outs:List (Nat×Row)}{ns ks:List Nat}(hn:outs.map (·.1)=ns)(h:LT d rs ns ks=true)(hk:∀q∈ks,ρ q=none):
 NmK ns ks ((outs.map fun p=>bkn d rs p.1).Nodup/\(∀p∈outs,1000000000<=p.1->p.1-1000000000<rs.length)/\(∀p∈outs,p.1<1000000000->ρ (bkn d rs p.1)=none/\bkn d rs p.1<1000000000)):=Tw ns ks hn h hk
theorem ZWG{A:Prop}(a:A){W:Prop}(w:W)(ns ks:List Nat){Q:Prop}(k:Q){ok:Oks}{ρ:Nat->Option Row}{d f:Nat}{args:List AV}{rs:List Nat}{K:AV->List (Nat×Row)->Prop}{res:AV}{outs:List (Nat×Row)}
 (e:A->W->ok.m f (args.map (AV.rg (cnm rs))) (rs.map (gv ρ rs)) res outs:=by intro a w;simp only[VS1,VS2,VS3,VS4,VS5,VS6,VT1,VT2,ch,cg,decide_true,decide_false,List.nodup_nil,List.nodup_cons,fy,fA,fC,ne_eq,not_false_eq_true,Int.reduceEq,Int.reduceNe,true_and,false_and,Nat.reduceSub,Nat.reduceMul,↓reduceIte,reduceCtorEq,Nat.reduceEqDiff,Nat.reduceAdd,Nat.reduceLeDiff,Int.reduceLE,a];first|exact w|(simp only[VS1,VS2,VS3,VS4,VS5,VS6,VT1,VT2,ch,cg,decide_true,decide_false,List.nodup_nil,List.nodup_cons,fy,fA,fC,ne_eq,not_false_eq_true,Int.reduceEq,Int.reduceNe,true_and,false_and,Nat.reduceSub,Nat.reduceMul,↓reduceIte,reduceCtorEq,Nat.reduceEqDiff,Nat.reduceAdd,Nat.reduceLeDiff,Int.reduceLE,a] at w;exact w))
 (h1:rs.Nodup/\(∀r∈rs,cL (ρ r))/\(∀r∈rs,∀q∈me (ρ r),q∈rs)/\(∀r∈aN args,r∈rs):=by simp[VS1,VS2,VS3,VS4,VS5,VS6,VT1,VT2])
 (h2:NmK ns ks ((outs.map fun p=>bkn d rs p.1).Nodup/\(∀p∈outs,1000000000<=p.1->p.1-1000000000<rs.length)/\(∀p∈outs,p.1<1000000000->ρ (bkn d rs p.1)=none/\bkn d rs p.1<1000000000)):=by first|exact NM1 rfl (by decide+kernel)|exact NM2 rfl (by decide+kernel) ZQ|exact nmK ZQ)
 (g:K (res.rg (bkn d rs)) (aL rs++outs.map (eS d rs))=Q:=by simp only[VA,VF1,↓reduceIte,Nat.reduceEqDiff,Nat.reduceAdd,Nat.reduceMul,Nat.reduceSub,Nat.reduceLeDiff];exact Eq.refl _):callM ok ρ d f args rs K:=HW (e a w) h1 h2 (g.mpr k)
theorem w_hb(a:List Int){r:Bool}(h:Ng a=some r):Ok Tryz.prog 10 [.lst .o 1 (a.map AV.u8)] (.b r):=by
 refine aA bd m10 rfl ?_;unfold Ng at h;simp only[ZC,A10,V10,aJ];cases h;exact ZL trivial @V10.eq_1
theorem w_ee(a:ax){r:Int×ax}(h:AQ a=some r):OkM Tryz.prog 193 [.pt 1000000000 0 0] [(1000000000,.var (.agg [.lst .o 1 (((a).code).map AV.u8),.i ((a).atF),.sc (.int .u64 ((a).seed))]))] (.i r.1) ([(1000000000,.var (.agg [.lst .o 1 (((r.2).code).map AV.u8),.i ((r.2).atF),.sc (.int .u64 ((r.2).seed))]))]):=by
 refine aZ (lr:=[1000000000]) bd SP rfl rfl ?_;unfold AQ at h;simp only[ZC,HF,V10];obtain⟨d,g,h⟩:=ae h;try refine ZF trivial ?_
 refine aw (sh:=(fun v=>⟨[(0,.pt 1000000000 0 0),(3,.i v)],[(1000000000,.var (.agg [.lst .o 1 (((a).code).map AV.u8),.i ((a).atF),.sc (.int .u64 ((a).seed))]))]⟩)) (s:=d) ?_ ?_
 ·replace h:=g;obtain⟨b,h⟩|⟨b,h⟩:=aq h
  ·obtain⟨k,j,h⟩:=ae h;cases h;exact ZL (ZA b (aM j)) trivial
  ·cases h;exact ZL b trivial
 ·simp only[ZC,vx];obtain⟨c,h⟩|⟨c,h⟩:=aq h
  ·cases h;exact ZL c @V10.eq_1
  ·cases h;exact ZL c @V10.eq_1
theorem w_b(d:Int)(b:ax){r:Int×ax}(h:M_b d b=some r):OkM Tryz.prog 129 [.pt 1000000000 0 0,.i d] [(1000000000,.var (.agg [.lst .o 1 (((b).code).map AV.u8),.i ((b).atF),.sc (.int .u64 ((b).seed))]))] (.i r.1) ([(1000000000,.var (.agg [.lst .o 1 (((r.2).code).map AV.u8),.i ((r.2).atF),.sc (.int .u64 ((r.2).seed))]))]):=by
 refine aZ (lr:=[1000000000]) bd TQ rfl rfl ?_;unfold M_b at h;simp only[ZC,KD,az];obtain⟨a,h⟩|⟨a,h⟩:=aq h
 ·cases h;exact ZL a @az.eq_1
 ·obtain⟨m,g,h⟩:=ae h;refine ZF a ?_;refine ZWG a (w_ee _ g) [1000000000] [] ?_;obtain⟨c,h⟩|⟨c,h⟩:=aq h
  ·obtain⟨p,j,h⟩:=ae h;have f:=ZA a c;refine ZF f ?_;refine ZWG f (w_ee _ j) [1000000000] [] ?_;obtain⟨q,k,h⟩:=ae h;cases h;exact ZL (ZA f (aI k)) @az.eq_1
  ·obtain⟨s,l,h⟩:=ae h;cases h;exact ZL (ZA a (ZA c (aI l))) @az.eq_1
theorem NE(c:Int)(a:ax){r:Bool×ax}(h:sq c a=some r):OkM Tryz.prog 130 [.pt 1000000000 0 0,.i c] [(1000000000,.var (.agg [.lst .o 1 (((a).code).map AV.u8),.i ((a).atF),.sc (.int .u64 ((a).seed))]))] (.b r.1) ([(1000000000,.var (.agg [.lst .o 1 (((r.2).code).map AV.u8),.i ((r.2).atF),.sc (.int .u64 ((r.2).seed))]))]):=by
 refine aZ (lr:=[1000000000]) bd TW rfl rfl ?_;unfold sq at h;simp only[ZC,HY,az];obtain⟨g,d,h⟩:=ae h;refine ZF trivial ?_;refine ZWG trivial (w_b _ _ d) [1000000000] [] ?_;cases h;exact ZL trivial @az.eq_1
theorem w_ea(b:Int)(c:Int){r:Int}(h:AJ b c=some r):Ok Tryz.prog 235 [.i b,.i c] (.i r):=by
 refine aA bd m235 rfl ?_;unfold AJ at h;simp only[ZC,A235,az,aJ];obtain⟨a,h⟩|⟨a,h⟩:=aq h
 ·cases h;exact ZL a @az.eq_1
 ·cases h;exact ZL a @az.eq_1
theorem w_eb(b:Int)(c:Int){r:Int}(h:Cy b c=some r):Ok Tryz.prog 236 [.i b,.i c] (.i r):=by
 refine aA bd m236 rfl ?_;unfold Cy at h;simp only[ZC,A236,az,aJ];obtain⟨a,h⟩|⟨a,h⟩:=aq h
 ·cases h;exact ZL a @az.eq_1
 ·cases h;exact ZL a @az.eq_1
theorem w_r(a:ax)(b:List Int){r:Int×ax×List Int}(h:M_r a b=some r):OkM Tryz.prog 151 [.pt 1000000000 0 0,.sl 1000000001 0 b.length] [(1000000000,.var (.agg [.lst .o 1 (((a).code).map AV.u8),.i ((a).atF),.sc (.int .u64 ((a).seed))])),(1000000001,.arr 1 (b.map AV.i))] (.i r.1) ([(1000000000,.var (.agg [.lst .o 1 (((r.2.1).code).map AV.u8),.i ((r.2.1).atF),.sc (.int .u64 ((r.2.1).seed))])),(1000000001,.arr 1 (r.2.2.map AV.i))]):=by
 refine aZ (lr:=[1000000000,1000000001]) bd Ue rfl rfl ?_;unfold M_r at h;simp only[ZC,Fy,az];obtain⟨j,c,h⟩:=ae h;refine ZF trivial ?_;refine ZWG trivial (w_b _ _ c) [1000000000] [] ?_;obtain⟨k,d,h⟩:=ae h;obtain⟨l,g,h⟩:=ae h;cases h;exact ZL (ZA (aI d) g) @az.eq_1
theorem w_dk(a:ay)(b:ay){r:Int}(h:uY a b=some r):Ok Tryz.prog 197 [.agg [.i a.A,.i a.B,.i a.Length,.i a.Risk],.agg [.i b.A,.i b.B,.i b.Length,.i b.Risk]] (.i r):=by
 have e:=@az.eq_1;refine aA bd m197 rfl ?_;unfold uY at h;simp only[ZC,A197,az,aJ];obtain⟨c,h⟩|⟨c,h⟩:=aq h
 ·cases h;exact ZL c e
 ·obtain⟨d,h⟩|⟨d,h⟩:=aq h
  ·cases h;exact ZL (ZA c d) e
  ·obtain⟨g,h⟩|⟨g,h⟩:=aq h
   ·cases h;exact ZL (ZA c (ZA d g)) e
   ·cases h;exact ZL (ZA c (ZA d g)) e
def rV(b:List ay)(a:ay)(v:Int):St:=⟨[(0,.lst .o 4 (b.map (ai .o))),(3,.pt 3 0 0),(5,.i v)],[(3,.var (.agg [.i a.A,.i a.B,.i a.Length,.i a.Risk]))]⟩
theorem w_bb(a:List ay)(b:ay)(g:Int)(o:Int⊕Int)(h:Cs a b g=some o):AWP (OkS Tryz.prog) xY (qL [0,3,5] [3] (rV a b) (qX 0 [0,3,5] [3] (rV a b)) o) (rV a b g):=by
 have e:=ZA @rV.eq_1 @rV.eq_1;unfold Cs at h;simp only[ZC,rV,xY];obtain⟨c,h⟩|⟨c,h⟩:=aq h
 ·obtain⟨k,i,h⟩:=ae h;obtain⟨l,j,h⟩:=ae h;have f:=ZA c (aM i);refine ZF f ?_;refine ZSG f (w_dk _ _ j) ?_;obtain⟨d,h⟩|⟨d,h⟩:=aq h
  ·cases h;exact ZL (ZA f d) e
  ·cases h;exact ZL (ZA f d) e
 ·cases h;exact ZL c e
theorem w_ec(g:List ay)(a:ay){r:List ay}(h:Dz g a=some r):Ok Tryz.prog 234 [.lst .o 4 (g.map (ai .o)),.agg [.i a.A,.i a.B,.i a.Length,.i a.Risk]] (.lst .u 4 (r.map (ai .u))):=by
 refine aA bd m234 rfl ?_;unfold Dz at h;simp only[ZC,A234,az,aJ];obtain⟨w1,x,h⟩:=ae h;try refine ZF trivial ?_
 refine aw (aY (aC (w_bb g a) x ?_)) ?_
 ·exact ZK (ZA @rV.eq_1 @rV.eq_1)
 ·simp only[ZC,rV,Me];obtain⟨l,y,h⟩:=ae h;obtain⟨z,a1,b1,c1,d1⟩:=zZ (ai .o) y;obtain⟨x1,g1,h⟩:=ae h;obtain⟨j,b,h⟩:=aO h;have i1:Row.arr 4 [(.agg [.i a.A,.i a.B,.i a.Length,.i a.Risk]:AV)]=Row.arr 4 (j.map (ai .u)):=by rw[<-b];rfl
  have m:j.length=1:=by rw[<-b];rfl
  obtain⟨y1,j1,h⟩:=ae h;have p:=aI j1;obtain⟨c,d,h⟩:=aO h;have k1:l.map (ai .o)++j.map (ai .o)=c.map (ai .o):=by rw[<-d,List.map_append]
  have q:l.length+1=c.length:=by simp[<-b,<-d]<;>omega
  rw[q] at p;obtain⟨s,l1,h⟩:=ae h;obtain⟨m1,p1,q1,s1,t1⟩:=Wv (ai .o) l1;obtain⟨z1,u1,h⟩:=ae h;have t:=aI u1;obtain⟨v,k,h⟩:=aO h;have v1:c.map (ai .o)++s.map (ai .o)=v.map (ai .o):=by rw[<-k,List.map_append]
  have w:c.length+s.length=v.length:=by simp[<-b,<-d,<-k]<;>omega
  rw[w] at t;cases h;exact ZL (ZA z (ZA a1 (ZA b1 (ZA c1 (ZA d1 (ZA (aI g1) (ZA i1 (ZA m (ZA p (ZA k1 (ZA q (ZA m1 (ZA p1 (ZA q1 (ZA s1 (ZA t1 (ZA t (ZA v1 w)))))))))))))))))) (ZA @az.eq_1 (ZA b.symm (ZA d.symm (ZA k.symm m))))
def Mn(a:Int×ax)(b:List ByteArray)(v:Int×List ay×ax):St:=⟨[(0,.pt 1000000000 0 0),(2,.pt 2 0 0),(3,.i (IntKind.wrap .i64 (2+a.1))),(4,.pt 4 0 0),(5,.i v.1)],[(2,.var (.agg [.lst .u 1 [],.lst .u 4 []])),(4,.var (.agg [.sl 500000256 0 (Int.toNat (IntKind.wrap .i64 (2+a.1))),.sl 500000257 0 v.2.1.length])),(500000256,.arr 1 (b.map AV.z)),(500000257,.arr 4 (v.2.1.map (ai .u))),(1000000000,.var (.agg [.lst .o 1 (((v.2.2).code).map AV.u8),.i ((v.2.2).atF),.sc (.int .u64 ((v.2.2).seed))]))]⟩
def Ak(a:Int×ax)(b:List ByteArray)(v:List ay×ax):St:=⟨[(0,.pt 1000000000 0 0),(2,.pt 2 0 0),(3,.i (IntKind.wrap .i64 (2+a.1))),(4,.pt 4 0 0)],[(2,.var (.agg [.lst .u 1 [],.lst .u 4 []])),(4,.var (.agg [.sl 500000256 0 (Int.toNat (IntKind.wrap .i64 (2+a.1))),.sl 500000257 0 v.1.length])),(500000256,.arr 1 (b.map AV.z)),(500000257,.arr 4 (v.1.map (ai .u))),(1000000000,.var (.agg [.lst .o 1 (((v.2).code).map AV.u8),.i ((v.2).atF),.sc (.int .u64 ((v.2).seed))]))]⟩
theorem w_aa(a:Int×ax)(d:List ByteArray)(c:Int×List ay×ax)(o:(Int×List ay×ax)⊕(List ay×ax))(h:wZ a c=some o):AWP (OkS Tryz.prog) nN (qL [0,2,3,4,5] [2,4,500000256,500000257,1000000000] (Mn a d) (qX 0 [0,2,3,4] [2,4,500000256,500000257,1000000000] (Ak a d)) o) (Mn a d c):=by
 have e:=ZA @Mn.eq_1 @Ak.eq_1;unfold wZ at h;simp only[ZC,Mn,nN];obtain⟨g,h⟩|⟨g,h⟩:=aq h
 ·obtain⟨i1,q,h⟩:=ae h;obtain⟨t,w,h⟩:=ae h;have f:=ZA g (aI q);try refine ZF f ?_
  refine aw (sh:=(fun v=>⟨[(0,.pt 1000000000 0 0),(2,.pt 2 0 0),(3,.i (IntKind.wrap .i64 (2+a.1))),(4,.pt 4 0 0),(5,.i c.1),(6,.i (Int.tmod (IntKind.wrap .i64 (c.1+1)) (IntKind.wrap .i64 (2+a.1)))),(32,.b v.1)],[(2,.var (.agg [.lst .u 1 [],.lst .u 4 []])),(4,.var (.agg [.sl 500000256 0 (Int.toNat (IntKind.wrap .i64 (2+a.1))),.sl 500000257 0 c.2.1.length])),(500000256,.arr 1 (d.map AV.z)),(500000257,.arr 4 (c.2.1.map (ai .u))),(1000000000,.var (.agg [.lst .o 1 (((v.2).code).map AV.u8),.i ((v.2).atF),.sc (.int .u64 ((v.2).seed))]))]⟩)) (s:=t) ?_ ?_
  ·replace h:=w;obtain⟨j,h⟩|⟨j,h⟩:=aq h
   ·cases h;exact ZL (ZA f j) trivial
   ·obtain⟨j1,x,h⟩:=ae h;have f:=ZA f j;refine ZF f ?_;refine ZWG f (NE _ _ x) [1000000000] [] ?_;cases h;exact ZL f trivial
  ·simp only[ZC,tu];obtain⟨k,h⟩|⟨k,h⟩:=aq h
   ·cases h;exact ZL (ZA f k) e
   ·obtain⟨k1,y,h⟩:=ae h;have f:=ZA f k;refine ZF f ?_;refine ZSG f (w_ea _ _ y) ?_;obtain⟨l1,a1,h⟩:=ae h;refine ZF f ?_;refine ZSG f (w_eb _ _ a1) ?_;obtain⟨m1,b1,h⟩:=ae h;refine ZF f ?_;refine ZWG f (w_b _ _ b1) [1000000000] [] ?_;obtain⟨m,l,h⟩:=aO h;have c1:Row.arr 1 [(.i 0:AV),(.i 0:AV),(.i 0:AV),(.i 1:AV),(.i 2:AV)]=Row.arr 1 (m.map AV.i):=by rw[<-l];rfl
    have p:m.length=5:=by rw[<-l];rfl
    obtain⟨p1,d1,h⟩:=ae h;have f:=ZA f (ZA c1 p);refine ZF f ?_;refine ZWG f (w_r _ _ d1) [1000000000,1000000001] [] ?_;obtain⟨q1,g1,h⟩:=ae h;refine ZF f ?_;refine ZUG f (w_ec _ _ g1) ?_;cases h;exact ZL f (ZA e (ZA l.symm p))
 ·cases h;exact ZL g e
def IC(a:Int×ax)(b:List ByteArray)(v:Int×List ay×ax):St:=⟨[(0,.pt 1000000000 0 0),(2,.pt 2 0 0),(3,.i (IntKind.wrap .i64 (2+a.1))),(4,.pt 4 0 0),(7,.i v.1)],[(2,.var (.agg [.lst .u 1 [],.lst .u 4 []])),(4,.var (.agg [.sl 500000256 0 (Int.toNat (IntKind.wrap .i64 (2+a.1))),.sl 500000257 0 v.2.1.length])),(500000256,.arr 1 (b.map AV.z)),(500000257,.arr 4 (v.2.1.map (ai .u))),(1000000000,.var (.agg [.lst .o 1 (((v.2.2).code).map AV.u8),.i ((v.2.2).atF),.sc (.int .u64 ((v.2.2).seed))]))]⟩
def yq(a:Int×ax)(b:List ByteArray)(v:List ay×ax):St:=⟨[(2,.pt 2 0 0),(4,.pt 4 0 0)],[(2,.var (.agg [.lst .u 1 [],.lst .u 4 []])),(4,.var (.agg [.sl 500000256 0 (Int.toNat (IntKind.wrap .i64 (2+a.1))),.sl 500000257 0 v.1.length])),(500000256,.arr 1 (b.map AV.z)),(500000257,.arr 4 (v.1.map (ai .u))),(1000000000,.var (.agg [.lst .o 1 (((v.2).code).map AV.u8),.i ((v.2).atF),.sc (.int .u64 ((v.2).seed))]))]⟩
theorem w_ab(b:Int×ax)(c:List ByteArray)(j:Int×List ay×ax)(o:(Int×List ay×ax)⊕(List ay×ax))(h:xW b j=some o):AWP (OkS Tryz.prog) nH (qL [0,2,3,4,7] [2,4,500000256,500000257,1000000000] (IC b c) (qX 2 [2,4] [2,4,500000256,500000257,1000000000] (yq b c)) o) (IC b c j):=by
 have e:=ZA @IC.eq_1 @yq.eq_1;unfold xW at h;simp only[ZC,IC,nH];obtain⟨a,h⟩|⟨a,h⟩:=aq h
 ·obtain⟨x,m,h⟩:=ae h;refine ZF a ?_;refine ZWG a (w_b _ _ m) [1000000000] [] ?_;obtain⟨y,p,h⟩:=ae h;refine ZF a ?_;refine ZWG a (w_b _ _ p) [1000000000] [] ?_;obtain⟨d,h⟩|⟨d,h⟩:=aq h
  ·obtain⟨z,q,h⟩:=ae h;have f:=ZA a d;refine ZF f ?_;refine ZSG f (w_ea _ _ q) ?_;obtain⟨a1,s,h⟩:=ae h;refine ZF f ?_;refine ZSG f (w_eb _ _ s) ?_;obtain⟨b1,t,h⟩:=ae h;refine ZF f ?_;refine ZWG f (w_b _ _ t) [1000000000] [] ?_;obtain⟨k,g,h⟩:=aO h;have u:Row.arr 1 [(.i 0:AV),(.i 0:AV),(.i 0:AV),(.i 1:AV),(.i 2:AV)]=Row.arr 1 (k.map AV.i):=by rw[<-g];rfl
   have l:k.length=5:=by rw[<-g];rfl
   obtain⟨c1,v,h⟩:=ae h;have f:=ZA f (ZA u l);refine ZF f ?_;refine ZWG f (w_r _ _ v) [1000000000,1000000001] [] ?_;obtain⟨d1,w,h⟩:=ae h;refine ZF f ?_;refine ZUG f (w_ec _ _ w) ?_;cases h;exact ZL f (ZA e (ZA g.symm l))
  ·cases h;exact ZL (ZA a d) e
 ·cases h;exact ZL a e
theorem w_ed(a:ax){r:Nat×Nat×List ByteArray×List ay×ax}(h:BA a=some r):OkM Tryz.prog 209 [.pt 1000000000 0 0] [(1000000000,.var (.agg [.lst .o 1 (((a).code).map AV.u8),.i ((a).atF),.sc (.int .u64 ((a).seed))]))] (.agg [.sl 500000128 r.1 r.2.1,.sl 500000129 0 r.2.2.2.1.length]) ([(500000128,.arr 1 (r.2.2.1.map AV.z)),(500000129,.arr 4 (r.2.2.2.1.map (ai .u))),(1000000000,.var (.agg [.lst .o 1 (((r.2.2.2.2).code).map AV.u8),.i ((r.2.2.2.2).atF),.sc (.int .u64 ((r.2.2.2.2).seed))]))]):=by
 refine aZ (lr:=[500000128,500000129,1000000000]) bd TA rfl rfl ?_;unfold BA at h;simp only[ZC,FY,dh];obtain⟨g,j,h⟩:=ae h;refine ZF trivial ?_;refine ZWG trivial (w_b _ _ j) [1000000000] [] ?_;obtain⟨b,d,h⟩:=aO h;have k:Row.arr 1 [(.z (⟨#[97]⟩:ByteArray):AV),(.z (⟨#[98]⟩:ByteArray):AV),(.z (⟨#[99]⟩:ByteArray):AV),(.z (⟨#[100]⟩:ByteArray):AV),(.z (⟨#[101]⟩:ByteArray):AV),(.z (⟨#[102]⟩:ByteArray):AV)]=Row.arr 1 (b.map AV.z):=by rw[<-d];rfl
 have c:b.length=6:=by rw[<-d];rfl
 obtain⟨s,l,h⟩:=ae h;obtain⟨t,m,h⟩:=ae h;have f:=ZA k (ZA c (aI l));try refine ZF f ?_
 refine aw (aY (aC (w_aa g b) m ?_)) ?_
 ·exact ZK (ZA @Mn.eq_1 (ZA @Ak.eq_1 (ZA d.symm c)))
 ·simp only[ZC,Ak,vG];obtain⟨v,p,h⟩:=ae h;refine ZF f ?_;refine ZWG f (w_b _ _ p) [1000000000] [] ?_;obtain⟨w,q,h⟩:=ae h;try refine ZF f ?_
  refine aw (aY (aC (w_ab g b) q ?_)) ?_
  ·exact ZK (ZA @IC.eq_1 (ZA @yq.eq_1 c))
  ·simp only[ZC,yq,uH];cases h;exact ZL f (ZA @dh.eq_1 c)
theorem w_gg(a:ax){r:Nat×Nat×List ByteArray×List ay×ax}(h:Io a=some r):OkM Tryz.prog 207 [.pt 1000000000 0 0] [(1000000000,.var (.agg [.lst .o 1 (((a).code).map AV.u8),.i ((a).atF),.sc (.int .u64 ((a).seed))]))] (.agg [.sl 500000128 r.1 r.2.1,.sl 500000129 0 r.2.2.2.1.length]) ([(500000128,.arr 1 (r.2.2.1.map AV.z)),(500000129,.arr 4 (r.2.2.2.1.map (ai .u))),(1000000000,.var (.agg [.lst .o 1 (((r.2.2.2.2).code).map AV.u8),.i ((r.2.2.2.2).atF),.sc (.int .u64 ((r.2.2.2.2).seed))]))]):=by
 refine aZ (lr:=[500000128,500000129,1000000000]) bd Ve rfl rfl ?_;unfold Io at h;simp only[ZC,EE,dh];obtain⟨j,q,h⟩:=ae h;refine ZF trivial ?_;refine ZWG trivial (w_ed _ q) [500000128,500000129,1000000000] [500600128,500600129] ?_;obtain⟨c,h⟩|⟨c,h⟩:=aq h
 ·obtain⟨d,b,h⟩:=aO h;have s:Row.arr 4 [(.agg [.i 0,.i 1,.i 100,.i 0]:AV)]=Row.arr 4 (d.map (ai .u)):=by rw[<-b];rfl
  have k:d.length=1:=by rw[<-b];rfl
  obtain⟨w,t,h⟩:=ae h;have l:=aI t;obtain⟨m,g,h⟩:=aO h;have v:j.2.2.2.1.map (ai .u)++d.map (ai .u)=m.map (ai .u):=by rw[<-g,List.map_append]
  have p:j.2.2.2.1.length+1=m.length:=by simp[<-b,<-g]<;>omega
  rw[p] at l;cases h;exact ZL (ZA c (ZA s (ZA k (ZA l (ZA v p))))) (ZA @dh.eq_1 (ZA b.symm (ZA g.symm k)))
 ·cases h;exact ZL c @dh.eq_1
theorem w_c(c:Int)(d:Int)(g:Int){r:Bool}(h:M_c c d g=some r):Ok Tryz.prog 173 [.i c,.i d,.i g] (.b r):=by
 refine aA bd m173 rfl ?_;unfold M_c at h;simp only[ZC,A173,bJ,aJ];obtain⟨a,h⟩|⟨a,h⟩:=aq h
 ·cases h;exact ZL a @bJ.eq_1
 ·cases h;exact ZL a @bJ.eq_1
theorem w_ex(i:Int){r:Bool}(h:IP i=some r):Ok Tryz.prog 226 [.sc (.int .u8 i)] (.b r):=by
 have e:=@V10.eq_1;refine aA bd m226 rfl ?_;unfold IP at h;simp only[ZC,A226,V10,aJ];obtain⟨a,h⟩|⟨a,h⟩:=aq h
 ·obtain⟨c,h⟩|⟨c,h⟩:=aq h
  ·cases h;exact ZL (ZA a c) e
  ·obtain⟨d,h⟩|⟨d,h⟩:=aq h
   ·cases h;exact ZL (ZA a (ZA c d)) e
   ·cases h;exact ZL (ZA a (ZA c d)) e
 ·obtain⟨g,h⟩|⟨g,h⟩:=aq h
  ·cases h;exact ZL (ZA a g) e
  ·cases h;exact ZL (ZA a g) e
def S_a(a:ByteArray)(v:Int):St:=⟨[(0,.z a),(3,.i v)],[]⟩
def bR(v:Unit):St:=⟨[],[]⟩
theorem w_a(a:ByteArray)(g:Int)(o:Int⊕(Unit⊕Bool))(h:M_a a g=some o):AWP (OkS Tryz.prog) xj (qL [0,3] [] (S_a a) (qS (qX 0 [] [] (bR)) (qR V10 (fun r=>.b r))) o) (S_a a g):=by
 have e:=ZA @S_a.eq_1 @bR.eq_1;unfold M_a at h;simp only[ZC,S_a,xj];obtain⟨c,h⟩|⟨c,h⟩:=aq h
 ·obtain⟨k,i,h⟩:=ae h;obtain⟨l,j,h⟩:=ae h;have f:=ZA c (jF i);refine ZF f ?_;refine ZSG f (w_ex _ j) ?_;obtain⟨d,h⟩|⟨d,h⟩:=aq h
  ·cases h;exact ZL (ZA f d) @V10.eq_1
  ·cases h;exact ZL (ZA f d) e
 ·cases h;exact ZL c e
theorem w_ey(a:ByteArray){r:Bool}(h:LY a=some r):Ok Tryz.prog 194 [.z a] (.b r):=by
 refine aA bd m194 rfl ?_;unfold LY at h;simp only[ZC,A194,V10,aJ];obtain⟨j,k,h⟩:=ae h;try refine ZF trivial ?_
 refine aw (sh:=(fun v=>⟨[(0,.z a),(17,.b v)],[]⟩)) (s:=j) ?_ ?_
 ·replace h:=k;obtain⟨t,l,h⟩:=ae h;refine ZF trivial ?_;refine ZSG trivial (w_c _ _ _ l) ?_;obtain⟨c,h⟩|⟨c,h⟩:=aq h
  ·cases h;exact ZL c trivial
  ·obtain⟨u,i,h⟩:=ae h;obtain⟨g,h⟩|⟨g,h⟩:=aq h
   ·cases h;exact ZL (ZA c (ZA (jF i) g)) trivial
   ·cases h;exact ZL (ZA c (ZA (jF i) g)) trivial
 ·simp only[ZC,Mv];obtain⟨d,h⟩|⟨d,h⟩:=aq h
  ·cases h;exact ZL d @V10.eq_1
  ·obtain⟨m,p,h⟩:=ae h;try refine ZF d ?_
   refine bo (o:=m) (bu cJ (aC (w_a a) p ?_)) (fun w hv=>?_) (fun x hv e τ hne hq=>?_)
   ·exact ZK (ZA @S_a.eq_1 @bR.eq_1)
   ·subst hv;simp only[] at h;simp only[ZC,bR,FT];cases h;exact ZL d @V10.eq_1
   ·subst hv;simp only[] at h;obtain⟨rfl,q⟩:=hq;cases h;exact q
def MX(a:List ByteArray)(b:ByteArray)(v:Int):St:=⟨[(0,.lst .o 1 (a.map AV.z)),(1,.z b),(5,.i v)],[]⟩
theorem w_bv(b:List ByteArray)(c:ByteArray)(g:Int)(o:Int⊕(Unit⊕Int))(h:BX b c g=some o):AWP (OkS Tryz.prog) xz (qL [0,1,5] [] (MX b c) (qS (qX 0 [] [] (bR)) (qR az (fun r=>.i r))) o) (MX b c g):=by
 have e:=ZA @MX.eq_1 @bR.eq_1;unfold BX at h;simp only[ZC,MX,xz];obtain⟨a,h⟩|⟨a,h⟩:=aq h
 ·obtain⟨k,j,h⟩:=ae h;obtain⟨d,h⟩|⟨d,h⟩:=aq h
  ·cases h;exact ZL (ZA a (ZA (aM j) d)) @az.eq_1
  ·cases h;exact ZL (ZA a (ZA (aM j) d)) e
 ·cases h;exact ZL a e
theorem w_ez(a:List ByteArray)(b:ByteArray){r:Int}(h:IX a b=some r):Ok Tryz.prog 195 [.lst .o 1 (a.map AV.z),.z b] (.i r):=by
 refine aA bd m195 rfl ?_;unfold IX at h;simp only[ZC,A195,az,aJ];obtain⟨c,d,h⟩:=ae h;try refine ZF trivial ?_
 refine bo (o:=c) (bu cJ (aC (w_bv a b) d ?_)) (fun j hv=>?_) (fun k hv e τ hne hq=>?_)
 ·exact ZK (ZA @MX.eq_1 @bR.eq_1)
 ·subst hv;simp only[] at h;simp only[ZC,bR,Ej];cases h;exact ZL trivial @az.eq_1
 ·subst hv;simp only[] at h;obtain⟨rfl,g⟩:=hq;cases h;exact g
theorem w_gh(c:ay)(j:Int){r:Bool}(h:Ia c j=some r):Ok Tryz.prog 196 [.agg [.i c.A,.i c.B,.i c.Length,.i c.Risk],.i j] (.b r):=by
 have e:=@az.eq_1;refine aA bd m196 rfl ?_;unfold Ia at h;simp only[ZC,A196,az,aJ];obtain⟨q,k,h⟩:=ae h;refine ZF trivial ?_;refine ZSG trivial (w_c _ _ _ k) ?_;obtain⟨a,h⟩|⟨a,h⟩:=aq h
 ·obtain⟨s,l,h⟩:=ae h;refine ZF a ?_;refine ZSG a (w_c _ _ _ l) ?_;obtain⟨d,h⟩|⟨d,h⟩:=aq h
  ·obtain⟨t,m,h⟩:=ae h;have f:=ZA a d;refine ZF f ?_;refine ZSG f (w_c _ _ _ m) ?_;obtain⟨g,h⟩|⟨g,h⟩:=aq h
   ·obtain⟨u,p,h⟩:=ae h;have f:=ZA f g;refine ZF f ?_;refine ZSG f (w_c _ _ _ p) ?_;cases h;exact ZL f e
   ·cases h;exact ZL (ZA f g) e
  ·cases h;exact ZL (ZA a d) e
 ·cases h;exact ZL a e
def S_g(a:ah)(v:Int):St:=⟨[(1,.pt 1 0 0),(3,.i v)],[(1,.var (.agg [.lst .o 1 (a.Nodes.map AV.z),.lst .o 4 (a.Fibers.map (ai .o))]))]⟩
def kK(a:ah)(v:Unit):St:=⟨[(1,.pt 1 0 0)],[(1,.var (.agg [.lst .o 1 (a.Nodes.map AV.z),.lst .o 4 (a.Fibers.map (ai .o))]))]⟩
theorem w_g(a:ah)(d:Int)(o:Int⊕(Unit⊕Bool))(h:M_g a d=some o):AWP (OkS Tryz.prog) xd (qL [1,3] [1] (S_g a) (qS (qX 0 [1] [1] (kK a)) (qR V10 (fun r=>.b r))) o) (S_g a d):=by
 have e:=ZA @S_g.eq_1 @kK.eq_1;unfold M_g at h;simp only[ZC,S_g,xd];obtain⟨c,h⟩|⟨c,h⟩:=aq h
 ·obtain⟨k,l,h⟩:=ae h;try refine ZF c ?_
  refine aw (sh:=(fun v=>⟨[(1,.pt 1 0 0),(3,.i d),(41,.b v)],[(1,.var (.agg [.lst .o 1 (a.Nodes.map AV.z),.lst .o 4 (a.Fibers.map (ai .o))]))]⟩)) (s:=k) ?_ ?_
  ·replace h:=l;obtain⟨t,m,h⟩:=ae h;obtain⟨u,p,h⟩:=ae h;have f:=ZA c (aM m);refine ZF f ?_;refine ZSG f (w_ey _ p) ?_;obtain⟨g,h⟩|⟨g,h⟩:=aq h
   ·cases h;exact ZL (ZA f g) trivial
   ·obtain⟨w,q,h⟩:=ae h;have f:=ZA f g;refine ZF f ?_;refine ZSG f (w_ez _ _ q) ?_;cases h;exact ZL f trivial
  ·simp only[ZC,Jc];obtain⟨j,h⟩|⟨j,h⟩:=aq h
   ·cases h;exact ZL (ZA c j) @V10.eq_1
   ·cases h;exact ZL (ZA c j) e
 ·cases h;exact ZL c e
def KZ(a:ah)(v:Int):St:=⟨[(1,.pt 1 0 0),(4,.i v)],[(1,.var (.agg [.lst .o 1 (a.Nodes.map AV.z),.lst .o 4 (a.Fibers.map (ai .o))]))]⟩
theorem w_cl(c:ah)(g:Int)(o:Int⊕(Unit⊕Bool))(h:Be c g=some o):AWP (OkS Tryz.prog) xe (qL [1,4] [1] (KZ c) (qS (qX 2 [] [] (bR)) (qR V10 (fun r=>.b r))) o) (KZ c g):=by
 have e:=ZA @KZ.eq_1 @bR.eq_1;unfold Be at h;simp only[ZC,KZ,xe];obtain⟨a,h⟩|⟨a,h⟩:=aq h
 ·obtain⟨l,m,h⟩:=ae h;try refine ZF a ?_
  refine aw (sh:=(fun v=>⟨[(1,.pt 1 0 0),(4,.i g),(77,.b v)],[(1,.var (.agg [.lst .o 1 (c.Nodes.map AV.z),.lst .o 4 (c.Fibers.map (ai .o))]))]⟩)) (s:=l) ?_ ?_
  ·replace h:=m;obtain⟨w,p,h⟩:=ae h;obtain⟨x,q,h⟩:=ae h;have f:=ZA a (aM p);refine ZF f ?_;refine ZSG f (w_gh _ _ q) ?_;obtain⟨d,h⟩|⟨d,h⟩:=aq h
   ·cases h;exact ZL (ZA f d) trivial
   ·obtain⟨j,h⟩|⟨j,h⟩:=aq h
    ·obtain⟨y,t,h⟩:=ae h;obtain⟨a1,u,h⟩:=ae h;have f:=ZA f (ZA d (ZA j (aM t)));refine ZF f ?_;refine ZSG f (w_dk _ _ u) ?_;cases h;exact ZL f trivial
    ·cases h;exact ZL (ZA f (ZA d j)) trivial
  ·simp only[ZC,Gx];obtain⟨k,h⟩|⟨k,h⟩:=aq h
   ·cases h;exact ZL (ZA a k) @V10.eq_1
   ·cases h;exact ZL (ZA a k) e
 ·cases h;exact ZL a e
theorem VI(a:ah){r:Bool}(h:xV a=some r):Ok Tryz.prog 131 [.agg [.lst .o 1 (a.Nodes.map AV.z),.lst .o 4 (a.Fibers.map (ai .o))]] (.b r):=by
 refine aA bd m131 rfl ?_;unfold xV at h;simp only[ZC,A131,V10,aJ];obtain⟨g,i,h⟩:=ae h;try refine ZF trivial ?_
 refine aw (sh:=(fun v=>⟨[(1,.pt 1 0 0),(15,.b v)],[(1,.var (.agg [.lst .o 1 (a.Nodes.map AV.z),.lst .o 4 (a.Fibers.map (ai .o))]))]⟩)) (s:=g) ?_ ?_
 ·replace h:=i;obtain⟨u,j,h⟩:=ae h;refine ZF trivial ?_;refine ZSG trivial (w_c _ _ _ j) ?_;obtain⟨d,h⟩|⟨d,h⟩:=aq h
  ·cases h;exact ZL d trivial
  ·cases h;exact ZL d trivial
 ·simp only[ZC,MJ];obtain⟨c,h⟩|⟨c,h⟩:=aq h
  ·cases h;exact ZL c @V10.eq_1
  ·obtain⟨k,l,h⟩:=ae h;try refine ZF c ?_
   refine bo (o:=k) (bu cJ (aC (w_g a) l ?_)) (fun w hv=>?_) (fun x hv e τ hne hq=>?_)
   ·exact ZK (ZA @S_g.eq_1 @kK.eq_1)
   ·subst hv;simp only[] at h;simp only[ZC,kK,KR];obtain⟨m,p,h⟩:=ae h;try refine ZF c ?_
    refine bo (o:=m) (bu cJ (aC (w_cl a) p ?_)) (fun y hv=>?_) (fun a1 hv e τ hne hq=>?_)
    ·exact ZK (ZA @KZ.eq_1 @bR.eq_1)
    ·subst hv;simp only[] at h;simp only[ZC,bR,Fa];cases h;exact ZL c @V10.eq_1
    ·subst hv;simp only[] at h;obtain⟨rfl,q⟩:=hq;cases h;exact q
   ·subst hv;simp only[] at h;obtain⟨rfl,t⟩:=hq;cases h;exact t
theorem La(b:ah)(g:Int)(j:Int){r:Int}(h:sm b g j=some r):Ok Tryz.prog 233 [.agg [.lst .o 1 (b.Nodes.map AV.z),.lst .o 4 (b.Fibers.map (ai .o))],.i g,.i j] (.i r):=by
 refine aA bd m233 rfl ?_;unfold sm at h;simp only[ZC,A233,bJ,aJ];obtain⟨k,c,h⟩:=ae h;obtain⟨a,h⟩|⟨a,h⟩:=aq h
 ·cases h;exact ZL (ZA (aM c) a) @bJ.eq_1
 ·obtain⟨d,h⟩|⟨d,h⟩:=aq h
  ·cases h;exact ZL (ZA (aM c) (ZA a d)) @bJ.eq_1
  ·cases h;exact ZL (ZA (aM c) (ZA a d)) @bJ.eq_1
def JR(a:List Int)(b:Int)(v:Int):St:=⟨[(0,.lst .o 1 (a.map AV.i)),(1,.i b),(5,.i v)],[]⟩
theorem w_by(c:List Int)(d:Int)(i:Int)(o:Int⊕(Unit⊕Bool))(h:Bb c d i=some o):AWP (OkS Tryz.prog) MC (qL [0,1,5] [] (JR c d) (qS (qX 0 [] [] (bR)) (qR az (fun r=>.b r))) o) (JR c d i):=by
 have e:=ZA @JR.eq_1 @bR.eq_1;unfold Bb at h;simp only[ZC,JR,MC];obtain⟨a,h⟩|⟨a,h⟩:=aq h
 ·obtain⟨k,j,h⟩:=ae h;obtain⟨g,h⟩|⟨g,h⟩:=aq h
  ·cases h;exact ZL (ZA a (ZA (aM j) g)) @az.eq_1
  ·cases h;exact ZL (ZA a (ZA (aM j) g)) e
 ·cases h;exact ZL a e
theorem w_m(a:List Int)(c:Int){r:Bool}(h:M_m a c=some r):Ok Tryz.prog 74 [.lst .o 1 (a.map AV.i),.i c] (.b r):=by
 refine aA bd m74 rfl ?_;unfold M_m at h;simp only[ZC,A74,az,aJ];obtain⟨d,g,h⟩:=ae h;try refine ZF trivial ?_
 refine bo (o:=d) (bu cJ (aC (w_by a c) g ?_)) (fun k hv=>?_) (fun l hv e τ hne hq=>?_)
 ·exact ZK (ZA @JR.eq_1 @bR.eq_1)
 ·subst hv;simp only[] at h;simp only[ZC,bR,Sc];cases h;exact ZL trivial @az.eq_1
 ·subst hv;simp only[] at h;obtain⟨rfl,j⟩:=hq;cases h;exact j
def S_f(a:ah)(b:ar)(v:Int×List Int):St:=⟨[(2,.pt 2 0 0),(3,.pt 3 0 0),(6,.sl 6 0 v.2.length),(7,.i v.1)],[(2,.var (.agg [.lst .o 1 (a.Nodes.map AV.z),.lst .o 4 (a.Fibers.map (ai .o))])),(3,.var (.agg [.i b.Start,.lst .o 1 (b.Fibers.map AV.i)])),(6,.arr 1 (v.2.map AV.i))]⟩
def lw(v:List Int):St:=⟨[(6,.sl 6 0 v.length)],[(6,.arr 1 (v.map AV.i))]⟩
theorem w_f(c:ah)(d:ar)(a:Int×List Int)(o:(Int×List Int)⊕((List Int)⊕(List Int×Bool)))(h:M_f c d a=some o):AWP (OkS Tryz.prog) xT (qL [2,3,6,7] [2,3,6] (S_f c d) (qS (qX 0 [6] [6] (lw)) (qR kP (fun r=>.tup [.lst .u 1 (r.1.map AV.i),.b r.2]))) o) (S_f c d a):=by
 unfold M_f at h;simp only[ZC,S_f,xT];obtain⟨j,h⟩|⟨j,h⟩:=aq h
 ·obtain⟨s1,b1,h⟩:=ae h;obtain⟨t1,c1,h⟩:=ae h;have f:=ZA j (aM b1);refine ZF f ?_;refine ZSG f (w_c _ _ _ c1) ?_;obtain⟨k,h⟩|⟨k,h⟩:=aq h
  ·cases h;exact ZL (ZA f k) @kP.eq_1
  ·obtain⟨u1,d1,h⟩:=ae h;obtain⟨v1,g1,h⟩:=ae h;obtain⟨t,i1,h⟩:=ae h;have f:=ZA f (ZA k (ZA (aI d1) g1));refine ZF f ?_;refine ZSG f (La _ _ _ i1) ?_;obtain⟨j1,k1,h⟩:=ae h;try refine ZF f ?_
   refine aw (sh:=(fun v=>⟨[(2,.pt 2 0 0),(3,.pt 3 0 0),(6,.sl 6 0 a.2.length),(7,.i a.1),(8,.i t),(65,.b v)],[(2,.var (.agg [.lst .o 1 (c.Nodes.map AV.z),.lst .o 4 (c.Fibers.map (ai .o))])),(3,.var (.agg [.i d.Start,.lst .o 1 (d.Fibers.map AV.i)])),(6,.arr 1 (a.2.map AV.i))]⟩)) (s:=j1) ?_ ?_
   ·replace h:=k1;obtain⟨l,h⟩|⟨l,h⟩:=aq h
    ·cases h;exact ZL (ZA f l) trivial
    ·obtain⟨w1,l1,h⟩:=ae h;have f:=ZA f l;refine ZF f ?_;refine ZSG f (w_m _ _ l1) ?_;cases h;exact ZL f trivial
   ·simp only[ZC,KQ];obtain⟨m,h⟩|⟨m,h⟩:=aq h
    ·cases h;exact ZL (ZA f m) @kP.eq_1
    ·obtain⟨p,g,h⟩:=aO h;have m1:Row.arr 1 [(.i t:AV)]=Row.arr 1 (p.map AV.i):=by rw[<-g];rfl
     have w:p.length=1:=by rw[<-g];rfl
     obtain⟨x1,p1,h⟩:=ae h;have x:=aI p1;obtain⟨y,q,h⟩:=aO h;have q1:a.2.map AV.i++p.map AV.i=y.map AV.i:=by rw[<-q,List.map_append]
     have a1:a.2.length+1=y.length:=by simp[<-g,<-q]<;>omega
     rw[a1] at x;cases h;exact ZL (ZA f (ZA m (ZA m1 (ZA w (ZA x (ZA q1 a1)))))) (ZA @S_f.eq_1 (ZA @lw.eq_1 (ZA g.symm (ZA q.symm w))))
 ·cases h;exact ZL j (ZA @S_f.eq_1 @lw.eq_1)
theorem w_dt(c:ah)(a:ar){r:List Int×Bool}(h:Bc c a=some r):Ok Tryz.prog 227 [.agg [.lst .o 1 (c.Nodes.map AV.z),.lst .o 4 (c.Fibers.map (ai .o))],.agg [.i a.Start,.lst .o 1 (a.Fibers.map AV.i)]] (.tup [.lst .u 1 (r.1.map AV.i),.b r.2]):=by
 refine aA bd m227 rfl ?_;unfold Bc at h;simp only[ZC,A227,kP,aJ];obtain⟨g,j,h⟩:=aO h;have m:Row.arr 1 [(.i a.Start:AV)]=Row.arr 1 (g.map AV.i):=by rw[<-j];rfl
 have d:g.length=1:=by rw[<-j];rfl
 obtain⟨p,q,h⟩:=ae h;have f:=ZA m d;try refine ZF f ?_
 refine aw (sh:=(fun v=>⟨[(2,.pt 2 0 0),(3,.pt 3 0 0),(6,.sl 6 0 g.length),(25,.b v)],[(2,.var (.agg [.lst .o 1 (c.Nodes.map AV.z),.lst .o 4 (c.Fibers.map (ai .o))])),(3,.var (.agg [.i a.Start,.lst .o 1 (a.Fibers.map AV.i)])),(6,.arr 1 (g.map AV.i))]⟩)) (s:=p) ?_ ?_
 ·replace h:=q;obtain⟨a1,t,h⟩:=ae h;refine ZF f ?_;refine ZSG f (w_c _ _ _ t) ?_;obtain⟨k,h⟩|⟨k,h⟩:=aq h
  ·cases h;exact ZL (ZA f k) (ZA j.symm d)
  ·cases h;exact ZL (ZA f k) (ZA j.symm d)
 ·simp only[ZC,GP];obtain⟨l,h⟩|⟨l,h⟩:=aq h
  ·cases h;exact ZL (ZA f l) (ZA @kP.eq_1 d)
  ·obtain⟨w,x,h⟩:=ae h;have f:=ZA f l;try refine ZF f ?_
   refine bo (o:=w) (bu cJ (aC (w_f c a) x ?_)) (fun b1 hv=>?_) (fun c1 hv e τ hne hq=>?_)
   ·exact ZK (ZA @S_f.eq_1 (ZA @lw.eq_1 d))
   ·subst hv;simp only[] at h;simp only[ZC,lw,FS];cases h;exact ZL f (ZA @kP.eq_1 d)
   ·subst hv;simp only[] at h;obtain⟨rfl,y⟩:=hq;cases h;exact y
theorem w_do(c:ah)(d:ar){r:Bool}(h:wU c d=some r):Ok Tryz.prog 198 [.agg [.lst .o 1 (c.Nodes.map AV.z),.lst .o 4 (c.Fibers.map (ai .o))],.agg [.i d.Start,.lst .o 1 (d.Fibers.map AV.i)]] (.b r):=by
 refine aA bd m198 rfl ?_;unfold wU at h;simp only[ZC,A198,az,aJ];obtain⟨k,g,h⟩:=ae h;refine ZF trivial ?_;refine ZSG trivial (VI _ g) ?_;obtain⟨a,h⟩|⟨a,h⟩:=aq h
 ·cases h;exact ZL a @az.eq_1
 ·obtain⟨l,j,h⟩:=ae h;refine ZF a ?_;refine ZUG a (w_dt _ _ j) ?_;cases h;exact ZL a @az.eq_1
theorem w_ef(c:aH){r:Bool}(h:AR c=some r):Ok Tryz.prog 199 [.agg [.i c.First,.i c.Count]] (.b r):=by
 refine aA bd m199 rfl ?_;unfold AR at h;simp only[ZC,A199,V10,aJ];obtain⟨j,d,h⟩:=ae h;refine ZF trivial ?_;refine ZSG trivial (w_c _ _ _ d) ?_;obtain⟨a,h⟩|⟨a,h⟩:=aq h
 ·obtain⟨k,g,h⟩:=ae h;refine ZF a ?_;refine ZSG a (w_c _ _ _ g) ?_;cases h;exact ZL a @V10.eq_1
 ·cases h;exact ZL a @V10.eq_1
theorem w_he(a:ah)(b:ar){r:List Int}(h:Qu a b=some r):Ok Tryz.prog 228 [.agg [.lst .o 1 (a.Nodes.map AV.z),.lst .o 4 (a.Fibers.map (ai .o))],.agg [.i b.Start,.lst .o 1 (b.Fibers.map AV.i)]] (.lst .u 1 (r.map AV.i)):=by
 refine aA bd m228 rfl ?_;unfold Qu at h;simp only[ZC,A228,az,aJ];obtain⟨d,c,h⟩:=ae h;refine ZF trivial ?_;refine ZUG trivial (w_dt _ _ c) ?_;cases h;exact ZL trivial @az.eq_1
theorem w_dw(a:ah)(b:ar){r:Int}(h:Bm a b=some r):Ok Tryz.prog 200 [.agg [.lst .o 1 (a.Nodes.map AV.z),.lst .o 4 (a.Fibers.map (ai .o))],.agg [.i b.Start,.lst .o 1 (b.Fibers.map AV.i)]] (.i r):=by
 refine aA bd m200 rfl ?_;unfold Bm at h;simp only[ZC,A200,az,aJ];obtain⟨j,c,h⟩:=ae h;refine ZF trivial ?_;refine ZUG trivial (w_he _ _ c) ?_;obtain⟨k,d,h⟩:=ae h;obtain⟨l,g,h⟩:=ae h;cases h;exact ZL (ZA (aI d) g) @az.eq_1
def S_d(a:ah)(b:Int)(v:Int×List Int):St:=⟨[(1,.i b),(2,.pt 2 0 0),(5,.sl 5 0 v.2.length),(6,.i v.1)],[(2,.var (.agg [.lst .o 1 (a.Nodes.map AV.z),.lst .o 4 (a.Fibers.map (ai .o))])),(5,.arr 1 (v.2.map AV.i))]⟩
def jY(v:List Int):St:=⟨[(5,.sl 5 0 v.length)],[(5,.arr 1 (v.map AV.i))]⟩
theorem w_d(d:ah)(g:Int)(a:Int×List Int)(o:(Int×List Int)⊕(List Int))(h:M_d d g a=some o):AWP (OkS Tryz.prog) xR (qL [1,2,5,6] [2,5] (S_d d g) (qX 0 [5] [5] (jY)) o) (S_d d g a):=by
 have e:=ZA @S_d.eq_1 @jY.eq_1;unfold M_d at h;simp only[ZC,S_d,xR];obtain⟨b,h⟩|⟨b,h⟩:=aq h
 ·obtain⟨y,m,h⟩:=ae h;obtain⟨z,p,h⟩:=ae h;obtain⟨j,h⟩|⟨j,h⟩:=aq h
  ·obtain⟨k,c,h⟩:=aO h;have v:Row.arr 1 [(.i a.1:AV)]=Row.arr 1 (k.map AV.i):=by rw[<-c];rfl
   have q:k.length=1:=by rw[<-c];rfl
   obtain⟨a1,w,h⟩:=ae h;have s:=aI w;obtain⟨t,l,h⟩:=aO h;have x:a.2.map AV.i++k.map AV.i=t.map AV.i:=by rw[<-l,List.map_append]
   have u:a.2.length+1=t.length:=by simp[<-c,<-l]<;>omega
   rw[u] at s;cases h;exact ZL (ZA b (ZA (aM m) (ZA (aM p) (ZA j (ZA v (ZA q (ZA s (ZA x u)))))))) (ZA e (ZA c.symm (ZA l.symm q)))
  ·cases h;exact ZL (ZA b (ZA (aM m) (ZA (aM p) j))) e
 ·cases h;exact ZL b e
theorem w_cu(a:ah)(b:Int){r:List Int}(h:pO a b=some r):Ok Tryz.prog 192 [.agg [.lst .o 1 (a.Nodes.map AV.z),.lst .o 4 (a.Fibers.map (ai .o))],.i b] (.lst .u 1 (r.map AV.i)):=by
 refine aA bd m192 rfl ?_;unfold pO at h;simp only[ZC,A192,az,aJ];obtain⟨q,j,h⟩:=ae h;obtain⟨g,h⟩|⟨g,h⟩:=aq h
 ·obtain⟨c,d,h⟩:=aO h;have l:Row.arr 1 [(.i b:AV)]=Row.arr 1 (c.map AV.i):=by rw[<-d];rfl
  have k:c.length=1:=by rw[<-d];rfl
  have m:sub (c.map AV.i) 0 1=c.map AV.i:=yp _ (by simp[<-d]);cases h;exact ZL (ZA (aM j) (ZA g (ZA l (ZA k m)))) (ZA @az.eq_1 (ZA d.symm k))
 ·obtain⟨s,p,h⟩:=ae h;have f:=ZA (aM j) g;try refine ZF f ?_
  refine aw (aY (aC (w_d a b) p ?_)) ?_
  ·exact ZK (ZA @S_d.eq_1 @jY.eq_1)
  ·simp only[ZC,jY,Es];cases h;exact ZL f @az.eq_1
def Ey(a:ah)(b:ar)(c:ar)(g:Int)(d:List Int)(v:Int):St:=⟨[(3,.pt 3 0 0),(4,.pt 4 0 0),(5,.pt 5 0 0),(7,.i g),(8,.sl 8 0 d.length),(9,.i v)],[(3,.var (.agg [.lst .o 1 (a.Nodes.map AV.z),.lst .o 4 (a.Fibers.map (ai .o))])),(4,.var (.agg [.i b.Start,.lst .o 1 (b.Fibers.map AV.i)])),(5,.var (.agg [.i c.Start,.lst .o 1 (c.Fibers.map AV.i)])),(8,.arr 1 (d.map AV.i))]⟩
def yi(a:ah)(b:ar)(c:ar)(d:Int)(v:Unit):St:=⟨[(3,.pt 3 0 0),(4,.pt 4 0 0),(5,.pt 5 0 0),(7,.i d)],[(3,.var (.agg [.lst .o 1 (a.Nodes.map AV.z),.lst .o 4 (a.Fibers.map (ai .o))])),(4,.var (.agg [.i b.Start,.lst .o 1 (b.Fibers.map AV.i)])),(5,.var (.agg [.i c.Start,.lst .o 1 (c.Fibers.map AV.i)]))]⟩
theorem w_ac(c:ah)(d:ar)(a:ar)(g:Int)(i:List Int)(l:Int)(o:Int⊕(Unit⊕Bool))(h:Bk a i l=some o):AWP (OkS Tryz.prog) xy (qL [3,4,5,7,8,9] [3,4,5,8] (Ey c d a g i) (qS (qX 2 [3,4,5,7] [3,4,5] (yi c d a g)) (qR bJ (fun r=>.b r))) o) (Ey c d a g i l):=by
 have e:=ZA @Ey.eq_1 @yi.eq_1;unfold Bk at h;simp only[ZC,Ey,xy];obtain⟨j,h⟩|⟨j,h⟩:=aq h
 ·obtain⟨q,m,h⟩:=ae h;obtain⟨s,p,h⟩:=ae h;have f:=ZA j (aM m);refine ZF f ?_;refine ZSG f (w_m _ _ p) ?_;obtain⟨k,h⟩|⟨k,h⟩:=aq h
  ·cases h;exact ZL (ZA f k) @bJ.eq_1
  ·cases h;exact ZL (ZA f k) e
 ·cases h;exact ZL j e
def JC(a:ah)(b:ar)(c:ar)(v:Int):St:=⟨[(3,.pt 3 0 0),(4,.pt 4 0 0),(5,.pt 5 0 0),(7,.i v)],[(3,.var (.agg [.lst .o 1 (a.Nodes.map AV.z),.lst .o 4 (a.Fibers.map (ai .o))])),(4,.var (.agg [.i b.Start,.lst .o 1 (b.Fibers.map AV.i)])),(5,.var (.agg [.i c.Start,.lst .o 1 (c.Fibers.map AV.i)]))]⟩
theorem w_cm(a:ah)(c:ar)(d:ar)(g:Int)(o:Int⊕(Unit⊕Bool))(h:Ce a c d g=some o):AWP (OkS Tryz.prog) xp (qL [3,4,5,7] [3,4,5] (JC a c d) (qS (qX 0 [] [] (bR)) (qR bJ (fun r=>.b r))) o) (JC a c d g):=by
 have e:=ZA @JC.eq_1 @bR.eq_1;unfold Ce at h;simp only[ZC,JC,xp];obtain⟨j,h⟩|⟨j,h⟩:=aq h
 ·obtain⟨u,w,h⟩:=ae h;try refine ZF j ?_
  refine bo (sh:=(fun v=>⟨[(3,.pt 3 0 0),(4,.pt 4 0 0),(5,.pt 5 0 0),(7,.i g)],[(3,.var (.agg [.lst .o 1 (a.Nodes.map AV.z),.lst .o 4 (a.Fibers.map (ai .o))])),(4,.var (.agg [.i c.Start,.lst .o 1 (c.Fibers.map AV.i)])),(5,.var (.agg [.i d.Start,.lst .o 1 (d.Fibers.map AV.i)]))]⟩)) (q:=(qR bJ (fun r=>.b r))) (o:=u) ?_ (fun c1 hv=>?_) (fun d1 hv e τ hne hq=>?_)
  ·replace h:=w;obtain⟨g1,x,h⟩:=ae h;obtain⟨k,y,h⟩:=ae h;have f:=ZA j (aM x);refine ZF f ?_;refine ZUG f (w_cu _ _ y) ?_;obtain⟨l,m,h⟩:=ae h;try refine ZF f ?_
   first|refine jP (o:=l) (bu cJ (aC (w_ac a c d g k) m ?_)) (fun a1 hv τ p=>?_) (fun b1 hv e τ hne hq=>?_)|refine pA (o:=l) cJ (aC (w_ac a c d g k) m ?_) (fun a1 hv τ p=>?_) (fun b1 hv e τ hne hq=>?_)
   ·exact ZK (ZA @Ey.eq_1 @yi.eq_1)
   ·subst hv;simp only[] at h;cases h;try refine ZF trivial ?_
    refine⟨rfl,Shp.sub p (by decide) (by decide) ?_⟩;exact ZK @yi.eq_1
   ·subst hv;simp only[] at h;obtain⟨rfl,s⟩:=hq;cases h;try refine ZF trivial ?_
    first|exact⟨by simp,s⟩|exact⟨by simp,rfl,s⟩
  ·subst hv;simp only[] at h;simp only[ZC,Mr];cases h;exact ZL j e
  ·subst hv;simp only[] at h;obtain⟨rfl,t⟩:=hq;cases h;try refine ZF trivial ?_
   first|exact⟨by simp,t⟩|exact⟨by simp,rfl,t⟩
 ·cases h;exact ZL j e
theorem NU(a:ah)(c:ar)(d:ar){r:Bool}(h:sF a c d=some r):Ok Tryz.prog 185 [.agg [.lst .o 1 (a.Nodes.map AV.z),.lst .o 4 (a.Fibers.map (ai .o))],.agg [.i c.Start,.lst .o 1 (c.Fibers.map AV.i)],.agg [.i d.Start,.lst .o 1 (d.Fibers.map AV.i)]] (.b r):=by
 refine aA bd m185 rfl ?_;unfold sF at h;simp only[ZC,A185,bJ,aJ];obtain⟨g,j,h⟩:=ae h;try refine ZF trivial ?_
 refine bo (o:=g) (bu cJ (aC (w_cm a c d) j ?_)) (fun l hv=>?_) (fun m hv e τ hne hq=>?_)
 ·exact ZK (ZA @JC.eq_1 @bR.eq_1)
 ·subst hv;simp only[] at h;simp only[ZC,bR,Kw];cases h;exact ZL trivial @bJ.eq_1
 ·subst hv;simp only[] at h;obtain⟨rfl,k⟩:=hq;cases h;exact k
theorem w_gc(d:ah)(a:af){r:Bool}(h:Eo d a=some r):Ok Tryz.prog 132 [.agg [.lst .o 1 (d.Nodes.map AV.z),.lst .o 4 (d.Fibers.map (ai .o))],.agg [.i a.Id,.i a.Class,.i a.Work.Start,.lst .o 1 (a.Work.Fibers.map AV.i),.i a.WorkBlock.First,.i a.WorkBlock.Count,.i a.Spare.Start,.lst .o 1 (a.Spare.Fibers.map AV.i),.i a.SpareBlock.First,.i a.SpareBlock.Count]] (.b r):=by
 have e:=@az.eq_1;refine aA bd m132 rfl ?_;unfold Eo at h;simp only[ZC,A132,az,aJ];obtain⟨x,y,h⟩:=ae h;try refine ZF trivial ?_
 refine aw (sh:=(fun v=>⟨[(2,.pt 2 0 0),(3,.pt 3 0 0),(27,.b v)],[(2,.var (.agg [.lst .o 1 (d.Nodes.map AV.z),.lst .o 4 (d.Fibers.map (ai .o))])),(3,.var (.agg [.i a.Id,.i a.Class,.i a.Work.Start,.lst .o 1 (a.Work.Fibers.map AV.i),.i a.WorkBlock.First,.i a.WorkBlock.Count,.i a.Spare.Start,.lst .o 1 (a.Spare.Fibers.map AV.i),.i a.SpareBlock.First,.i a.SpareBlock.Count]))]⟩)) (s:=x) ?_ ?_
 ·replace h:=y;obtain⟨q1,a1,h⟩:=ae h;refine ZF trivial ?_;refine ZSG trivial (w_c _ _ _ a1) ?_;obtain⟨c,h⟩|⟨c,h⟩:=aq h
  ·cases h;exact ZL c trivial
  ·obtain⟨s1,b1,h⟩:=ae h;refine ZF c ?_;refine ZSG c (w_c _ _ _ b1) ?_;obtain⟨l,h⟩|⟨l,h⟩:=aq h
   ·cases h;exact ZL (ZA c l) trivial
   ·obtain⟨t1,c1,h⟩:=ae h;have f:=ZA c l;refine ZF f ?_;refine ZSG f (w_do _ _ c1) ?_;obtain⟨m,h⟩|⟨m,h⟩:=aq h
    ·cases h;exact ZL (ZA f m) trivial
    ·obtain⟨u1,d1,h⟩:=ae h;have f:=ZA f m;refine ZF f ?_;refine ZSG f (w_ef _ d1) ?_;cases h;exact ZL f trivial
 ·simp only[ZC,IA];obtain⟨g,h⟩|⟨g,h⟩:=aq h
  ·cases h;exact ZL g e
  ·obtain⟨p,h⟩|⟨p,h⟩:=aq h
   ·obtain⟨g1,i1,h⟩:=ae h;have f:=ZA g p;try refine ZF f ?_
    refine aw (sh:=(fun v=>⟨[(4,.b v)],[]⟩)) (s:=g1) ?_ ?_
    ·replace h:=i1;obtain⟨j,h⟩|⟨j,h⟩:=aq h
     ·obtain⟨q,h⟩|⟨q,h⟩:=aq h
      ·cases h;exact ZL (ZA f (ZA j q)) trivial
      ·cases h;exact ZL (ZA f (ZA j q)) trivial
     ·cases h;exact ZL (ZA f j) trivial
    ·simp only[ZC,Kj];cases h;exact ZL f e
   ·obtain⟨v1,j1,h⟩:=ae h;have f:=ZA g p;refine ZF f ?_;refine ZSG f (w_do _ _ j1) ?_;obtain⟨t,h⟩|⟨t,h⟩:=aq h
    ·obtain⟨w1,k1,h⟩:=ae h;have f:=ZA f t;refine ZF f ?_;refine ZSG f (w_ef _ k1) ?_;obtain⟨k,h⟩|⟨k,h⟩:=aq h
     ·obtain⟨u,h⟩|⟨u,h⟩:=aq h
      ·obtain⟨x1,l1,h⟩:=ae h;have f:=ZA f (ZA k u);refine ZF f ?_;refine ZSG f (w_dw _ _ l1) ?_;obtain⟨y1,m1,h⟩:=ae h;refine ZF f ?_;refine ZSG f (w_dw _ _ m1) ?_;obtain⟨w,h⟩|⟨w,h⟩:=aq h
       ·obtain⟨z1,p1,h⟩:=ae h;have f:=ZA f w;refine ZF f ?_;refine ZSG f (NU _ _ _ p1) ?_;cases h;exact ZL f e
       ·cases h;exact ZL (ZA f w) e
      ·cases h;exact ZL (ZA f (ZA k u)) e
     ·cases h;exact ZL (ZA f k) e
    ·cases h;exact ZL (ZA f t) e
def Jf(a:ar)(b:List Int)(v:Int):St:=⟨[(1,.lst .o 1 (b.map AV.i)),(2,.pt 2 0 0),(5,.i v)],[(2,.var (.agg [.i a.Start,.lst .o 1 (a.Fibers.map AV.i)]))]⟩
theorem w_cn(a:ar)(c:List Int)(i:Int)(o:Int⊕(Unit⊕Bool))(h:DF a c i=some o):AWP (OkS Tryz.prog) xD (qL [1,2,5] [2] (Jf a c) (qS (qX 0 [] [] (bR)) (qR az (fun r=>.b r))) o) (Jf a c i):=by
 have e:=ZA @Jf.eq_1 @bR.eq_1;unfold DF at h;simp only[ZC,Jf,xD];obtain⟨d,h⟩|⟨d,h⟩:=aq h
 ·obtain⟨l,j,h⟩:=ae h;obtain⟨m,k,h⟩:=ae h;have f:=ZA d (aM j);refine ZF f ?_;refine ZSG f (w_m _ _ k) ?_;obtain⟨g,h⟩|⟨g,h⟩:=aq h
  ·cases h;exact ZL (ZA f g) @az.eq_1
  ·cases h;exact ZL (ZA f g) e
 ·cases h;exact ZL d e
theorem Uj(a:ar)(c:List Int){r:Bool}(h:wg a c=some r):Ok Tryz.prog 144 [.agg [.i a.Start,.lst .o 1 (a.Fibers.map AV.i)],.lst .o 1 (c.map AV.i)] (.b r):=by
 refine aA bd m144 rfl ?_;unfold wg at h;simp only[ZC,A144,az,aJ];obtain⟨d,g,h⟩:=ae h;try refine ZF trivial ?_
 refine bo (o:=d) (bu cJ (aC (w_cn a c) g ?_)) (fun k hv=>?_) (fun l hv e τ hne hq=>?_)
 ·exact ZK (ZA @Jf.eq_1 @bR.eq_1)
 ·subst hv;simp only[] at h;simp only[ZC,bR,Lm];cases h;exact ZL trivial @az.eq_1
 ·subst hv;simp only[] at h;obtain⟨rfl,j⟩:=hq;cases h;exact j
theorem Pg(a:aH){r:Int}(h:vl a=some r):Ok Tryz.prog 75 [.agg [.i a.First,.i a.Count]] (.i r):=by
 refine aA bd m75 rfl ?_;unfold vl at h;simp only[ZC,A75,V10,aJ];obtain⟨d,b,h⟩:=ae h;obtain⟨g,c,h⟩:=ae h;cases h;exact ZL (ZA (aI b) (aI c)) @V10.eq_1
theorem KE(d:ar)(g:aH)(j:ar)(k:aH){r:Bool}(h:sN d g j k=some r):Ok Tryz.prog 145 [.agg [.i d.Start,.lst .o 1 (d.Fibers.map AV.i)],.agg [.i g.First,.i g.Count],.agg [.i j.Start,.lst .o 1 (j.Fibers.map AV.i)],.agg [.i k.First,.i k.Count]] (.b r):=by
 have e:=@CY.eq_1;refine aA bd m145 rfl ?_;unfold sN at h;simp only[ZC,A145,CY,aJ];obtain⟨s,m,h⟩:=ae h;refine ZF trivial ?_;refine ZSG trivial (Uj _ _ m) ?_;obtain⟨a,h⟩|⟨a,h⟩:=aq h
 ·obtain⟨c,h⟩|⟨c,h⟩:=aq h
  ·obtain⟨l,h⟩|⟨l,h⟩:=aq h
   ·obtain⟨t,p,h⟩:=ae h;have f:=ZA a (ZA c l);refine ZF f ?_;refine ZSG f (Pg _ p) ?_;obtain⟨u,q,h⟩:=ae h;refine ZF f ?_;refine ZSG f (Pg _ q) ?_;cases h;exact ZL f e
   ·cases h;exact ZL (ZA a (ZA c l)) e
  ·cases h;exact ZL (ZA a c) e
 ·cases h;exact ZL a e
theorem w_di(j:ah)(a:af)(c:af){r:Bool}(h:ve j a c=some r):Ok Tryz.prog 133 [.agg [.lst .o 1 (j.Nodes.map AV.z),.lst .o 4 (j.Fibers.map (ai .o))],.agg [.i a.Id,.i a.Class,.i a.Work.Start,.lst .o 1 (a.Work.Fibers.map AV.i),.i a.WorkBlock.First,.i a.WorkBlock.Count,.i a.Spare.Start,.lst .o 1 (a.Spare.Fibers.map AV.i),.i a.SpareBlock.First,.i a.SpareBlock.Count],.agg [.i c.Id,.i c.Class,.i c.Work.Start,.lst .o 1 (c.Work.Fibers.map AV.i),.i c.WorkBlock.First,.i c.WorkBlock.Count,.i c.Spare.Start,.lst .o 1 (c.Spare.Fibers.map AV.i),.i c.SpareBlock.First,.i c.SpareBlock.Count]] (.b r):=by
 refine aA bd m133 rfl ?_;unfold ve at h;simp only[ZC,A133,bJ,aJ];obtain⟨q,t,h⟩:=ae h;try refine ZF trivial ?_
 refine aw (sh:=(fun v=>⟨[(3,.pt 3 0 0),(4,.pt 4 0 0),(5,.pt 5 0 0),(37,.b v)],[(3,.var (.agg [.lst .o 1 (j.Nodes.map AV.z),.lst .o 4 (j.Fibers.map (ai .o))])),(4,.var (.agg [.i a.Id,.i a.Class,.i a.Work.Start,.lst .o 1 (a.Work.Fibers.map AV.i),.i a.WorkBlock.First,.i a.WorkBlock.Count,.i a.Spare.Start,.lst .o 1 (a.Spare.Fibers.map AV.i),.i a.SpareBlock.First,.i a.SpareBlock.Count])),(5,.var (.agg [.i c.Id,.i c.Class,.i c.Work.Start,.lst .o 1 (c.Work.Fibers.map AV.i),.i c.WorkBlock.First,.i c.WorkBlock.Count,.i c.Spare.Start,.lst .o 1 (c.Spare.Fibers.map AV.i),.i c.SpareBlock.First,.i c.SpareBlock.Count]))]⟩)) (s:=q) ?_ ?_
 ·replace h:=t;obtain⟨d1,u,h⟩:=ae h;refine ZF trivial ?_;refine ZSG trivial (KE _ _ _ _ u) ?_;obtain⟨g,h⟩|⟨g,h⟩:=aq h
  ·cases h;exact ZL g trivial
  ·obtain⟨g1,w,h⟩:=ae h;refine ZF g ?_;refine ZSG g (KE _ _ _ _ w) ?_;obtain⟨l,h⟩|⟨l,h⟩:=aq h
   ·cases h;exact ZL (ZA g l) trivial
   ·obtain⟨i1,x,h⟩:=ae h;have f:=ZA g l;refine ZF f ?_;refine ZSG f (KE _ _ _ _ x) ?_;cases h;exact ZL f trivial
 ·simp only[ZC,GE];obtain⟨d,h⟩|⟨d,h⟩:=aq h
  ·cases h;exact ZL d @bJ.eq_1
  ·obtain⟨y,a1,h⟩:=ae h;try refine ZF d ?_
   refine aw (sh:=(fun v=>⟨[(4,.pt 4 0 0),(5,.pt 5 0 0),(53,.b v)],[(4,.var (.agg [.i a.Id,.i a.Class,.i a.Work.Start,.lst .o 1 (a.Work.Fibers.map AV.i),.i a.WorkBlock.First,.i a.WorkBlock.Count,.i a.Spare.Start,.lst .o 1 (a.Spare.Fibers.map AV.i),.i a.SpareBlock.First,.i a.SpareBlock.Count])),(5,.var (.agg [.i c.Id,.i c.Class,.i c.Work.Start,.lst .o 1 (c.Work.Fibers.map AV.i),.i c.WorkBlock.First,.i c.WorkBlock.Count,.i c.Spare.Start,.lst .o 1 (c.Spare.Fibers.map AV.i),.i c.SpareBlock.First,.i c.SpareBlock.Count]))]⟩)) (s:=y) ?_ ?_
   ·replace h:=a1;obtain⟨k,h⟩|⟨k,h⟩:=aq h
    ·obtain⟨m,h⟩|⟨m,h⟩:=aq h
     ·obtain⟨j1,b1,h⟩:=ae h;have f:=ZA d (ZA k m);refine ZF f ?_;refine ZSG f (NU _ _ _ b1) ?_;cases h;exact ZL f trivial
     ·cases h;exact ZL (ZA d (ZA k m)) trivial
    ·cases h;exact ZL (ZA d k) trivial
   ·simp only[ZC,Jl];obtain⟨p,h⟩|⟨p,h⟩:=aq h
    ·cases h;exact ZL (ZA d p) @bJ.eq_1
    ·obtain⟨k1,c1,h⟩:=ae h;have f:=ZA d p;refine ZF f ?_;refine ZSG f (KE _ _ _ _ c1) ?_;cases h;exact ZL f @bJ.eq_1
def S_q(a:ah)(b:List af)(c:Int)(v:Int):St:=⟨[(1,.lst .o 10 (b.map (aj .o))),(2,.pt 2 0 0),(5,.i c),(6,.i v)],[(2,.var (.agg [.lst .o 1 (a.Nodes.map AV.z),.lst .o 4 (a.Fibers.map (ai .o))]))]⟩
def QP(a:ah)(b:List af)(c:Int)(v:Unit):St:=⟨[(1,.lst .o 10 (b.map (aj .o))),(2,.pt 2 0 0),(5,.i c)],[(2,.var (.agg [.lst .o 1 (a.Nodes.map AV.z),.lst .o 4 (a.Fibers.map (ai .o))]))]⟩
theorem w_q(a:ah)(c:List af)(d:Int)(j:Int)(o:Int⊕(Unit⊕Bool))(h:M_q a c d j=some o):AWP (OkS Tryz.prog) MI (qL [1,2,5,6] [2] (S_q a c d) (qS (qX 2 [1,2,5] [2] (QP a c d)) (qR az (fun r=>.b r))) o) (S_q a c d j):=by
 have e:=ZA @S_q.eq_1 @QP.eq_1;unfold M_q at h;simp only[ZC,S_q,MI];obtain⟨g,h⟩|⟨g,h⟩:=aq h
 ·obtain⟨p,k,h⟩:=ae h;obtain⟨q,l,h⟩:=ae h;obtain⟨s,m,h⟩:=ae h;have f:=ZA g (ZA (aM k) (aM l));refine ZF f ?_;refine ZSG f (w_di _ _ _ m) ?_;obtain⟨i,h⟩|⟨i,h⟩:=aq h
  ·cases h;exact ZL (ZA f i) @az.eq_1
  ·cases h;exact ZL (ZA f i) e
 ·cases h;exact ZL g e
def FB(a:ah)(b:List af)(v:Int):St:=⟨[(1,.lst .o 10 (b.map (aj .o))),(2,.pt 2 0 0),(5,.i v)],[(2,.var (.agg [.lst .o 1 (a.Nodes.map AV.z),.lst .o 4 (a.Fibers.map (ai .o))]))]⟩
theorem w_cj(a:ah)(d:List af)(g:Int)(o:Int⊕(Unit⊕Bool))(h:AX a d g=some o):AWP (OkS Tryz.prog) ES (qL [1,2,5] [2] (FB a d) (qS (qX 0 [] [] (bR)) (qR az (fun r=>.b r))) o) (FB a d g):=by
 have e:=ZA @FB.eq_1 @bR.eq_1;unfold AX at h;simp only[ZC,FB,ES];obtain⟨c,h⟩|⟨c,h⟩:=aq h
 ·obtain⟨x,y,h⟩:=ae h;try refine ZF c ?_
  refine bo (sh:=(fun v=>⟨[(1,.lst .o 10 (d.map (aj .o))),(2,.pt 2 0 0),(5,.i g)],[(2,.var (.agg [.lst .o 1 (a.Nodes.map AV.z),.lst .o 4 (a.Fibers.map (ai .o))]))]⟩)) (q:=(qR az (fun r=>.b r))) (o:=x) ?_ (fun k1 hv=>?_) (fun l1 hv e τ hne hq=>?_)
  ·replace h:=y;obtain⟨a1,b1,h⟩:=ae h;try refine ZF c ?_
   refine aw (sh:=(fun v=>⟨[(1,.lst .o 10 (d.map (aj .o))),(2,.pt 2 0 0),(5,.i g),(45,.b v)],[(2,.var (.agg [.lst .o 1 (a.Nodes.map AV.z),.lst .o 4 (a.Fibers.map (ai .o))]))]⟩)) (s:=a1) ?_ ?_
   ·replace h:=b1;obtain⟨m1,c1,h⟩:=ae h;obtain⟨p1,d1,h⟩:=ae h;have f:=ZA c (aM c1);refine ZF f ?_;refine ZSG f (w_gc _ _ d1) ?_;obtain⟨j,h⟩|⟨j,h⟩:=aq h
    ·cases h;exact ZL (ZA f j) trivial
    ·obtain⟨k,h⟩|⟨k,h⟩:=aq h
     ·obtain⟨q1,g1,h⟩:=ae h;cases h;exact ZL (ZA f (ZA j (ZA k (aM g1)))) trivial
     ·cases h;exact ZL (ZA f (ZA j k)) trivial
   ·simp only[ZC,Ro];obtain⟨l,h⟩|⟨l,h⟩:=aq h
    ·cases h;exact ZL (ZA c l) @az.eq_1
    ·obtain⟨m,p,h⟩:=ae h;try refine ZF (ZA c l) ?_
     first|refine jP (o:=m) (bu cJ (aC (w_q a d g) p ?_)) (fun i1 hv τ t=>?_) (fun j1 hv e τ hne hq=>?_)|refine pA (o:=m) cJ (aC (w_q a d g) p ?_) (fun i1 hv τ t=>?_) (fun j1 hv e τ hne hq=>?_)
     ·exact ZK (ZA @S_q.eq_1 @QP.eq_1)
     ·subst hv;simp only[] at h;cases h;try refine ZF trivial ?_
      refine⟨rfl,Shp.sub t (by decide) (by decide) ?_⟩;exact ZK @QP.eq_1
     ·subst hv;simp only[] at h;obtain⟨rfl,u⟩:=hq;cases h;try refine ZF trivial ?_
      first|exact⟨by simp,u⟩|exact⟨by simp,rfl,u⟩
  ·subst hv;simp only[] at h;simp only[ZC,Rm];cases h;exact ZL c e
  ·subst hv;simp only[] at h;obtain⟨rfl,w⟩:=hq;cases h;try refine ZF trivial ?_
   first|exact⟨by simp,w⟩|exact⟨by simp,rfl,w⟩
 ·cases h;exact ZL c e
theorem w_dz(a:ah)(c:List af){r:Bool}(h:AU a c=some r):Ok Tryz.prog 88 [.agg [.lst .o 1 (a.Nodes.map AV.z),.lst .o 4 (a.Fibers.map (ai .o))],.lst .o 10 (c.map (aj .o))] (.b r):=by
 refine aA bd m88 rfl ?_;unfold AU at h;simp only[ZC,A88,az,aJ];obtain⟨i,j,h⟩:=ae h;try refine ZF trivial ?_
 refine aw (sh:=(fun v=>⟨[(1,.lst .o 10 (c.map (aj .o))),(2,.pt 2 0 0),(14,.b v)],[(2,.var (.agg [.lst .o 1 (a.Nodes.map AV.z),.lst .o 4 (a.Fibers.map (ai .o))]))]⟩)) (s:=i) ?_ ?_
 ·replace h:=j;obtain⟨q,k,h⟩:=ae h;refine ZF trivial ?_;refine ZSG trivial (VI _ k) ?_;obtain⟨g,h⟩|⟨g,h⟩:=aq h
  ·cases h;exact ZL g trivial
  ·cases h;exact ZL g trivial
 ·simp only[ZC,Rr];obtain⟨d,h⟩|⟨d,h⟩:=aq h
  ·cases h;exact ZL d @az.eq_1
  ·obtain⟨l,m,h⟩:=ae h;try refine ZF d ?_
   refine bo (o:=l) (bu cJ (aC (w_cj a c) m ?_)) (fun t hv=>?_) (fun u hv e τ hne hq=>?_)
   ·exact ZK (ZA @FB.eq_1 @bR.eq_1)
   ·subst hv;simp only[] at h;simp only[ZC,bR,Rp];cases h;exact ZL d @az.eq_1
   ·subst hv;simp only[] at h;obtain⟨rfl,p⟩:=hq;cases h;exact p
def Fz(a:List aR)(v:Int):St:=⟨[(0,.lst .o 2 (a.map (aF .o))),(3,.i v)],[]⟩
def yk(a:List aR)(v:Unit):St:=⟨[(0,.lst .o 2 (a.map (aF .o)))],[]⟩
theorem w_aw(a:List aR)(g:Int)(o:Int⊕(Unit⊕Bool))(h:Hg a g=some o):AWP (OkS Tryz.prog) wy (qL [0,3] [] (Fz a) (qS (qX 0 [0] [] (yk a)) (qR V10 (fun r=>.b r))) o) (Fz a g):=by
 have e:=ZA @Fz.eq_1 @yk.eq_1;unfold Hg at h;simp only[ZC,Fz,wy];obtain⟨t,u,h⟩:=ae h;try refine ZF trivial ?_
 refine aw (sh:=(fun v=>⟨[(0,.lst .o 2 (a.map (aF .o))),(3,.i g),(11,.b v)],[]⟩)) (s:=t) ?_ ?_
 ·replace h:=u;obtain⟨k,h⟩|⟨k,h⟩:=aq h
  ·cases h;exact ZL k trivial
  ·cases h;exact ZL k trivial
 ·simp only[ZC,Mz];obtain⟨c,h⟩|⟨c,h⟩:=aq h
  ·obtain⟨w,x,h⟩:=ae h;try refine ZF c ?_
   refine aw (sh:=(fun v=>⟨[(0,.lst .o 2 (a.map (aF .o))),(3,.i g),(61,.b v)],[]⟩)) (s:=w) ?_ ?_
   ·replace h:=x;obtain⟨b1,y,h⟩:=ae h;obtain⟨c1,z,h⟩:=ae h;have f:=ZA c (aM y);refine ZF f ?_;refine ZSG f (w_c _ _ _ z) ?_;obtain⟨l,h⟩|⟨l,h⟩:=aq h
    ·cases h;exact ZL (ZA f l) trivial
    ·obtain⟨d1,a1,h⟩:=ae h;have f:=ZA f l;refine ZF f ?_;refine ZSG f (w_c _ _ _ a1) ?_;obtain⟨d,h⟩|⟨d,h⟩:=aq h
     ·cases h;exact ZL (ZA f d) trivial
     ·obtain⟨j,h⟩|⟨j,h⟩:=aq h
      ·obtain⟨g1,q,h⟩:=ae h;obtain⟨m,h⟩|⟨m,h⟩:=aq h
       ·cases h;exact ZL (ZA f (ZA d (ZA j (ZA (aM q) m)))) trivial
       ·cases h;exact ZL (ZA f (ZA d (ZA j (ZA (aM q) m)))) trivial
      ·cases h;exact ZL (ZA f (ZA d j)) trivial
   ·simp only[ZC,JJ];obtain⟨p,h⟩|⟨p,h⟩:=aq h
    ·cases h;exact ZL (ZA c p) @V10.eq_1
    ·cases h;exact ZL (ZA c p) e
  ·cases h;exact ZL c e
theorem w_fw(a:List aR){r:Bool}(h:Mf a=some r):Ok Tryz.prog 182 [.lst .o 2 (a.map (aF .o))] (.b r):=by
 refine aA bd m182 rfl ?_;unfold Mf at h;simp only[ZC,A182,V10,aJ];obtain⟨c,d,h⟩:=ae h;try refine ZF trivial ?_
 refine bo (o:=c) (bu cJ (aC (w_aw a) d ?_)) (fun j hv=>?_) (fun k hv e τ hne hq=>?_)
 ·exact ZK (ZA @Fz.eq_1 @yk.eq_1)
 ·subst hv;simp only[] at h;simp only[ZC,yk,Ft];obtain⟨l,g,h⟩:=ae h;refine ZF trivial ?_;refine ZSG trivial (w_c _ _ _ g) ?_;cases h;exact ZL trivial @V10.eq_1
 ·subst hv;simp only[] at h;obtain⟨rfl,i⟩:=hq;cases h;exact i
theorem w_fx(g:ah)(c:be){r:Bool}(h:LJ g c=some r):Ok Tryz.prog 183 [.agg [.lst .o 1 (g.Nodes.map AV.z),.lst .o 4 (g.Fibers.map (ai .o))],.agg [.i c.From,.i c.To,.i c.Rate,.i c.Class]] (.b r):=by
 have e:=@az.eq_1;refine aA bd m183 rfl ?_;unfold LJ at h;simp only[ZC,A183,az,aJ];obtain⟨s,l,h⟩:=ae h;refine ZF trivial ?_;refine ZSG trivial (w_c _ _ _ l) ?_;obtain⟨a,h⟩|⟨a,h⟩:=aq h
 ·obtain⟨t,m,h⟩:=ae h;refine ZF a ?_;refine ZSG a (w_c _ _ _ m) ?_;obtain⟨d,h⟩|⟨d,h⟩:=aq h
  ·obtain⟨j,h⟩|⟨j,h⟩:=aq h
   ·obtain⟨u,p,h⟩:=ae h;have f:=ZA a (ZA d j);refine ZF f ?_;refine ZSG f (w_c _ _ _ p) ?_;obtain⟨k,h⟩|⟨k,h⟩:=aq h
    ·obtain⟨v,q,h⟩:=ae h;have f:=ZA f k;refine ZF f ?_;refine ZSG f (w_c _ _ _ q) ?_;cases h;exact ZL f e
    ·cases h;exact ZL (ZA f k) e
   ·cases h;exact ZL (ZA a (ZA d j)) e
  ·cases h;exact ZL (ZA a d) e
 ·cases h;exact ZL a e
def S_j(a:ah)(b:ar)(v:Int×Int):St:=⟨[(2,.pt 2 0 0),(3,.pt 3 0 0),(5,.i v.1),(6,.i v.2)],[(2,.var (.agg [.lst .o 1 (a.Nodes.map AV.z),.lst .o 4 (a.Fibers.map (ai .o))])),(3,.var (.agg [.i b.Start,.lst .o 1 (b.Fibers.map AV.i)]))]⟩
def mU(v:Int):St:=⟨[(5,.i v)],[]⟩
theorem w_j(a:ah)(b:ar)(d:Int×Int)(o:(Int×Int)⊕Int)(h:M_j a b d=some o):AWP (OkS Tryz.prog) HL (qL [2,3,5,6] [2,3] (S_j a b) (qX 0 [5] [] (mU)) o) (S_j a b d):=by
 have e:=ZA @S_j.eq_1 @mU.eq_1;unfold M_j at h;simp only[ZC,S_j,HL];obtain⟨c,h⟩|⟨c,h⟩:=aq h
 ·obtain⟨j,g,h⟩:=ae h;obtain⟨k,i,h⟩:=ae h;cases h;exact ZL (ZA c (ZA (aM g) (aM i))) e
 ·cases h;exact ZL c e
theorem HB(a:ah)(b:ar){r:Int}(h:oO a b=some r):Ok Tryz.prog 91 [.agg [.lst .o 1 (a.Nodes.map AV.z),.lst .o 4 (a.Fibers.map (ai .o))],.agg [.i b.Start,.lst .o 1 (b.Fibers.map AV.i)]] (.i r):=by
 refine aA bd m91 rfl ?_;unfold oO at h;simp only[ZC,A91,az,aJ];obtain⟨d,c,h⟩:=ae h;try refine ZF trivial ?_
 refine aw (aY (aC (w_j a b) c ?_)) ?_
 ·exact ZK (ZA @S_j.eq_1 @mU.eq_1)
 ·simp only[ZC,mU,RS];cases h;exact ZL trivial @az.eq_1
theorem Pd(c:Int){r:Int}(h:vH c=some r):Ok Tryz.prog 278 [.i c] (.i r):=by
 refine aA bd m278 rfl ?_;unfold vH at h;simp only[ZC,A278,V10,aJ];obtain⟨a,h⟩|⟨a,h⟩:=aq h
 ·cases h;exact ZL a @V10.eq_1
 ·obtain⟨b,h⟩|⟨b,h⟩:=aq h
  ·cases h;exact ZL (ZA a b) @V10.eq_1
  ·cases h;exact ZL (ZA a b) @V10.eq_1
def Lv(a:ar)(b:ar)(v:Int):St:=⟨[(4,.pt 4 0 0),(5,.pt 5 0 0),(9,.i v)],[(4,.var (.agg [.i a.Start,.lst .o 1 (a.Fibers.map AV.i)])),(5,.var (.agg [.i b.Start,.lst .o 1 (b.Fibers.map AV.i)]))]⟩
def Ad(a:ar)(b:ar)(v:Unit):St:=⟨[(4,.pt 4 0 0),(5,.pt 5 0 0)],[(4,.var (.agg [.i a.Start,.lst .o 1 (a.Fibers.map AV.i)])),(5,.var (.agg [.i b.Start,.lst .o 1 (b.Fibers.map AV.i)]))]⟩
theorem w_an(a:ar)(b:ar)(g:Int)(o:Int⊕(Unit⊕Int))(h:Dv a b g=some o):AWP (OkS Tryz.prog) xS (qL [4,5,9] [4,5] (Lv a b) (qS (qX 0 [4,5] [4,5] (Ad a b)) (qR bJ (fun r=>.i r))) o) (Lv a b g):=by
 have e:=ZA @Lv.eq_1 @Ad.eq_1;unfold Dv at h;simp only[ZC,Lv,xS];obtain⟨c,h⟩|⟨c,h⟩:=aq h
 ·obtain⟨m,j,h⟩:=ae h;obtain⟨p,k,h⟩:=ae h;obtain⟨d,h⟩|⟨d,h⟩:=aq h
  ·obtain⟨q,l,h⟩:=ae h;have f:=ZA c (ZA (aM j) (ZA (aM k) d));refine ZF f ?_;refine ZSG f (Pd _ l) ?_;cases h;exact ZL f @bJ.eq_1
  ·cases h;exact ZL (ZA c (ZA (aM j) (ZA (aM k) d))) e
 ·cases h;exact ZL c e
theorem w_eg(d:ah)(b:ar)(c:ar){r:Int}(h:AZ d b c=some r):Ok Tryz.prog 274 [.agg [.lst .o 1 (d.Nodes.map AV.z),.lst .o 4 (d.Fibers.map (ai .o))],.agg [.i b.Start,.lst .o 1 (b.Fibers.map AV.i)],.agg [.i c.Start,.lst .o 1 (c.Fibers.map AV.i)]] (.i r):=by
 refine aA bd m274 rfl ?_;unfold AZ at h;simp only[ZC,A274,bJ,aJ];obtain⟨u,j,h⟩:=ae h;refine ZF trivial ?_;refine ZSG trivial (HB _ _ j) ?_;obtain⟨v,k,h⟩:=ae h;refine ZF trivial ?_;refine ZSG trivial (HB _ _ k) ?_;obtain⟨a,h⟩|⟨a,h⟩:=aq h
 ·obtain⟨w,l,h⟩:=ae h;refine ZF a ?_;refine ZSG a (Pd _ l) ?_;cases h;exact ZL a @bJ.eq_1
 ·obtain⟨g,h⟩|⟨g,h⟩:=aq h
  ·obtain⟨x,m,h⟩:=ae h;have f:=ZA a g;refine ZF f ?_;refine ZSG f (Pd _ m) ?_;cases h;exact ZL f @bJ.eq_1
  ·obtain⟨p,q,h⟩:=ae h;have f:=ZA a g;try refine ZF f ?_
   refine bo (o:=p) (bu cJ (aC (w_an b c) q ?_)) (fun y hv=>?_) (fun a1 hv e τ hne hq=>?_)
   ·exact ZK (ZA @Lv.eq_1 @Ad.eq_1)
   ·subst hv;simp only[] at h;simp only[ZC,Ad,MO];obtain⟨b1,s,h⟩:=ae h;refine ZF f ?_;refine ZSG f (Pd _ s) ?_;cases h;exact ZL f @bJ.eq_1
   ·subst hv;simp only[] at h;obtain⟨rfl,t⟩:=hq;cases h;exact t
theorem Ju(a:List Int){r:List Int}(h:nf a=some r):Ok Tryz.prog 107 [.lst .o 1 (a.map AV.i)] (.lst .u 1 (r.map AV.i)):=by
 refine aA bd m107 rfl ?_;unfold nf at h;simp only[ZC,A107,V10,aJ];obtain⟨c,b,h⟩:=ae h;cases h;exact ZL (aI b) @V10.eq_1
def GD(a:List aR)(b:Int)(v:Int×Int):St:=⟨[(0,.lst .o 2 (a.map (aF .o))),(1,.i b),(5,.i v.1),(6,.i v.2)],[]⟩
theorem w_cy(b:List aR)(c:Int)(g:Int×Int)(o:(Int×Int)⊕Int)(h:LV b c g=some o):AWP (OkS Tryz.prog) xG (qL [0,1,5,6] [] (GD b c) (qX 0 [5] [] (mU)) o) (GD b c g):=by
 have e:=ZA @GD.eq_1 @mU.eq_1;unfold LV at h;simp only[ZC,GD,xG];obtain⟨a,h⟩|⟨a,h⟩:=aq h
 ·obtain⟨j,i,h⟩:=ae h;obtain⟨d,h⟩|⟨d,h⟩:=aq h
  ·cases h;exact ZL (ZA a (ZA (aM i) d)) e
  ·cases h;exact ZL (ZA a (ZA (aM i) d)) e
 ·cases h;exact ZL a e
theorem w_fs(a:List aR)(b:Int){r:Int}(h:LZ a b=some r):Ok Tryz.prog 165 [.lst .o 2 (a.map (aF .o)),.i b] (.i r):=by
 refine aA bd m165 rfl ?_;unfold LZ at h;simp only[ZC,A165,az,aJ];obtain⟨d,c,h⟩:=ae h;try refine ZF trivial ?_
 refine aw (aY (aC (w_cy a b) c ?_)) ?_
 ·exact ZK (ZA @GD.eq_1 @mU.eq_1)
 ·simp only[ZC,mU,FN];cases h;exact ZL trivial @az.eq_1
theorem Vf(c:List aR)(d:Int)(g:Int){r:Int}(h:rz c d g=some r):Ok Tryz.prog 90 [.lst .o 2 (c.map (aF .o)),.i d,.i g] (.i r):=by
 refine aA bd m90 rfl ?_;unfold rz at h;simp only[ZC,A90,bJ,aJ];obtain⟨m,l,h⟩:=ae h;refine ZF trivial ?_;refine ZSG trivial (w_fs _ _ l) ?_;obtain⟨a,h⟩|⟨a,h⟩:=aq h
 ·cases h;exact ZL a @bJ.eq_1
 ·obtain⟨p,j,h⟩:=ae h;obtain⟨q,k,h⟩:=ae h;obtain⟨b,h⟩|⟨b,h⟩:=aq h
  ·cases h;exact ZL (ZA a (ZA (aM j) (ZA (aI k) b))) @bJ.eq_1
  ·cases h;exact ZL (ZA a (ZA (aM j) (ZA (aI k) b))) @bJ.eq_1
def Fs(a:List ar)(b:List Int)(v:Int×Int):St:=⟨[(0,.lst .o 2 (a.map (aB .o))),(1,.lst .o 1 (b.map AV.i)),(5,.i v.1),(6,.i v.2)],[]⟩
theorem w_da(c:List ar)(d:List Int)(g:Int×Int)(o:(Int×Int)⊕Int)(h:Lu c d g=some o):AWP (OkS Tryz.prog) xf (qL [0,1,5,6] [] (Fs c d) (qX 0 [5] [] (mU)) o) (Fs c d g):=by
 have e:=ZA @Fs.eq_1 @mU.eq_1;unfold Lu at h;simp only[ZC,Fs,xf];obtain⟨a,h⟩|⟨a,h⟩:=aq h
 ·obtain⟨l,m,h⟩:=ae h;try refine ZF a ?_
  refine aw (sh:=(fun v=>⟨[(0,.lst .o 2 (c.map (aB .o))),(1,.lst .o 1 (d.map AV.i)),(5,.i g.1),(6,.i g.2),(39,.b v)],[]⟩)) (s:=l) ?_ ?_
  ·replace h:=m;obtain⟨j,h⟩|⟨j,h⟩:=aq h
   ·cases h;exact ZL (ZA a j) trivial
   ·obtain⟨w,p,h⟩:=ae h;obtain⟨x,q,h⟩:=ae h;obtain⟨y,t,h⟩:=ae h;obtain⟨z,u,h⟩:=ae h;cases h;exact ZL (ZA a (ZA j (ZA (aM p) (ZA (aM q) (ZA (aM t) (aM u)))))) trivial
  ·simp only[ZC,FZ];obtain⟨k,h⟩|⟨k,h⟩:=aq h
   ·cases h;exact ZL (ZA a k) e
   ·cases h;exact ZL (ZA a k) e
 ·cases h;exact ZL a e
theorem w_fu(a:List ar)(b:List Int){r:Int}(h:Jt a b=some r):Ok Tryz.prog 164 [.lst .o 2 (a.map (aB .o)),.lst .o 1 (b.map AV.i)] (.i r):=by
 refine aA bd m164 rfl ?_;unfold Jt at h;simp only[ZC,A164,az,aJ];obtain⟨d,c,h⟩:=ae h;try refine ZF trivial ?_
 refine aw (aY (aC (w_da a b) c ?_)) ?_
 ·exact ZK (ZA @Fs.eq_1 @mU.eq_1)
 ·simp only[ZC,mU,HE];cases h;exact ZL trivial @az.eq_1
def S_p(a:ah)(b:List ar)(c:List Int)(d:Int×Int×Int×Int)(v:Int×Int×Int×Int):St:=⟨[(1,.lst .o 2 (b.map (aB .o))),(2,.lst .o 1 (c.map AV.i)),(3,.pt 3 0 0),(8,.i v.1),(9,.i v.2.1),(10,.i v.2.2.1),(11,.i d.2.2.2),(12,.i v.2.2.2)],[(3,.var (.agg [.lst .o 1 (a.Nodes.map AV.z),.lst .o 4 (a.Fibers.map (ai .o))]))]⟩
def PI(a:ah)(b:List ar)(c:List Int)(d:Int×Int×Int×Int)(v:Int×Int×Int):St:=⟨[(1,.lst .o 2 (b.map (aB .o))),(2,.lst .o 1 (c.map AV.i)),(3,.pt 3 0 0),(8,.i v.1),(9,.i v.2.1),(10,.i v.2.2),(11,.i d.2.2.2)],[(3,.var (.agg [.lst .o 1 (a.Nodes.map AV.z),.lst .o 4 (a.Fibers.map (ai .o))]))]⟩
theorem w_p(c:ah)(d:List ar)(g:List Int)(j:Int×Int×Int×Int)(a:Int×Int×Int×Int)(o:(Int×Int×Int×Int)⊕(Int×Int×Int))(h:M_p c d g j a=some o):AWP (OkS Tryz.prog) wM (qL [1,2,3,8,9,10,11,12] [3] (S_p c d g j) (qX 2 [1,2,3,8,9,10,11] [3] (PI c d g j)) o) (S_p c d g j a):=by
 have e:=ZA @S_p.eq_1 @PI.eq_1;unfold M_p at h;simp only[ZC,S_p,wM];obtain⟨p,h⟩|⟨p,h⟩:=aq h
 ·obtain⟨x,c1,h⟩:=ae h;obtain⟨y,d1,h⟩:=ae h;obtain⟨a1,g1,h⟩:=ae h;obtain⟨b1,i1,h⟩:=ae h;obtain⟨j1,k1,h⟩:=ae h;have f:=ZA p (ZA (aM c1) (ZA (aM d1) (ZA (aM g1) (aM i1))));try refine ZF f ?_
  refine aw (sh:=(fun v=>⟨[(1,.lst .o 2 (d.map (aB .o))),(2,.lst .o 1 (g.map AV.i)),(3,.pt 3 0 0),(8,.i a.1),(9,.i a.2.1),(10,.i a.2.2.1),(11,.i j.2.2.2),(12,.i a.2.2.2),(13,.i (IntKind.wrap .i64 (x*(y.Fibers.length:Int)))),(14,.i (IntKind.wrap .i64 (a1*(b1.Fibers.length:Int)))),(79,.b v)],[(3,.var (.agg [.lst .o 1 (c.Nodes.map AV.z),.lst .o 4 (c.Fibers.map (ai .o))]))]⟩)) (s:=j1) ?_ ?_
  ·replace h:=k1;obtain⟨k,h⟩|⟨k,h⟩:=aq h
   ·cases h;exact ZL (ZA f k) trivial
   ·obtain⟨l,h⟩|⟨l,h⟩:=aq h
    ·cases h;exact ZL (ZA f (ZA k l)) trivial
    ·obtain⟨m,h⟩|⟨m,h⟩:=aq h
     ·obtain⟨q,h⟩|⟨q,h⟩:=aq h
      ·cases h;exact ZL (ZA f (ZA k (ZA l (ZA m q)))) trivial
      ·obtain⟨s1,l1,h⟩:=ae h;have f:=ZA f (ZA k (ZA l (ZA m q)));refine ZF f ?_;refine ZSG f (NU _ _ _ l1) ?_;cases h;exact ZL f trivial
     ·obtain⟨t1,m1,h⟩:=ae h;have f:=ZA f (ZA k (ZA l m));refine ZF f ?_;refine ZSG f (NU _ _ _ m1) ?_;cases h;exact ZL f trivial
  ·simp only[ZC,Ma];obtain⟨t,h⟩|⟨t,h⟩:=aq h
   ·cases h;exact ZL (ZA f t) e
   ·obtain⟨p1,q1,h⟩:=ae h;have f:=ZA f t;try refine ZF f ?_
    refine aw (sh:=(fun v=>⟨[(1,.lst .o 2 (d.map (aB .o))),(2,.lst .o 1 (g.map AV.i)),(3,.pt 3 0 0),(8,.i a.1),(9,.i a.2.1),(10,.i a.2.2.1),(11,.i j.2.2.2),(12,.i a.2.2.2),(13,.i (IntKind.wrap .i64 (x*(y.Fibers.length:Int)))),(14,.i (IntKind.wrap .i64 (a1*(b1.Fibers.length:Int)))),(88,.b v)],[(3,.var (.agg [.lst .o 1 (c.Nodes.map AV.z),.lst .o 4 (c.Fibers.map (ai .o))]))]⟩)) (s:=p1) ?_ ?_
    ·replace h:=q1;obtain⟨u,h⟩|⟨u,h⟩:=aq h
     ·cases h;exact ZL (ZA f u) trivial
     ·cases h;exact ZL (ZA f u) trivial
    ·simp only[ZC,HQ];obtain⟨w,h⟩|⟨w,h⟩:=aq h
     ·cases h;exact ZL (ZA f w) e
     ·cases h;exact ZL (ZA f w) e
 ·cases h;exact ZL p e
def IQ(a:ah)(b:List ar)(c:List Int)(v:Int×Int×Int×Int):St:=⟨[(1,.lst .o 2 (b.map (aB .o))),(2,.lst .o 1 (c.map AV.i)),(3,.pt 3 0 0),(8,.i v.1),(9,.i v.2.1),(10,.i v.2.2.1),(11,.i v.2.2.2)],[(3,.var (.agg [.lst .o 1 (a.Nodes.map AV.z),.lst .o 4 (a.Fibers.map (ai .o))]))]⟩
def yl(v:Int×Int):St:=⟨[(8,.i v.1),(9,.i v.2)],[]⟩
theorem w_av(a:ah)(b:List ar)(c:List Int)(d:Int×Int×Int×Int)(o:(Int×Int×Int×Int)⊕(Int×Int))(h:HZ a b c d=some o):AWP (OkS Tryz.prog) xo (qL [1,2,3,8,9,10,11] [3] (IQ a b c) (qX 0 [8,9] [] (yl)) o) (IQ a b c d):=by
 have e:=ZA @IQ.eq_1 @yl.eq_1;unfold HZ at h;simp only[ZC,IQ,xo];obtain⟨g,h⟩|⟨g,h⟩:=aq h
 ·obtain⟨l,m,h⟩:=ae h;try refine ZF g ?_
  refine aw (sh:=(fun v=>⟨[(1,.lst .o 2 (b.map (aB .o))),(2,.lst .o 1 (c.map AV.i)),(3,.pt 3 0 0),(8,.i v.1),(9,.i v.2.1),(10,.i v.2.2),(11,.i d.2.2.2)],[(3,.var (.agg [.lst .o 1 (a.Nodes.map AV.z),.lst .o 4 (a.Fibers.map (ai .o))]))]⟩)) (s:=l) ?_ ?_
  ·replace h:=m;obtain⟨p,j,h⟩:=ae h;try refine ZF g ?_
   first|refine cK (aY (aC (w_p a b c d) j ?_)) (fun τ k=>?_)|refine dx (aC (w_p a b c d) j ?_) (fun τ k=>?_)
   ·exact ZK (ZA @S_p.eq_1 @PI.eq_1)
   ·cases h;try refine ZF trivial ?_
    refine⟨rfl,Shp.sub k (by decide) (by decide) ?_⟩;exact ZK @PI.eq_1
  ·simp only[ZC,Fc];cases h;exact ZL g e
 ·cases h;exact ZL g e
theorem w_fv(a:ah)(b:List ar)(c:List Int){r:Int×Int}(h:GV a b c=some r):Ok Tryz.prog 122 [.agg [.lst .o 1 (a.Nodes.map AV.z),.lst .o 4 (a.Fibers.map (ai .o))],.lst .o 2 (b.map (aB .o)),.lst .o 1 (c.map AV.i)] (.tup [.i r.1,.i r.2]):=by
 refine aA bd m122 rfl ?_;unfold GV at h;simp only[ZC,A122,fY,aJ];obtain⟨g,d,h⟩:=ae h;try refine ZF trivial ?_
 refine aw (aY (aC (w_av a b c) d ?_)) ?_
 ·exact ZK (ZA @IQ.eq_1 @yl.eq_1)
 ·simp only[ZC,yl,Hq];cases h;exact ZL trivial @fY.eq_1
def Mo(b:ah)(c:List af)(a:af)(v:Int):St:=⟨[(1,.lst .o 10 (c.map (aj .o))),(3,.pt 3 0 0),(5,.pt 5 0 0),(7,.i v)],[(3,.var (.agg [.lst .o 1 (b.Nodes.map AV.z),.lst .o 4 (b.Fibers.map (ai .o))])),(5,.var (.agg [.i a.Id,.i a.Class,.i a.Work.Start,.lst .o 1 (a.Work.Fibers.map AV.i),.i a.WorkBlock.First,.i a.WorkBlock.Count,.i a.Spare.Start,.lst .o 1 (a.Spare.Fibers.map AV.i),.i a.SpareBlock.First,.i a.SpareBlock.Count]))]⟩
theorem w_db(a:ah)(c:List af)(d:af)(j:Int)(o:Int⊕(Unit⊕Bool))(h:JT a c d j=some o):AWP (OkS Tryz.prog) wc (qL [1,3,5,7] [3,5] (Mo a c d) (qS (qX 0 [] [] (bR)) (qR bJ (fun r=>.b r))) o) (Mo a c d j):=by
 have e:=ZA @Mo.eq_1 @bR.eq_1;unfold JT at h;simp only[ZC,Mo,wc];obtain⟨g,h⟩|⟨g,h⟩:=aq h
 ·obtain⟨m,k,h⟩:=ae h;obtain⟨p,l,h⟩:=ae h;have f:=ZA g (aM k);refine ZF f ?_;refine ZSG f (w_di _ _ _ l) ?_;obtain⟨i,h⟩|⟨i,h⟩:=aq h
  ·cases h;exact ZL (ZA f i) @bJ.eq_1
  ·cases h;exact ZL (ZA f i) e
 ·cases h;exact ZL g e
theorem w_dv(c:ah)(d:List af)(a:af){r:Bool}(h:CQ c d a=some r):Ok Tryz.prog 166 [.agg [.lst .o 1 (c.Nodes.map AV.z),.lst .o 4 (c.Fibers.map (ai .o))],.lst .o 10 (d.map (aj .o)),.agg [.i a.Id,.i a.Class,.i a.Work.Start,.lst .o 1 (a.Work.Fibers.map AV.i),.i a.WorkBlock.First,.i a.WorkBlock.Count,.i a.Spare.Start,.lst .o 1 (a.Spare.Fibers.map AV.i),.i a.SpareBlock.First,.i a.SpareBlock.Count]] (.b r):=by
 refine aA bd m166 rfl ?_;unfold CQ at h;simp only[ZC,A166,bJ,aJ];obtain⟨g,j,h⟩:=ae h;try refine ZF trivial ?_
 refine bo (o:=g) (bu cJ (aC (w_db c d a) j ?_)) (fun l hv=>?_) (fun m hv e τ hne hq=>?_)
 ·exact ZK (ZA @Mo.eq_1 @bR.eq_1)
 ·subst hv;simp only[] at h;simp only[ZC,bR,Ei];cases h;exact ZL trivial @bJ.eq_1
 ·subst hv;simp only[] at h;obtain⟨rfl,k⟩:=hq;cases h;exact k
def rG(a:ar)(c:List ByteArray)(d:List ay)(g:Int)(b:List ar)(v:Int):St:=⟨[(0,.pt 1000000000 0 0),(3,.pt 3 0 0),(4,.i v)],[(3,.var (.agg [.i ((a).Start),.lst .m 1 (((a).Fibers).map AV.i)])),(1000000000,.var (.agg [.lst .m 1 (c.map AV.z),.lst .m 4 (d.map (ai .m)),.i g,.sl 1000000001 0 b.length])),(1000000001,.arr 2 (b.map (aB .u)))]⟩
theorem w_bs(a:ar)(b:List ByteArray)(c:List ay)(g:Int)(d:List ar)(k:Int)(o:Int⊕Int)(h:Ut a b c d k=some o):AWP (OkS Tryz.prog) ot (qL [0,3,4] [3,1000000000,1000000001] (rG a b c g d) (qX 0 [0,3,4] [3,1000000000,1000000001] (rG a b c g d)) o) (rG a b c g d k):=by
 have e:=ZA @rG.eq_1 @rG.eq_1;unfold Ut at h;simp only[ZC,rG,ot];obtain⟨i,h⟩|⟨i,h⟩:=aq h
 ·obtain⟨q,l,h⟩:=ae h;obtain⟨s,m,h⟩:=ae h;obtain⟨t,p,h⟩:=ae h;have f:=ZA i (ZA (aI l) m);refine ZF f ?_;refine ZSG f (w_eg _ _ _ p) ?_;obtain⟨j,h⟩|⟨j,h⟩:=aq h
  ·cases h;exact ZL (ZA f j) e
  ·cases h;exact ZL (ZA f j) e
 ·cases h;exact ZL i e
theorem w_hj(b:ar)(j:List ByteArray)(k:List ay)(l:Int)(a:List ar){r:List ByteArray×List ay×Int×List ar×List ar}(h:TI b j k l a=some r):OkM Tryz.prog 261 [.pt 1000000000 0 0,.agg [.i ((b).Start),.lst .m 1 (((b).Fibers).map AV.i)]] [(1000000000,.var (.agg [.lst .m 1 (j.map AV.z),.lst .m 4 (k.map (ai .m)),.i l,.sl 1000000001 0 a.length])),(1000000001,.arr 2 (a.map (aB .u)))] (.tup []) ([(49,.arr 2 (r.2.2.2.1.map (aB .m))),(1000000000,.var (.agg [.lst .m 1 (r.1.map AV.z),.lst .m 4 (r.2.1.map (ai .m)),.i r.2.2.1,.sl 49 0 r.2.2.2.1.length])),(1000000001,.arr 2 (r.2.2.2.2.map (aB .u)))]):=by
 refine aZ (lr:=[49,1000000000,1000000001]) bd Uo rfl rfl ?_;unfold TI at h;simp only[ZC,FI,cy];obtain⟨p,d1,h⟩:=ae h;try refine ZF trivial ?_
 refine aw (aY (aC (w_bs b j k l a) d1 ?_)) ?_
 ·exact ZK (ZA @rG.eq_1 @rG.eq_1)
 ·simp only[ZC,rG,tE];obtain⟨w1,g1,h⟩:=ae h;obtain⟨q,i1,h⟩:=aO h;have j1:sub (a.map (aB .u)) 0 (Int.toNat p)=q.map (aB .u):=by rw[bP,i1]
  obtain⟨x1,k1,h⟩:=ae h;obtain⟨s,c,h⟩:=aO h;have l1:Row.arr 2 [(.agg [.i ((b).Start),.lst .m 1 (((b).Fibers).map AV.i)]:AV)]=Row.arr 2 (s.map (aB .m)):=by rw[<-c];rfl
  have w:s.length=1:=by rw[<-c];rfl
  obtain⟨y1,m1,h⟩:=ae h;have x:=aI m1;obtain⟨d,g,h⟩:=aO h;have p1:q.map (aB .m)++s.map (aB .m)=d.map (aB .m):=by rw[<-g,List.map_append]
  have y:q.length+1=d.length:=by simp[<-c,<-g]<;>omega
  rw[y] at x;obtain⟨z1,q1,h⟩:=ae h;obtain⟨t,s1,h⟩:=aO h;have t1:sub (a.map (aB .u)) (Int.toNat p) (a.length-(Int.toNat p))=t.map (aB .u):=by rw[bP,s1]
  obtain⟨a2,u1,h⟩:=ae h;have a1:=aI u1;obtain⟨b1,v,h⟩:=aO h;have v1:d.map (aB .m)++t.map (aB .m)=b1.map (aB .m):=by rw[<-v,List.map_append]
  have c1:d.length+t.length=b1.length:=by simp[<-c,<-g,<-v]<;>omega
  rw[c1] at a1;cases h;exact ZL (ZA (aI g1) (ZA j1 (ZA (aI k1) (ZA l1 (ZA w (ZA x (ZA p1 (ZA y (ZA (aI q1) (ZA t1 (ZA a1 (ZA v1 c1)))))))))))) (ZA @cy.eq_1 (ZA c.symm (ZA g.symm (ZA v.symm w))))
def sJ(a:ar)(c:List ByteArray)(d:List ay)(g:Int)(b:List ar)(v:Int):St:=⟨[(0,.pt 1000000000 0 0),(3,.pt 3 0 0),(4,.i v)],[(3,.var (.agg [.i ((a).Start),.lst .m 1 (((a).Fibers).map AV.i)])),(1000000000,.var (.agg [.lst .m 1 (c.map AV.z),.lst .m 4 (d.map (ai .m)),.i g,.sl 1000000001 0 b.length])),(1000000001,.arr 2 (b.map (aB .m)))]⟩
theorem w_as(a:ar)(b:List ByteArray)(c:List ay)(g:Int)(d:List ar)(k:Int)(o:Int⊕Int)(h:BV a b c d k=some o):AWP (OkS Tryz.prog) pg (qL [0,3,4] [3,1000000000,1000000001] (sJ a b c g d) (qX 0 [0,3,4] [3,1000000000,1000000001] (sJ a b c g d)) o) (sJ a b c g d k):=by
 have e:=ZA @sJ.eq_1 @sJ.eq_1;unfold BV at h;simp only[ZC,sJ,pg];obtain⟨i,h⟩|⟨i,h⟩:=aq h
 ·obtain⟨q,l,h⟩:=ae h;obtain⟨s,m,h⟩:=ae h;obtain⟨t,p,h⟩:=ae h;have f:=ZA i (ZA (aI l) m);refine ZF f ?_;refine ZSG f (w_eg _ _ _ p) ?_;obtain⟨j,h⟩|⟨j,h⟩:=aq h
  ·cases h;exact ZL (ZA f j) e
  ·cases h;exact ZL (ZA f j) e
 ·cases h;exact ZL i e
theorem w_fq(b:ar)(j:List ByteArray)(k:List ay)(l:Int)(a:List ar){r:List ByteArray×List ay×Int×List ar×List ar}(h:IZ b j k l a=some r):OkM Tryz.prog 261 [.pt 1000000000 0 0,.agg [.i ((b).Start),.lst .m 1 (((b).Fibers).map AV.i)]] [(1000000000,.var (.agg [.lst .m 1 (j.map AV.z),.lst .m 4 (k.map (ai .m)),.i l,.sl 1000000001 0 a.length])),(1000000001,.arr 2 (a.map (aB .m)))] (.tup []) ([(49,.arr 2 (r.2.2.2.1.map (aB .m))),(1000000000,.var (.agg [.lst .m 1 (r.1.map AV.z),.lst .m 4 (r.2.1.map (ai .m)),.i r.2.2.1,.sl 49 0 r.2.2.2.1.length])),(1000000001,.arr 2 (r.2.2.2.2.map (aB .m)))]):=by
 refine aZ (lr:=[49,1000000000,1000000001]) bd UE rfl rfl ?_;unfold IZ at h;simp only[ZC,Iw,cy];obtain⟨p,c1,h⟩:=ae h;try refine ZF trivial ?_
 refine aw (aY (aC (w_as b j k l a) c1 ?_)) ?_
 ·exact ZK (ZA @sJ.eq_1 @sJ.eq_1)
 ·simp only[ZC,sJ,vE];obtain⟨v1,d1,h⟩:=ae h;obtain⟨q,g1,h⟩:=aO h;have i1:sub (a.map (aB .m)) 0 (Int.toNat p)=q.map (aB .m):=by rw[bP,g1]
  obtain⟨w1,j1,h⟩:=ae h;obtain⟨s,c,h⟩:=aO h;have k1:Row.arr 2 [(.agg [.i ((b).Start),.lst .m 1 (((b).Fibers).map AV.i)]:AV)]=Row.arr 2 (s.map (aB .m)):=by rw[<-c];rfl
  have v:s.length=1:=by rw[<-c];rfl
  obtain⟨x1,l1,h⟩:=ae h;have w:=aI l1;obtain⟨d,g,h⟩:=aO h;have m1:q.map (aB .m)++s.map (aB .m)=d.map (aB .m):=by rw[<-g,List.map_append]
  have x:q.length+1=d.length:=by simp[<-c,<-g]<;>omega
  rw[x] at w;obtain⟨y1,p1,h⟩:=ae h;obtain⟨t,q1,h⟩:=aO h;have s1:sub (a.map (aB .m)) (Int.toNat p) (a.length-(Int.toNat p))=t.map (aB .m):=by rw[bP,q1]
  obtain⟨z1,t1,h⟩:=ae h;have y:=aI t1;obtain⟨a1,u,h⟩:=aO h;have u1:d.map (aB .m)++t.map (aB .m)=a1.map (aB .m):=by rw[<-u,List.map_append]
  have b1:d.length+t.length=a1.length:=by simp[<-c,<-g,<-u]<;>omega
  rw[b1] at y;cases h;exact ZL (ZA (aI d1) (ZA i1 (ZA (aI j1) (ZA k1 (ZA v (ZA w (ZA m1 (ZA x (ZA (aI p1) (ZA s1 (ZA y (ZA u1 b1)))))))))))) (ZA @cy.eq_1 (ZA c.symm (ZA g.symm (ZA u.symm v))))
def Mq(b:Int)(c:List Int)(a:List Int)(d:Int)(v:Int×List ByteArray×List ay×Int×List ar):St:=⟨[(0,.pt 1000000000 0 0),(2,.sl 1000000003 0 a.length),(4,.pt 4 0 0),(6,.i d),(7,.i v.1)],[(4,.var (.agg [.i b,.lst .m 1 (c.map AV.i)])),(470000003,.arr 2 (v.2.2.2.2.map (aB .m))),(1000000000,.var (.agg [.lst .m 1 (v.2.1.map AV.z),.lst .m 4 (v.2.2.1.map (ai .m)),.i v.2.2.2.1,.sl 470000003 0 v.2.2.2.2.length])),(1000000003,.arr 1 (a.map AV.i))]⟩
def yz(a:List Int)(v:List ByteArray×List ay×Int×List ar):St:=⟨[],[(470000003,.arr 2 (v.2.2.2.map (aB .m))),(1000000000,.var (.agg [.lst .m 1 (v.1.map AV.z),.lst .m 4 (v.2.1.map (ai .m)),.i v.2.2.1,.sl 470000003 0 v.2.2.2.length])),(1000000003,.arr 1 (a.map AV.i))]⟩
theorem w_al(j:Int)(u:List ByteArray)(w:List ay)(x:Int)(p:List ar)(d:List Int)(c:List Int)(i1:Int->List ByteArray->List ay->Int->List ar->List Int->List Int->Option (List ByteArray×List ay×Int×List ar×List Int))(k:Int)(x1:∀(j:Int)(u:List ByteArray)(w:List ay)(x:Int)(p:List ar)(d:List Int)(c:List Int){r:List ByteArray×List ay×Int×List ar×List Int},i1 j u w x p d c=some r->OkM Tryz.prog 240 [.pt 1000000000 0 0,.agg [.i j,.sl 1000000002 0 d.length],.sl 1000000003 0 c.length] [(1000000000,.var (.agg [.lst .m 1 (u.map AV.z),.lst .m 4 (w.map (ai .m)),.i x,.sl 1000000001 0 p.length])),(1000000001,.arr 2 (p.map (aB .m))),(1000000002,.arr 1 (d.map AV.i)),(1000000003,.arr 1 (c.map AV.i))] (.tup []) ([(470000003,.arr 2 (r.2.2.2.1.map (aB .m))),(1000000000,.var (.agg [.lst .m 1 (r.1.map AV.z),.lst .m 4 (r.2.1.map (ai .m)),.i r.2.2.1,.sl 470000003 0 r.2.2.2.1.length])),(1000000003,.arr 1 (r.2.2.2.2.map AV.i))]))(a:Int×List ByteArray×List ay×Int×List ar)(o:(Int×List ByteArray×List ay×Int×List ar)⊕(List ByteArray×List ay×Int×List ar))(h:Jg j d c i1 k a=some o):AWP (OkS Tryz.prog) mj (qL [0,2,4,6,7] [4,470000003,1000000000,1000000003] (Mq j d c k) (qX 0 [] [470000003,1000000000,1000000003] (yz c)) o) (Mq j d c k a):=by
 have e:=ZA @Mq.eq_1 @yz.eq_1;unfold Jg at h;simp only[ZC,Mq,mj];obtain⟨y1,z1,h⟩:=ae h;try refine ZF trivial ?_
 refine aw (sh:=(fun v=>⟨[(0,.pt 1000000000 0 0),(2,.sl 1000000003 0 c.length),(4,.pt 4 0 0),(6,.i k),(7,.i a.1),(39,.b v)],[(4,.var (.agg [.i j,.lst .m 1 (d.map AV.i)])),(470000003,.arr 2 (a.2.2.2.2.map (aB .m))),(1000000000,.var (.agg [.lst .m 1 (a.2.1.map AV.z),.lst .m 4 (a.2.2.1.map (ai .m)),.i a.2.2.2.1,.sl 470000003 0 a.2.2.2.2.length])),(1000000003,.arr 1 (c.map AV.i))]⟩)) (s:=y1) ?_ ?_
 ·replace h:=z1;obtain⟨y,h⟩|⟨y,h⟩:=aq h
  ·cases h;exact ZL y trivial
  ·cases h;exact ZL y trivial
 ·simp only[ZC,qx];obtain⟨g,h⟩|⟨g,h⟩:=aq h
  ·obtain⟨j1,a2,h⟩:=ae h;refine ZF g ?_;refine ZSG g (La _ _ _ a2) ?_;obtain⟨b2,c2,h⟩:=ae h;try refine ZF g ?_
   refine aw (sh:=(fun v=>⟨[(0,.pt 1000000000 0 0),(2,.sl 1000000003 0 c.length),(4,.pt 4 0 0),(6,.i k),(7,.i a.1),(8,.i j1),(56,.b v)],[(4,.var (.agg [.i j,.lst .m 1 (d.map AV.i)])),(470000003,.arr 2 (a.2.2.2.2.map (aB .m))),(1000000000,.var (.agg [.lst .m 1 (a.2.1.map AV.z),.lst .m 4 (a.2.2.1.map (ai .m)),.i a.2.2.2.1,.sl 470000003 0 a.2.2.2.2.length])),(1000000003,.arr 1 (c.map AV.i))]⟩)) (s:=b2) ?_ ?_
   ·replace h:=c2;obtain⟨a1,h⟩|⟨a1,h⟩:=aq h
    ·obtain⟨t2,d2,h⟩:=ae h;have f:=ZA g a1;refine ZF f ?_;refine ZSG f (w_m _ _ d2) ?_;cases h;exact ZL f trivial
    ·cases h;exact ZL (ZA g a1) trivial
   ·simp only[ZC,qU];obtain⟨b1,h⟩|⟨b1,h⟩:=aq h
    ·obtain⟨k1,g2,h⟩:=ae h;have f:=ZA g b1;refine ZF f ?_;refine ZUG f (Ju _ g2) ?_;obtain⟨c1,l,h⟩:=aO h;have i2:Row.arr 1 [(.i a.1:AV)]=Row.arr 1 (c1.map AV.i):=by rw[<-l];rfl
     have l1:c1.length=1:=by rw[<-l];rfl
     obtain⟨u2,j2,h⟩:=ae h;have m1:=aI j2;obtain⟨p1,q,h⟩:=aO h;have k2:k1.map AV.i++c1.map AV.i=p1.map AV.i:=by rw[<-q,List.map_append]
     have q1:k1.length+1=p1.length:=by simp[<-l,<-q]<;>omega
     rw[q1] at m1;obtain⟨s1,l2,h⟩:=ae h;have f:=ZA f (ZA i2 (ZA l1 (ZA m1 (ZA k2 q1))));refine ZF f ?_;refine ZUG f (Ju _ l2) ?_;obtain⟨d1,t,h⟩:=aO h;have m2:Row.arr 1 [(.i j1:AV)]=Row.arr 1 (d1.map AV.i):=by rw[<-t];rfl
     have t1:d1.length=1:=by rw[<-t];rfl
     obtain⟨v2,p2,h⟩:=ae h;have u1:=aI p2;obtain⟨v1,g1,h⟩:=aO h;have q2:s1.map AV.i++d1.map AV.i=v1.map AV.i:=by rw[<-g1,List.map_append]
     have w1:s1.length+1=v1.length:=by simp[<-l,<-q,<-t,<-g1]<;>omega
     rw[w1] at u1;obtain⟨w2,s2,h⟩:=ae h;have f:=ZA f (ZA m2 (ZA t1 (ZA u1 (ZA q2 w1))));refine ZF f ?_;refine ZWG f (x1 _ _ _ _ _ _ _ s2) [470000003,1000000000,1000000003] [477300003] ?_;cases h;exact ZL f (ZA e (ZA l.symm (ZA q.symm (ZA t.symm (ZA g1.symm (ZA l1 t1))))))
    ·cases h;exact ZL (ZA g b1) e
  ·cases h;exact ZL g e
theorem Wk(l:Int->List ByteArray->List ay->Int->List ar->List Int->List Int->Option (List ByteArray×List ay×Int×List ar×List Int))(q:∀(d:Int)(g:List ByteArray)(j:List ay)(k:Int)(a:List ar)(b:List Int)(c:List Int){r:List ByteArray×List ay×Int×List ar×List Int},l d g j k a b c=some r->OkM Tryz.prog 240 [.pt 1000000000 0 0,.agg [.i d,.sl 1000000002 0 b.length],.sl 1000000003 0 c.length] [(1000000000,.var (.agg [.lst .m 1 (g.map AV.z),.lst .m 4 (j.map (ai .m)),.i k,.sl 1000000001 0 a.length])),(1000000001,.arr 2 (a.map (aB .m))),(1000000002,.arr 1 (b.map AV.i)),(1000000003,.arr 1 (c.map AV.i))] (.tup []) ([(470000003,.arr 2 (r.2.2.2.1.map (aB .m))),(1000000000,.var (.agg [.lst .m 1 (r.1.map AV.z),.lst .m 4 (r.2.1.map (ai .m)),.i r.2.2.1,.sl 470000003 0 r.2.2.2.1.length])),(1000000003,.arr 1 (r.2.2.2.2.map AV.i))]))(d:Int)(g:List ByteArray)(j:List ay)(k:Int)(a:List ar)(b:List Int)(c:List Int){r:List ByteArray×List ay×Int×List ar×List Int}(h:BR l d g j k a b c=some r):OkM Tryz.prog 240 [.pt 1000000000 0 0,.agg [.i d,.sl 1000000002 0 b.length],.sl 1000000003 0 c.length] [(1000000000,.var (.agg [.lst .m 1 (g.map AV.z),.lst .m 4 (j.map (ai .m)),.i k,.sl 1000000001 0 a.length])),(1000000001,.arr 2 (a.map (aB .m))),(1000000002,.arr 1 (b.map AV.i)),(1000000003,.arr 1 (c.map AV.i))] (.tup []) ([(470000003,.arr 2 (r.2.2.2.1.map (aB .m))),(1000000000,.var (.agg [.lst .m 1 (r.1.map AV.z),.lst .m 4 (r.2.1.map (ai .m)),.i r.2.2.1,.sl 470000003 0 r.2.2.2.1.length])),(1000000003,.arr 1 (r.2.2.2.2.map AV.i))]):=by
 refine aZ (lr:=[470000003,1000000000,1000000003]) bd Ov rfl rfl ?_;unfold BR at h;simp only[ZC,za,cy];obtain⟨y,s,h⟩:=ae h;obtain⟨t,u,h⟩:=ae h;obtain⟨p,h⟩|⟨p,h⟩:=aq h
 ·obtain⟨a1,x,h⟩:=ae h;have f:=ZA (aI s) (ZA u p);refine ZF f ?_;refine ZWG f (w_fq _ _ _ _ _ x) [49,1000000000,1000000001] [2400049] ?_;cases h;exact ZL f @cy.eq_1
 ·obtain⟨b1,v,h⟩:=ae h;try refine ZF (ZA (aI s) (ZA u p)) ?_
  first|refine cK (aY (aC (w_al d g j k a b c l t q) v ?_)) (fun τ w=>?_)|refine dx (aC (w_al d g j k a b c l t q) v ?_) (fun τ w=>?_)
  ·exact ZK (ZA @Mq.eq_1 @yz.eq_1)
  ·cases h;refine lN w (by decide) ?_ rfl;exact ZK (ZA @cy.eq_1 @yz.eq_1)
theorem w_df:∀(n:Nat)(d:Int)(g:List ByteArray)(j:List ay)(k:Int)(a:List ar)(b:List Int)(c:List Int){r:List ByteArray×List ay×Int×List ar×List Int}(_:vK n d g j k a b c=some r),OkM Tryz.prog 240 [.pt 1000000000 0 0,.agg [.i d,.sl 1000000002 0 b.length],.sl 1000000003 0 c.length] [(1000000000,.var (.agg [.lst .m 1 (g.map AV.z),.lst .m 4 (j.map (ai .m)),.i k,.sl 1000000001 0 a.length])),(1000000001,.arr 2 (a.map (aB .m))),(1000000002,.arr 1 (b.map AV.i)),(1000000003,.arr 1 (c.map AV.i))] ((fun(r:List ByteArray×List ay×Int×List ar×List Int)=>.tup []) r) ((fun(r:List ByteArray×List ay×Int×List ar×List Int)=>[(470000003,.arr 2 (r.2.2.2.1.map (aB .m))),(1000000000,.var (.agg [.lst .m 1 (r.1.map AV.z),.lst .m 4 (r.2.1.map (ai .m)),.i r.2.2.1,.sl 470000003 0 r.2.2.2.1.length])),(1000000003,.arr 1 (r.2.2.2.2.map AV.i))]) r)
 |0,d,g,j,k,a,b,c,_,h=>by cases h
 |n+1,d,g,j,k,a,b,c,_,h=>Wk (vK n) (w_df n) d g j k a b c h
def KW(b:Int)(a:List Int)(c:Int)(v:Int×List ByteArray×List ay×Int×List ar):St:=⟨[(0,.pt 1000000000 0 0),(2,.sl 1000000001 0 a.length),(4,.pt 4 0 0),(6,.i c),(7,.i v.1)],[(4,.var (.agg [.i b,.lst .m 1 []])),(470000003,.arr 2 (v.2.2.2.2.map (aB .m))),(1000000000,.var (.agg [.lst .m 1 (v.2.1.map AV.z),.lst .m 4 (v.2.2.1.map (ai .m)),.i v.2.2.2.1,.sl 470000003 0 v.2.2.2.2.length])),(1000000001,.arr 1 (a.map AV.i))]⟩
def zK(a:List Int)(v:List ByteArray×List ay×Int×List ar):St:=⟨[],[(470000003,.arr 2 (v.2.2.2.map (aB .m))),(1000000000,.var (.agg [.lst .m 1 (v.1.map AV.z),.lst .m 4 (v.2.1.map (ai .m)),.i v.2.2.1,.sl 470000003 0 v.2.2.2.length])),(1000000001,.arr 1 (a.map AV.i))]⟩
theorem w_bh(g:Int)(d:List Int)(j:Int)(a:Int×List ByteArray×List ay×Int×List ar)(o:(Int×List ByteArray×List ay×Int×List ar)⊕(List ByteArray×List ay×Int×List ar))(h:Tc g d j a=some o):AWP (OkS Tryz.prog) oD (qL [0,2,4,6,7] [4,470000003,1000000000,1000000001] (KW g d j) (qX 0 [] [470000003,1000000000,1000000001] (zK d)) o) (KW g d j a):=by
 have e:=ZA @KW.eq_1 @zK.eq_1;unfold Tc at h;simp only[ZC,KW,oD];obtain⟨q1,s1,h⟩:=ae h;try refine ZF trivial ?_
 refine aw (sh:=(fun v=>⟨[(0,.pt 1000000000 0 0),(2,.sl 1000000001 0 d.length),(4,.pt 4 0 0),(6,.i j),(7,.i a.1),(39,.b v)],[(4,.var (.agg [.i g,.lst .m 1 []])),(470000003,.arr 2 (a.2.2.2.2.map (aB .m))),(1000000000,.var (.agg [.lst .m 1 (a.2.1.map AV.z),.lst .m 4 (a.2.2.1.map (ai .m)),.i a.2.2.2.1,.sl 470000003 0 a.2.2.2.2.length])),(1000000001,.arr 1 (d.map AV.i))]⟩)) (s:=q1) ?_ ?_
 ·replace h:=s1;obtain⟨q,h⟩|⟨q,h⟩:=aq h
  ·cases h;exact ZL q trivial
  ·cases h;exact ZL q trivial
 ·simp only[ZC,uQ];obtain⟨c,h⟩|⟨c,h⟩:=aq h
  ·obtain⟨a1,t1,h⟩:=ae h;refine ZF c ?_;refine ZSG c (La _ _ _ t1) ?_;obtain⟨u1,v1,h⟩:=ae h;try refine ZF c ?_
   refine aw (sh:=(fun v=>⟨[(0,.pt 1000000000 0 0),(2,.sl 1000000001 0 d.length),(4,.pt 4 0 0),(6,.i j),(7,.i a.1),(8,.i a1),(56,.b v)],[(4,.var (.agg [.i g,.lst .m 1 []])),(470000003,.arr 2 (a.2.2.2.2.map (aB .m))),(1000000000,.var (.agg [.lst .m 1 (a.2.1.map AV.z),.lst .m 4 (a.2.2.1.map (ai .m)),.i a.2.2.2.1,.sl 470000003 0 a.2.2.2.2.length])),(1000000001,.arr 1 (d.map AV.i))]⟩)) (s:=u1) ?_ ?_
   ·replace h:=v1;obtain⟨t,h⟩|⟨t,h⟩:=aq h
    ·obtain⟨j2,w1,h⟩:=ae h;have f:=ZA c t;refine ZF f ?_;refine ZSG f (w_m _ _ w1) ?_;cases h;exact ZL f trivial
    ·cases h;exact ZL (ZA c t) trivial
   ·simp only[ZC,va];obtain⟨u,h⟩|⟨u,h⟩:=aq h
    ·obtain⟨b1,x1,h⟩:=ae h;have f:=ZA c u;refine ZF f ?_;refine ZUG f (Ju _ x1) ?_;obtain⟨w,k,h⟩:=aO h;have y1:Row.arr 1 [(.i a.1:AV)]=Row.arr 1 (w.map AV.i):=by rw[<-k];rfl
     have c1:w.length=1:=by rw[<-k];rfl
     obtain⟨k2,z1,h⟩:=ae h;have d1:=aI z1;obtain⟨g1,l,h⟩:=aO h;have a2:b1.map AV.i++w.map AV.i=g1.map AV.i:=by rw[<-l,List.map_append]
     have i1:b1.length+1=g1.length:=by simp[<-k,<-l]<;>omega
     rw[i1] at d1;obtain⟨j1,b2,h⟩:=ae h;have f:=ZA f (ZA y1 (ZA c1 (ZA d1 (ZA a2 i1))));refine ZF f ?_;refine ZUG f (Ju _ b2) ?_;obtain⟨x,p,h⟩:=aO h;have c2:Row.arr 1 [(.i a1:AV)]=Row.arr 1 (x.map AV.i):=by rw[<-p];rfl
     have k1:x.length=1:=by rw[<-p];rfl
     obtain⟨l2,d2,h⟩:=ae h;have l1:=aI d2;obtain⟨m1,y,h⟩:=aO h;have g2:j1.map AV.i++x.map AV.i=m1.map AV.i:=by rw[<-y,List.map_append]
     have p1:j1.length+1=m1.length:=by simp[<-k,<-l,<-p,<-y]<;>omega
     rw[p1] at l1;obtain⟨m2,i2,h⟩:=ae h;have f:=ZA f (ZA c2 (ZA k1 (ZA l1 (ZA g2 p1))));refine ZF f ?_;refine ZWG f (w_df N0 _ _ _ _ _ _ _ i2) [470000003,1000000000,1000000003] [477300003] ?_;cases h;exact ZL f (ZA e (ZA k.symm (ZA l.symm (ZA p.symm (ZA y.symm (ZA c1 k1))))))
    ·cases h;exact ZL (ZA c u) e
  ·cases h;exact ZL c e
theorem w_hd(b:Int)(d:List ByteArray)(g:List ay)(j:Int)(a:List Int){r:List ByteArray×List ay×Int×List ar×List Int}(h:Qj b d g j a=some r):OkM Tryz.prog 240 [.pt 1000000000 0 0,.agg [.i b,.lst .u 1 []],.sl 1000000001 0 a.length] [(1000000000,.var (.agg [.lst .m 1 (d.map AV.z),.lst .m 4 (g.map (ai .m)),.i j,.lst .u 2 []])),(1000000001,.arr 1 (a.map AV.i))] (.tup []) ([(470000003,.arr 2 (r.2.2.2.1.map (aB .m))),(1000000000,.var (.agg [.lst .m 1 (r.1.map AV.z),.lst .m 4 (r.2.1.map (ai .m)),.i r.2.2.1,.sl 470000003 0 r.2.2.2.1.length])),(1000000001,.arr 1 (r.2.2.2.2.map AV.i))]):=by
 refine aZ (lr:=[470000003,1000000000,1000000001]) bd Va rfl rfl ?_;unfold Qj at h;simp only[ZC,FF,cy];obtain⟨v,k,h⟩:=ae h;obtain⟨l,p,h⟩:=ae h;obtain⟨c,h⟩|⟨c,h⟩:=aq h
 ·obtain⟨w,t,h⟩:=ae h;have f:=ZA (aI k) (ZA p c);refine ZF f ?_;refine ZWG f (w_hj _ _ _ _ _ t) [49,1000000000,1000000001] [2400049] ?_;cases h;exact ZL f @cy.eq_1
 ·obtain⟨x,q,h⟩:=ae h;try refine ZF (ZA (aI k) (ZA p c)) ?_
  first|refine cK (aY (aC (w_bh b a l) q ?_)) (fun τ s=>?_)|refine dx (aC (w_bh b a l) q ?_) (fun τ s=>?_)
  ·exact ZK (ZA @KW.eq_1 @zK.eq_1)
  ·cases h;refine lN s (by decide) ?_ rfl;exact ZK (ZA @cy.eq_1 @zK.eq_1)
theorem w_fr(c:ah)(d:Int)(k:Int){r:Bool×List ar}(h:Lr c d k=some r):OkM Tryz.prog 218 [.agg [.lst .m 1 (((c).Nodes).map AV.z),.lst .m 4 (((c).Fibers).map (ai .m))],.i d,.i k] [] (.tup [.sl 6 0 r.2.length,.b r.1]) ([(6,.arr 2 (r.2.map (aB .m)))]):=by
 refine aZ (lr:=[6]) bd Us rfl rfl ?_;unfold Lr at h;simp only[ZC,LG,fY];obtain⟨l,a,h⟩:=aO h;have p:Row.arr 1 [(.i d:AV)]=Row.arr 1 (l.map AV.i):=by rw[<-a];rfl
 have g:l.length=1:=by rw[<-a];rfl
 obtain⟨t,q,h⟩:=ae h;have f:=ZA p g;refine ZF f ?_;refine ZWG f (w_hd _ _ _ _ _ q) [470000003,1000000000,1000000001] [471900003] ?_;obtain⟨j,h⟩|⟨j,h⟩:=aq h
 ·cases h;exact ZL (ZA f j) (ZA @fY.eq_1 (ZA a.symm g))
 ·obtain⟨u,s,h⟩:=ae h;cases h;exact ZL (ZA f (ZA j (aI s))) (ZA @fY.eq_1 (ZA a.symm g))
def MT(b:ah)(d:Nat)(g:Nat)(a:be)(j:List aR)(c:Bool×List ar)(v:Int×List ar×List Int):St:=⟨[(1,.sl 1000000000 d g),(3,.pt 3 0 0),(5,.pt 5 0 0),(9,.sl 9 0 v.2.1.length),(10,.sl 10 0 v.2.2.length),(11,.sl 11 0 c.2.length),(13,.i v.1)],[(3,.var (.agg [.lst .m 1 (((b).Nodes).map AV.z),.lst .m 4 (((b).Fibers).map (ai .m))])),(5,.var (.agg [.i ((a).From),.i ((a).To),.i ((a).Rate),.i ((a).Class)])),(9,.arr 2 (v.2.1.map (aB .m))),(10,.arr 1 (v.2.2.map AV.i)),(11,.arr 2 (c.2.map (aB .m))),(1000000000,.arr 2 (j.map (aF .u)))]⟩
def zO(a:List aR)(v:List ar×List Int):St:=⟨[(9,.sl 9 0 v.1.length),(10,.sl 10 0 v.2.length)],[(9,.arr 2 (v.1.map (aB .m))),(10,.arr 1 (v.2.map AV.i)),(1000000000,.arr 2 (a.map (aF .u)))]⟩
theorem w_au(l:ah)(d:Nat)(g:Nat)(p:be)(b:List aR)(q:Bool×List ar)(a:Int×List ar×List Int)(o:(Int×List ar×List Int)⊕(List ar×List Int))(h:JF l d g p b q a=some o):AWP (OkS Tryz.prog) nX (qL [1,3,5,9,10,11,13] [3,5,9,10,11,1000000000] (MT l d g p b q) (qX 0 [9,10] [9,10,1000000000] (zO b)) o) (MT l d g p b q a):=by
 have e:=ZA @MT.eq_1 @zO.eq_1;unfold JF at h;simp only[ZC,MT,nX];obtain⟨s,h⟩|⟨s,h⟩:=aq h
 ·obtain⟨b2,k1,h⟩:=ae h;obtain⟨y,l1,h⟩:=ae h;obtain⟨c2,m1,h⟩:=ae h;have f:=ZA s (ZA (aI k1) l1);refine ZF f ?_;refine ZSG f (HB _ _ m1) ?_;obtain⟨p1,q1,h⟩:=aO h;have s1:sub (b.map (aF .u)) d g=p1.map (aF .u):=by rw[bP,q1]
  obtain⟨t1,u1,h⟩:=ae h;have f:=ZA f s1;refine ZF f ?_;refine ZSG f (Vf _ _ _ u1) ?_;obtain⟨t,h⟩|⟨t,h⟩:=aq h
  ·obtain⟨v,c,h⟩:=aO h;have v1:Row.arr 2 [(.agg [.i y.Start,.lst .m 1 (y.Fibers.map AV.i)]:AV)]=Row.arr 2 (v.map (aB .m)):=by rw[<-c];rfl
   have z:v.length=1:=by rw[<-c];rfl
   obtain⟨d2,w1,h⟩:=ae h;have a1:=aI w1;obtain⟨b1,j,h⟩:=aO h;have x1:a.2.1.map (aB .m)++v.map (aB .m)=b1.map (aB .m):=by rw[<-j,List.map_append]
   have c1:a.2.1.length+1=b1.length:=by simp[<-c,<-j]<;>omega
   rw[c1] at a1;obtain⟨w,k,h⟩:=aO h;have y1:Row.arr 1 [(.i t1:AV)]=Row.arr 1 (w.map AV.i):=by rw[<-k];rfl
   have d1:w.length=1:=by rw[<-k];rfl
   obtain⟨g2,z1,h⟩:=ae h;have g1:=aI z1;obtain⟨i1,x,h⟩:=aO h;have a2:a.2.2.map AV.i++w.map AV.i=i1.map AV.i:=by rw[<-x,List.map_append]
   have j1:a.2.2.length+1=i1.length:=by simp[<-c,<-j,<-k,<-x]<;>omega
   rw[j1] at g1;cases h;exact ZL (ZA f (ZA t (ZA v1 (ZA z (ZA a1 (ZA x1 (ZA c1 (ZA y1 (ZA d1 (ZA g1 (ZA a2 j1))))))))))) (ZA e (ZA c.symm (ZA j.symm (ZA k.symm (ZA x.symm (ZA z d1))))))
  ·cases h;exact ZL (ZA f t) e
 ·cases h;exact ZL s e
theorem w_ft(c:ah)(g:Nat)(j:Nat)(a:be)(k:List aR){r:Bool×List ar×List Int×List aR}(h:Jz c g j a k=some r):OkM Tryz.prog 184 [.agg [.lst .m 1 (((c).Nodes).map AV.z),.lst .m 4 (((c).Fibers).map (ai .m))],.sl 1000000000 g j,.agg [.i ((a).From),.i ((a).To),.i ((a).Rate),.i ((a).Class)]] [(1000000000,.arr 2 (k.map (aF .u)))] (.tup [.sl 6 0 r.2.1.length,.sl 7 0 r.2.2.1.length,.b r.1]) ([(6,.arr 2 (r.2.1.map (aB .m))),(7,.arr 1 (r.2.2.1.map AV.i)),(1000000000,.arr 2 (r.2.2.2.map (aF .u)))]):=by
 refine aZ (lr:=[6,7,1000000000]) bd VM rfl rfl ?_;unfold Jz at h;simp only[ZC,Fk,jr];obtain⟨l,p,h⟩:=ae h;refine ZF trivial ?_;refine ZWG trivial (w_fr _ _ _ p) [6] [2400006] ?_;obtain⟨d,h⟩|⟨d,h⟩:=aq h
 ·cases h;exact ZL d @jr.eq_1
 ·obtain⟨s,q,h⟩:=ae h;try refine ZF d ?_
  refine aw (aY (aC (w_au c g j a k l) q ?_)) ?_
  ·exact ZK (ZA @MT.eq_1 @zO.eq_1)
  ·simp only[ZC,zO,tX];cases h;exact ZL d @jr.eq_1
theorem w_du(c:ah)(g:Nat)(j:Nat)(a:be)(k:List aR){r:Bool×List ar×List Int×List aR}(h:Cw c g j a k=some r):OkM Tryz.prog 121 [.agg [.lst .m 1 (((c).Nodes).map AV.z),.lst .m 4 (((c).Fibers).map (ai .m))],.sl 1000000000 g j,.agg [.i ((a).From),.i ((a).To),.i ((a).Rate),.i ((a).Class)]] [(1000000000,.arr 2 (k.map (aF .u)))] (.tup [.sl 6 0 r.2.1.length,.sl 7 0 r.2.2.1.length,.b r.1]) ([(6,.arr 2 (r.2.1.map (aB .m))),(7,.arr 1 (r.2.2.1.map AV.i)),(1000000000,.arr 2 (r.2.2.2.map (aF .u)))]):=by
 refine aZ (lr:=[6,7,1000000000]) bd Tg rfl rfl ?_;unfold Cw at h;simp only[ZC,KO,jr];obtain⟨q,t,h⟩:=ae h;try refine ZF trivial ?_
 refine aw (sh:=(fun v=>⟨[(1,.sl 1000000000 g j),(3,.pt 3 0 0),(5,.pt 5 0 0),(22,.b v)],[(3,.var (.agg [.lst .m 1 (((c).Nodes).map AV.z),.lst .m 4 (((c).Fibers).map (ai .m))])),(5,.var (.agg [.i ((a).From),.i ((a).To),.i ((a).Rate),.i ((a).Class)])),(1000000000,.arr 2 (k.map (aF .u)))]⟩)) (s:=q) ?_ ?_
 ·replace h:=t;obtain⟨g1,w,h⟩:=ae h;refine ZF trivial ?_;refine ZSG trivial (VI _ w) ?_;obtain⟨l,h⟩|⟨l,h⟩:=aq h
  ·cases h;exact ZL l trivial
  ·obtain⟨x,y,h⟩:=aO h;have a1:sub (k.map (aF .u)) g j=x.map (aF .u):=by rw[bP,y]
   obtain⟨i1,b1,h⟩:=ae h;have f:=ZA l a1;refine ZF f ?_;refine ZSG f (w_fw _ b1) ?_;obtain⟨p,h⟩|⟨p,h⟩:=aq h
   ·cases h;exact ZL (ZA f p) trivial
   ·obtain⟨j1,c1,h⟩:=ae h;have f:=ZA f p;refine ZF f ?_;refine ZSG f (w_fx _ _ c1) ?_;cases h;exact ZL f trivial
 ·simp only[ZC,tf];obtain⟨d,h⟩|⟨d,h⟩:=aq h
  ·cases h;exact ZL d @jr.eq_1
  ·obtain⟨k1,d1,h⟩:=ae h;refine ZF d ?_;refine ZWG d (w_ft _ _ _ _ _ d1) [6,7,1000000000] [2900006,2900007] ?_;cases h;exact ZL d @jr.eq_1
theorem w_eq(d:ah)(j:Nat)(k:Nat)(c:be)(l:List aR){r:ar×ar×Bool×List aR}(h:CK d j k c l=some r):OkM Tryz.prog 44 [.agg [.lst .m 1 (((d).Nodes).map AV.z),.lst .m 4 (((d).Fibers).map (ai .m))],.sl 1000000000 j k,.agg [.i ((c).From),.i ((c).To),.i ((c).Rate),.i ((c).Class)]] [(1000000000,.arr 2 (l.map (aF .u)))] (.tup [.agg [.i ((r.1).Start),.lst .m 1 (((r.1).Fibers).map AV.i)],.agg [.i ((r.2.1).Start),.lst .m 1 (((r.2.1).Fibers).map AV.i)],.b r.2.2.1]) ([(1000000000,.arr 2 (r.2.2.2.map (aF .u)))]):=by
 refine aZ (lr:=[1000000000]) bd Wa rfl rfl ?_;unfold CK at h;simp only[ZC,Rx,tD];obtain⟨x,p,h⟩:=ae h;refine ZF trivial ?_;refine ZWG trivial (w_du _ _ _ _ _ p) [6,7,1000000000] [1900006,1900007] ?_;obtain⟨a,h⟩|⟨a,h⟩:=aq h
 ·cases h;exact ZL a @tD.eq_1
 ·obtain⟨y,q,h⟩:=ae h;refine ZF a ?_;refine ZUG a (w_fv _ _ _ q) ?_;obtain⟨g,h⟩|⟨g,h⟩:=aq h
  ·cases h;exact ZL (ZA a g) @tD.eq_1
  ·obtain⟨a1,s,h⟩:=ae h;obtain⟨b1,t,h⟩:=ae h;obtain⟨c1,v,h⟩:=ae h;obtain⟨d1,w,h⟩:=ae h;cases h;exact ZL (ZA a (ZA g (ZA (aI s) (ZA t (ZA (aI v) w))))) @tD.eq_1
theorem w_er(a:ar){r:ar}(h:LA a=some r):Ok Tryz.prog 214 [.agg [.i a.Start,.lst .o 1 (a.Fibers.map AV.i)]] (.agg [.i r.Start,.lst .u 1 (r.Fibers.map AV.i)]):=by
 refine aA bd m214 rfl ?_;unfold LA at h;simp only[ZC,A214,dh,aJ];obtain⟨c,b,h⟩:=ae h;refine ZF trivial ?_;refine ZUG trivial (Ju _ b) ?_;cases h;exact ZL trivial @dh.eq_1
theorem Ux(a:af){r:af}(h:vZ a=some r):Ok Tryz.prog 167 [.agg [.i a.Id,.i a.Class,.i a.Work.Start,.lst .o 1 (a.Work.Fibers.map AV.i),.i a.WorkBlock.First,.i a.WorkBlock.Count,.i a.Spare.Start,.lst .o 1 (a.Spare.Fibers.map AV.i),.i a.SpareBlock.First,.i a.SpareBlock.Count]] (.agg [.i r.Id,.i r.Class,.i r.Work.Start,.lst .u 1 (r.Work.Fibers.map AV.i),.i r.WorkBlock.First,.i r.WorkBlock.Count,.i r.Spare.Start,.lst .u 1 (r.Spare.Fibers.map AV.i),.i r.SpareBlock.First,.i r.SpareBlock.Count]):=by
 refine aA bd m167 rfl ?_;unfold vZ at h;simp only[ZC,A167,Uv,aJ];obtain⟨d,b,h⟩:=ae h;refine ZF trivial ?_;refine ZUG trivial (w_er _ b) ?_;obtain⟨g,c,h⟩:=ae h;refine ZF trivial ?_;refine ZUG trivial (w_er _ c) ?_;cases h;exact ZL trivial @Uv.eq_1
def sA(b:List af)(a:af)(v:Int×List af):St:=⟨[(0,.lst .o 10 (b.map (aj .o))),(3,.pt 3 0 0),(5,.sl 5 0 v.2.length),(6,.i v.1)],[(3,.var (.agg [.i a.Id,.i a.Class,.i a.Work.Start,.lst .o 1 (a.Work.Fibers.map AV.i),.i a.WorkBlock.First,.i a.WorkBlock.Count,.i a.Spare.Start,.lst .o 1 (a.Spare.Fibers.map AV.i),.i a.SpareBlock.First,.i a.SpareBlock.Count])),(5,.arr 10 (v.2.map (aj .u)))]⟩
theorem w_bf(g:List af)(a:af)(d:Int×List af)(o:(Int×List af)⊕(Int×List af))(h:Js g a d=some o):AWP (OkS Tryz.prog) HX (qL [0,3,5,6] [3,5] (sA g a) (qX 0 [0,3,5,6] [3,5] (sA g a)) o) (sA g a d):=by
 have e:=ZA @sA.eq_1 @sA.eq_1;unfold Js at h;simp only[ZC,sA,HX];obtain⟨y,z,h⟩:=ae h;try refine ZF trivial ?_
 refine aw (sh:=(fun v=>⟨[(0,.lst .o 10 (g.map (aj .o))),(3,.pt 3 0 0),(5,.sl 5 0 d.2.length),(6,.i d.1),(21,.b v)],[(3,.var (.agg [.i a.Id,.i a.Class,.i a.Work.Start,.lst .o 1 (a.Work.Fibers.map AV.i),.i a.WorkBlock.First,.i a.WorkBlock.Count,.i a.Spare.Start,.lst .o 1 (a.Spare.Fibers.map AV.i),.i a.SpareBlock.First,.i a.SpareBlock.Count])),(5,.arr 10 (d.2.map (aj .u)))]⟩)) (s:=y) ?_ ?_
 ·replace h:=z;obtain⟨k,h⟩|⟨k,h⟩:=aq h
  ·obtain⟨j1,a1,h⟩:=ae h;cases h;exact ZL (ZA k (aM a1)) trivial
  ·cases h;exact ZL k trivial
 ·simp only[ZC,RO];obtain⟨l,h⟩|⟨l,h⟩:=aq h
  ·obtain⟨k1,b1,h⟩:=ae h;obtain⟨c,c1,h⟩:=ae h;have f:=ZA l (aM b1);refine ZF f ?_;refine ZUG f (Ux _ c1) ?_;obtain⟨m,j,h⟩:=aO h;have d1:Row.arr 10 [(.agg [.i c.Id,.i c.Class,.i c.Work.Start,.lst .u 1 (c.Work.Fibers.map AV.i),.i c.WorkBlock.First,.i c.WorkBlock.Count,.i c.Spare.Start,.lst .u 1 (c.Spare.Fibers.map AV.i),.i c.SpareBlock.First,.i c.SpareBlock.Count]:AV)]=Row.arr 10 (m.map (aj .u)):=by rw[<-j];rfl
   have q:m.length=1:=by rw[<-j];rfl
   obtain⟨l1,g1,h⟩:=ae h;have t:=aI g1;obtain⟨w,p,h⟩:=aO h;have i1:d.2.map (aj .u)++m.map (aj .u)=w.map (aj .u):=by rw[<-p,List.map_append]
   have x:d.2.length+1=w.length:=by simp[<-j,<-p]<;>omega
   rw[x] at t;cases h;exact ZL (ZA f (ZA d1 (ZA q (ZA t (ZA i1 x))))) (ZA e (ZA j.symm (ZA p.symm q)))
  ·cases h;exact ZL l e
def EC(a:List af)(v:Int×List af):St:=⟨[(0,.lst .o 10 (a.map (aj .o))),(5,.sl 5 0 v.2.length),(6,.i v.1)],[(5,.arr 10 (v.2.map (aj .u)))]⟩
def zn(v:List af):St:=⟨[(5,.sl 5 0 v.length)],[(5,.arr 10 (v.map (aj .u)))]⟩
theorem w_az(d:List af)(b:Int×List af)(o:(Int×List af)⊕(List af))(h:Mx d b=some o):AWP (OkS Tryz.prog) Eu (qL [0,5,6] [5] (EC d) (qX 2 [5] [5] (zn)) o) (EC d b):=by
 have e:=ZA @EC.eq_1 @zn.eq_1;unfold Mx at h;simp only[ZC,EC,Eu];obtain⟨g,h⟩|⟨g,h⟩:=aq h
 ·obtain⟨y,s,h⟩:=ae h;obtain⟨a,t,h⟩:=ae h;have f:=ZA g (aM s);refine ZF f ?_;refine ZUG f (Ux _ t) ?_;obtain⟨j,c,h⟩:=aO h;have v:Row.arr 10 [(.agg [.i a.Id,.i a.Class,.i a.Work.Start,.lst .u 1 (a.Work.Fibers.map AV.i),.i a.WorkBlock.First,.i a.WorkBlock.Count,.i a.Spare.Start,.lst .u 1 (a.Spare.Fibers.map AV.i),.i a.SpareBlock.First,.i a.SpareBlock.Count]:AV)]=Row.arr 10 (j.map (aj .u)):=by rw[<-c];rfl
  have l:j.length=1:=by rw[<-c];rfl
  obtain⟨z,w,h⟩:=ae h;have m:=aI w;obtain⟨p,k,h⟩:=aO h;have x:b.2.map (aj .u)++j.map (aj .u)=p.map (aj .u):=by rw[<-k,List.map_append]
  have q:b.2.length+1=p.length:=by simp[<-c,<-k]<;>omega
  rw[q] at m;cases h;exact ZL (ZA f (ZA v (ZA l (ZA m (ZA x q))))) (ZA e (ZA c.symm (ZA k.symm l)))
 ·cases h;exact ZL g e
theorem w_ga(c:List af)(a:af){r:List af}(h:Lc c a=some r):Ok Tryz.prog 93 [.lst .o 10 (c.map (aj .o)),.agg [.i a.Id,.i a.Class,.i a.Work.Start,.lst .o 1 (a.Work.Fibers.map AV.i),.i a.WorkBlock.First,.i a.WorkBlock.Count,.i a.Spare.Start,.lst .o 1 (a.Spare.Fibers.map AV.i),.i a.SpareBlock.First,.i a.SpareBlock.Count]] (.lst .u 10 (r.map (aj .u))):=by
 refine aA bd m93 rfl ?_;unfold Lc at h;simp only[ZC,A93,az,aJ];obtain⟨l,s,h⟩:=ae h;try refine ZF trivial ?_
 refine aw (aY (aC (w_bf c a) s ?_)) ?_
 ·exact ZK (ZA @sA.eq_1 @sA.eq_1)
 ·simp only[ZC,sA,SF];obtain⟨b,t,h⟩:=ae h;refine ZF trivial ?_;refine ZUG trivial (Ux _ t) ?_;obtain⟨g,d,h⟩:=aO h;have v:Row.arr 10 [(.agg [.i b.Id,.i b.Class,.i b.Work.Start,.lst .u 1 (b.Work.Fibers.map AV.i),.i b.WorkBlock.First,.i b.WorkBlock.Count,.i b.Spare.Start,.lst .u 1 (b.Spare.Fibers.map AV.i),.i b.SpareBlock.First,.i b.SpareBlock.Count]:AV)]=Row.arr 10 (g.map (aj .u)):=by rw[<-d];rfl
  have j:g.length=1:=by rw[<-d];rfl
  obtain⟨z,w,h⟩:=ae h;have m:=aI w;obtain⟨p,k,h⟩:=aO h;have x:l.2.map (aj .u)++g.map (aj .u)=p.map (aj .u):=by rw[<-k,List.map_append]
  have q:l.2.length+1=p.length:=by simp[<-d,<-k]<;>omega
  rw[q] at m;obtain⟨a1,y,h⟩:=ae h;have f:=ZA v (ZA j (ZA m (ZA x q)));try refine ZF f ?_
  refine aw (aY (aC (w_az c) y ?_)) ?_
  ·exact ZK (ZA @EC.eq_1 (ZA @zn.eq_1 (ZA d.symm (ZA k.symm j))))
  ·simp only[ZC,zn,RT];cases h;exact ZL f (ZA @az.eq_1 j)
theorem w_gi(j:ah)(d:ax){r:be×ax}(h:Ir j d=some r):OkM Tryz.prog 84 [.pt 1000000000 0 0,.agg [.lst .m 1 (((j).Nodes).map AV.z),.lst .m 4 (((j).Fibers).map (ai .m))]] [(1000000000,.var (.agg [.lst .o 1 (((d).code).map AV.u8),.i ((d).atF),.sc (.int .u64 ((d).seed))]))] (.agg [.i ((r.1).From),.i ((r.1).To),.i ((r.1).Rate),.i ((r.1).Class)]) ([(1000000000,.var (.agg [.lst .o 1 (((r.2).code).map AV.u8),.i ((r.2).atF),.sc (.int .u64 ((r.2).seed))]))]):=by
 have e:=@Ky.eq_1;refine aZ (lr:=[1000000000]) bd WE rfl rfl ?_;unfold Ir at h;simp only[ZC,Sa,Ky];obtain⟨m1,w,h⟩:=ae h;refine ZF trivial ?_;refine ZWG trivial (w_b _ _ w) [1000000000] [] ?_;obtain⟨p1,x,h⟩:=ae h;refine ZF trivial ?_;refine ZWG trivial (w_b _ _ x) [1000000000] [] ?_;obtain⟨q1,y,h⟩:=ae h;obtain⟨q,a,h⟩:=aO h;have a1:Row.arr 1 [(.i 10:AV),(.i 20:AV),(.i 40:AV),(.i 50:AV),(.i 90:AV),(.i 120:AV)]=Row.arr 1 (q.map AV.i):=by rw[<-a];rfl
 have b:q.length=6:=by rw[<-a];rfl
 obtain⟨s1,b1,h⟩:=ae h;have f:=ZA (aI y) (ZA a1 b);refine ZF f ?_;refine ZWG f (w_r _ _ b1) [1000000000,1000000001] [] ?_;obtain⟨t1,c1,h⟩:=ae h;refine ZF f ?_;refine ZWG f (w_b _ _ c1) [1000000000] [] ?_;obtain⟨u1,d1,h⟩:=ae h;refine ZF f ?_;refine ZWG f (w_b _ _ d1) [1000000000] [] ?_;obtain⟨c,h⟩|⟨c,h⟩:=aq h
 ·obtain⟨v1,g1,h⟩:=ae h;have f:=ZA f c;refine ZF f ?_;refine ZWG f (w_b _ _ g1) [1000000000] [] ?_;cases h;exact ZL f (ZA e (ZA a.symm b))
 ·obtain⟨g,h⟩|⟨g,h⟩:=aq h
  ·obtain⟨s,k,h⟩:=aO h;have i1:Row.arr 1 [(.i 0:AV),(.i 1:AV),(.i 1000:AV),(.i 1001:AV)]=Row.arr 1 (s.map AV.i):=by rw[<-k];rfl
   have t:s.length=4:=by rw[<-k];rfl
   obtain⟨w1,j1,h⟩:=ae h;have f:=ZA f (ZA c (ZA g (ZA i1 t)));refine ZF f ?_;refine ZWG f (w_r _ _ j1) [1000000000,1000000001] [] ?_;cases h;exact ZL f (ZA e (ZA a.symm (ZA k.symm (ZA b t))))
  ·obtain⟨l,h⟩|⟨l,h⟩:=aq h
   ·obtain⟨u,p,h⟩:=aO h;have k1:Row.arr 1 [(.i (-1):AV),(.i 3:AV)]=Row.arr 1 (u.map AV.i):=by rw[<-p];rfl
    have v:u.length=2:=by rw[<-p];rfl
    obtain⟨x1,l1,h⟩:=ae h;have f:=ZA f (ZA c (ZA g (ZA l (ZA k1 v))));refine ZF f ?_;refine ZWG f (w_r _ _ l1) [1000000000,1000000001] [] ?_;cases h;exact ZL f (ZA e (ZA a.symm (ZA p.symm (ZA b v))))
   ·cases h;exact ZL (ZA f (ZA c (ZA g l))) (ZA e (ZA a.symm b))
theorem w_fy(d:ah)(k:Nat)(l:Nat)(a:be)(p:List aR){r:ar×Int×Bool×List aR}(h:EN d k l a p=some r):OkM Tryz.prog 89 [.agg [.lst .m 1 (((d).Nodes).map AV.z),.lst .m 4 (((d).Fibers).map (ai .m))],.sl 1000000000 k l,.agg [.i ((a).From),.i ((a).To),.i ((a).Rate),.i ((a).Class)]] [(1000000000,.arr 2 (p.map (aF .u)))] (.tup [.agg [.i ((r.1).Start),.lst .m 1 (((r.1).Fibers).map AV.i)],.i r.2.1,.b r.2.2.1]) ([(1000000000,.arr 2 (r.2.2.2.map (aF .u)))]):=by
 refine aZ (lr:=[1000000000]) bd Wx rfl rfl ?_;unfold EN at h;simp only[ZC,RI,zt];obtain⟨c,q,h⟩:=ae h;refine ZF trivial ?_;refine ZWG trivial (w_du _ _ _ _ _ q) [6,7,1000000000] [1800006,1800007] ?_;obtain⟨t,w,h⟩:=ae h;refine ZF trivial ?_;refine ZSG trivial (w_fu _ _ w) ?_;obtain⟨x,y,h⟩:=ae h;try refine ZF trivial ?_
 refine aw (sh:=(fun v=>⟨[(6,.pt 6 0 0),(9,.sl 9 0 c.2.1.length),(10,.sl 10 0 c.2.2.1.length),(12,.i t),(29,.b v)],[(6,.var (.agg [.i 0,.lst .u 1 []])),(9,.arr 2 (c.2.1.map (aB .m))),(10,.arr 1 (c.2.2.1.map AV.i)),(1000000000,.arr 2 (c.2.2.2.map (aF .u)))]⟩)) (s:=x) ?_ ?_
 ·replace h:=y;obtain⟨g,h⟩|⟨g,h⟩:=aq h
  ·cases h;exact ZL g trivial
  ·cases h;exact ZL g trivial
 ·simp only[ZC,Ai];obtain⟨j,h⟩|⟨j,h⟩:=aq h
  ·cases h;exact ZL j @zt.eq_1
  ·obtain⟨g1,a1,h⟩:=ae h;obtain⟨i1,b1,h⟩:=ae h;obtain⟨j1,c1,h⟩:=ae h;obtain⟨k1,d1,h⟩:=ae h;cases h;exact ZL (ZA j (ZA (aI a1) (ZA b1 (ZA (aI c1) d1)))) @zt.eq_1
def JD(b:ah)(c:Nat)(d:Nat)(a:af)(g:Int)(j:Int)(k:List af)(v:Int×af):St:=⟨[(1,.sl 1000000000 c d),(3,.i g),(4,.i j),(5,.pt 5 0 0),(7,.pt 7 0 0),(10,.pt 10 0 0),(12,.pt 12 0 0),(13,.i v.1)],[(5,.var (.agg [.lst .m 1 (((b).Nodes).map AV.z),.lst .m 4 (((b).Fibers).map (ai .m))])),(7,.var (.agg [.i ((a).Id),.i ((a).Class),.i (((a).Work).Start),.lst .m 1 ((((a).Work).Fibers).map AV.i),.i (((a).WorkBlock).First),.i (((a).WorkBlock).Count),.i (((a).Spare).Start),.lst .m 1 ((((a).Spare).Fibers).map AV.i),.i (((a).SpareBlock).First),.i (((a).SpareBlock).Count)])),(10,.var (.agg [.i 0,.i 0,.i 0,.lst .u 1 [],.i 0,.i 0,.i 0,.lst .u 1 [],.i 0,.i 0])),(12,.var (.agg [.i ((v.2).Id),.i ((v.2).Class),.i (((v.2).Work).Start),.lst .m 1 ((((v.2).Work).Fibers).map AV.i),.i (((v.2).WorkBlock).First),.i (((v.2).WorkBlock).Count),.i (((v.2).Spare).Start),.lst .u 1 ((((v.2).Spare).Fibers).map AV.i),.i (((v.2).SpareBlock).First),.i (((v.2).SpareBlock).Count)])),(1000000000,.arr 10 (k.map (aj .u)))]⟩
def zc(b:ah)(c:Nat)(d:Nat)(a:af)(g:Int)(j:List af)(v:af):St:=⟨[(1,.sl 1000000000 c d),(4,.i g),(5,.pt 5 0 0),(7,.pt 7 0 0),(10,.pt 10 0 0),(12,.pt 12 0 0)],[(5,.var (.agg [.lst .m 1 (((b).Nodes).map AV.z),.lst .m 4 (((b).Fibers).map (ai .m))])),(7,.var (.agg [.i ((a).Id),.i ((a).Class),.i (((a).Work).Start),.lst .m 1 ((((a).Work).Fibers).map AV.i),.i (((a).WorkBlock).First),.i (((a).WorkBlock).Count),.i (((a).Spare).Start),.lst .m 1 ((((a).Spare).Fibers).map AV.i),.i (((a).SpareBlock).First),.i (((a).SpareBlock).Count)])),(10,.var (.agg [.i 0,.i 0,.i 0,.lst .u 1 [],.i 0,.i 0,.i 0,.lst .u 1 [],.i 0,.i 0])),(12,.var (.agg [.i ((v).Id),.i ((v).Class),.i (((v).Work).Start),.lst .m 1 ((((v).Work).Fibers).map AV.i),.i (((v).WorkBlock).First),.i (((v).WorkBlock).Count),.i (((v).Spare).Start),.lst .u 1 ((((v).Spare).Fibers).map AV.i),.i (((v).SpareBlock).First),.i (((v).SpareBlock).Count)])),(1000000000,.arr 10 (j.map (aj .u)))]⟩
theorem w_ax(g:ah)(a:Nat)(c:Nat)(j:af)(k:Int)(l:Int)(d:List af)(s:Int×af)(o:(Int×af)⊕(af⊕(af×Bool×List af)))(h:Jw g a c j k d s=some o):AWP (OkS Tryz.prog) rL (qL [1,3,4,5,7,10,12,13] [5,7,10,12,1000000000] (JD g a c j k l d) (qS (qX 0 [1,4,5,7,10,12] [5,7,10,12,1000000000] (zc g a c j l d)) (qM mL [1000000000] (fun(r:af×Bool×List af)=>.tup [.agg [.i ((r.1).Id),.i ((r.1).Class),.i (((r.1).Work).Start),.lst .m 1 ((((r.1).Work).Fibers).map AV.i),.i (((r.1).WorkBlock).First),.i (((r.1).WorkBlock).Count),.i (((r.1).Spare).Start),.lst .m 1 ((((r.1).Spare).Fibers).map AV.i),.i (((r.1).SpareBlock).First),.i (((r.1).SpareBlock).Count)],.b r.2.1]) (fun(r:af×Bool×List af)=>[(1000000000,.arr 10 (r.2.2.map (aj .u)))]))) o) (JD g a c j k l d s):=by
 have e:=ZA @JD.eq_1 @zc.eq_1;unfold Jw at h;simp only[ZC,JD,rL];obtain⟨p,h⟩|⟨p,h⟩:=aq h
 ·cases h;exact ZL p @mL.eq_1
 ·obtain⟨t,v,h⟩:=aO h;have w:sub (d.map (aj .u)) a c=t.map (aj .u):=by rw[bP,v]
  obtain⟨y,x,h⟩:=ae h;have f:=ZA p w;refine ZF f ?_;refine ZSG f (w_dv _ _ _ x) ?_;obtain⟨q,h⟩|⟨q,h⟩:=aq h
  ·cases h;exact ZL (ZA f q) e
  ·cases h;exact ZL (ZA f q) e
def FU(a:ah)(b:Nat)(c:Nat)(d:Int)(g:List af)(v:Int×af):St:=⟨[(1,.sl 1000000000 b c),(4,.i d),(5,.pt 5 0 0),(7,.pt 7 0 0),(10,.pt 10 0 0),(14,.i v.1)],[(5,.var (.agg [.lst .m 1 (((a).Nodes).map AV.z),.lst .m 4 (((a).Fibers).map (ai .m))])),(7,.var (.agg [.i ((v.2).Id),.i ((v.2).Class),.i (((v.2).Work).Start),.lst .m 1 ((((v.2).Work).Fibers).map AV.i),.i (((v.2).WorkBlock).First),.i (((v.2).WorkBlock).Count),.i (((v.2).Spare).Start),.lst .m 1 ((((v.2).Spare).Fibers).map AV.i),.i (((v.2).SpareBlock).First),.i (((v.2).SpareBlock).Count)])),(10,.var (.agg [.i 0,.i 0,.i 0,.lst .u 1 [],.i 0,.i 0,.i 0,.lst .u 1 [],.i 0,.i 0])),(1000000000,.arr 10 (g.map (aj .u)))]⟩
def zA(a:List af)(v:af):St:=⟨[(7,.pt 7 0 0),(10,.pt 10 0 0)],[(7,.var (.agg [.i ((v).Id),.i ((v).Class),.i (((v).Work).Start),.lst .m 1 ((((v).Work).Fibers).map AV.i),.i (((v).WorkBlock).First),.i (((v).WorkBlock).Count),.i (((v).Spare).Start),.lst .m 1 ((((v).Spare).Fibers).map AV.i),.i (((v).SpareBlock).First),.i (((v).SpareBlock).Count)])),(10,.var (.agg [.i 0,.i 0,.i 0,.lst .u 1 [],.i 0,.i 0,.i 0,.lst .u 1 [],.i 0,.i 0])),(1000000000,.arr 10 (a.map (aj .u)))]⟩
theorem w_ay(g:ah)(c:Nat)(d:Nat)(j:Int)(a:List af)(p:Int×af)(o:(Int×af)⊕(af⊕(af×Bool×List af)))(h:Hi g c d j a p=some o):AWP (OkS Tryz.prog) sQ (qL [1,4,5,7,10,14] [5,7,10,1000000000] (FU g c d j a) (qS (qX 2 [7,10] [7,10,1000000000] (zA a)) (qM mL [1000000000] (fun(r:af×Bool×List af)=>.tup [.agg [.i ((r.1).Id),.i ((r.1).Class),.i (((r.1).Work).Start),.lst .m 1 ((((r.1).Work).Fibers).map AV.i),.i (((r.1).WorkBlock).First),.i (((r.1).WorkBlock).Count),.i (((r.1).Spare).Start),.lst .m 1 ((((r.1).Spare).Fibers).map AV.i),.i (((r.1).SpareBlock).First),.i (((r.1).SpareBlock).Count)],.b r.2.1]) (fun(r:af×Bool×List af)=>[(1000000000,.arr 10 (r.2.2.map (aj .u)))]))) o) (FU g c d j a p):=by
 have e:=ZA @FU.eq_1 @zA.eq_1;unfold Hi at h;simp only[ZC,FU,sQ];obtain⟨k,h⟩|⟨k,h⟩:=aq h
 ·obtain⟨q,s,h⟩:=aO h;have t:sub (a.map (aj .u)) c d=q.map (aj .u):=by rw[bP,s]
  obtain⟨w,v,h⟩:=ae h;have f:=ZA k t;refine ZF f ?_;refine ZSG f (w_dv _ _ _ v) ?_;obtain⟨l,h⟩|⟨l,h⟩:=aq h
  ·cases h;exact ZL (ZA f l) @mL.eq_1
  ·cases h;exact ZL (ZA f l) e
 ·cases h;exact ZL k e
theorem w_fz(c:ah)(d:Nat)(g:Nat)(a:af)(p:Int)(j:Int)(k:List af){r:af×Bool×List af}(h:IL c d g a p j k=some r):OkM Tryz.prog 92 [.agg [.lst .m 1 (((c).Nodes).map AV.z),.lst .m 4 (((c).Fibers).map (ai .m))],.sl 1000000000 d g,.agg [.i ((a).Id),.i ((a).Class),.i (((a).Work).Start),.lst .m 1 ((((a).Work).Fibers).map AV.i),.i (((a).WorkBlock).First),.i (((a).WorkBlock).Count),.i (((a).Spare).Start),.lst .m 1 ((((a).Spare).Fibers).map AV.i),.i (((a).SpareBlock).First),.i (((a).SpareBlock).Count)],.i p,.i j] [(1000000000,.arr 10 (k.map (aj .u)))] (.tup [.agg [.i ((r.1).Id),.i ((r.1).Class),.i (((r.1).Work).Start),.lst .m 1 ((((r.1).Work).Fibers).map AV.i),.i (((r.1).WorkBlock).First),.i (((r.1).WorkBlock).Count),.i (((r.1).Spare).Start),.lst .m 1 ((((r.1).Spare).Fibers).map AV.i),.i (((r.1).SpareBlock).First),.i (((r.1).SpareBlock).Count)],.b r.2.1]) ([(1000000000,.arr 10 (r.2.2.map (aj .u)))]):=by
 refine aZ (lr:=[1000000000]) bd VY rfl rfl ?_;unfold IL at h;simp only[ZC,RA,mL];obtain⟨q,s,h⟩:=ae h;try refine ZF trivial ?_
 refine bo (o:=q) (bu lC (aC (w_ax c d g a p j k) s ?_)) (fun y hv=>?_) (fun a1 hv e τ hne hq=>?_)
 ·exact ZK (ZA @JD.eq_1 @zc.eq_1)
 ·subst hv;simp only[] at h;simp only[ZC,zc,yh];obtain⟨l,h⟩|⟨l,h⟩:=aq h
  ·cases h;exact ZL l @mL.eq_1
  ·obtain⟨t,v,h⟩:=ae h;try refine ZF l ?_
   refine bo (o:=t) (bu lC (aC (w_ay c d g j k) v ?_)) (fun b1 hv=>?_) (fun c1 hv e τ hne hq=>?_)
   ·exact ZK (ZA @FU.eq_1 @zA.eq_1)
   ·subst hv;simp only[] at h;simp only[ZC,zA,yB];cases h;exact ZL l @mL.eq_1
   ·subst hv;simp only[] at h;obtain⟨rfl,w⟩:=hq;cases h;exact w
 ·subst hv;simp only[] at h;obtain⟨rfl,x⟩:=hq;cases h;exact x
def KH(b:ah)(c:Nat)(d:Nat)(g:Nat)(j:Nat)(a:be)(k:List aR)(l:List af)(v:Int×af):St:=⟨[(1,.sl 1000000000 c d),(2,.sl 1000000001 g j),(4,.pt 4 0 0),(7,.pt 7 0 0),(11,.sl 11 0 0),(12,.pt 12 0 0),(13,.i v.1)],[(4,.var (.agg [.lst .m 1 (((b).Nodes).map AV.z),.lst .m 4 (((b).Fibers).map (ai .m))])),(7,.var (.agg [.i ((a).From),.i ((a).To),.i ((a).Rate),.i ((a).Class)])),(11,.arr 10 []),(12,.var (.agg [.i ((v.2).Id),.i ((v.2).Class),.i (((v.2).Work).Start),.lst .m 1 ((((v.2).Work).Fibers).map AV.i),.i (((v.2).WorkBlock).First),.i (((v.2).WorkBlock).Count),.i (((v.2).Spare).Start),.lst .m 1 ((((v.2).Spare).Fibers).map AV.i),.i (((v.2).SpareBlock).First),.i (((v.2).SpareBlock).Count)])),(1000000000,.arr 2 (k.map (aF .u))),(1000000001,.arr 10 (l.map (aj .u)))]⟩
def Aj(b:ah)(c:Nat)(d:Nat)(g:Nat)(j:Nat)(a:be)(k:List aR)(l:List af)(v:af):St:=⟨[(1,.sl 1000000000 c d),(2,.sl 1000000001 g j),(4,.pt 4 0 0),(7,.pt 7 0 0),(11,.sl 11 0 0),(12,.pt 12 0 0)],[(4,.var (.agg [.lst .m 1 (((b).Nodes).map AV.z),.lst .m 4 (((b).Fibers).map (ai .m))])),(7,.var (.agg [.i ((a).From),.i ((a).To),.i ((a).Rate),.i ((a).Class)])),(11,.arr 10 []),(12,.var (.agg [.i ((v).Id),.i ((v).Class),.i (((v).Work).Start),.lst .m 1 ((((v).Work).Fibers).map AV.i),.i (((v).WorkBlock).First),.i (((v).WorkBlock).Count),.i (((v).Spare).Start),.lst .m 1 ((((v).Spare).Fibers).map AV.i),.i (((v).SpareBlock).First),.i (((v).SpareBlock).Count)])),(1000000000,.arr 2 (k.map (aF .u))),(1000000001,.arr 10 (l.map (aj .u)))]⟩
theorem w_ba(d:ah)(l:Nat)(p:Nat)(g:Nat)(j:Nat)(c:be)(q:List aR)(k:List af)(a:Int×af)(o:(Int×af)⊕af)(h:FO g j k a=some o):AWP (OkS Tryz.prog) sZ (qL [1,2,4,7,11,12,13] [4,7,11,12,1000000000,1000000001] (KH d l p g j c q k) (qX 0 [1,2,4,7,11,12] [4,7,11,12,1000000000,1000000001] (Aj d l p g j c q k)) o) (KH d l p g j c q k a):=by
 have e:=ZA @KH.eq_1 @Aj.eq_1;unfold FO at h;simp only[ZC,KH,sZ];obtain⟨x,y,h⟩:=ae h;try refine ZF trivial ?_
 refine aw (sh:=(fun v=>⟨[(1,.sl 1000000000 l p),(2,.sl 1000000001 g j),(4,.pt 4 0 0),(7,.pt 7 0 0),(11,.sl 11 0 0),(12,.pt 12 0 0),(13,.i a.1),(50,.b v)],[(4,.var (.agg [.lst .m 1 (((d).Nodes).map AV.z),.lst .m 4 (((d).Fibers).map (ai .m))])),(7,.var (.agg [.i ((c).From),.i ((c).To),.i ((c).Rate),.i ((c).Class)])),(11,.arr 10 []),(12,.var (.agg [.i ((a.2).Id),.i ((a.2).Class),.i (((a.2).Work).Start),.lst .m 1 ((((a.2).Work).Fibers).map AV.i),.i (((a.2).WorkBlock).First),.i (((a.2).WorkBlock).Count),.i (((a.2).Spare).Start),.lst .m 1 ((((a.2).Spare).Fibers).map AV.i),.i (((a.2).SpareBlock).First),.i (((a.2).SpareBlock).Count)])),(1000000000,.arr 2 (q.map (aF .u))),(1000000001,.arr 10 (k.map (aj .u)))]⟩)) (s:=x) ?_ ?_
 ·replace h:=y;obtain⟨t,h⟩|⟨t,h⟩:=aq h
  ·obtain⟨c1,a1,h⟩:=ae h;obtain⟨d1,b1,h⟩:=ae h;cases h;exact ZL (ZA t (ZA (aI a1) b1)) trivial
  ·cases h;exact ZL t trivial
 ·simp only[ZC,yR];obtain⟨w,h⟩|⟨w,h⟩:=aq h
  ·cases h;exact ZL w e
  ·cases h;exact ZL w e
theorem w_gb(d:ah)(j:Nat)(k:Nat)(l:Nat)(p:Nat)(a:be)(t:List aR)(q:List af){r:Int×Bool×List af×List aR×List af}(h:JH d j k l p a t q=some r):OkM Tryz.prog 23 [.agg [.lst .m 1 (((d).Nodes).map AV.z),.lst .m 4 (((d).Fibers).map (ai .m))],.sl 1000000000 j k,.sl 1000000001 l p,.agg [.i ((a).From),.i ((a).To),.i ((a).Rate),.i ((a).Class)]] [(1000000000,.arr 2 (t.map (aF .u))),(1000000001,.arr 10 (q.map (aj .u)))] (.tup [.sl 8 0 r.2.2.1.length,.i r.1,.b r.2.1]) ([(8,.arr 10 (r.2.2.1.map (aj .u))),(1000000000,.arr 2 (r.2.2.2.1.map (aF .u))),(1000000001,.arr 10 (r.2.2.2.2.map (aj .u)))]):=by
 have e:=@Ev.eq_1;refine aZ (lr:=[8,1000000000,1000000001]) bd Wn rfl rfl ?_;unfold JH at h;simp only[ZC,Sj,Ev];obtain⟨d1,g1,h⟩:=ae h;try refine ZF trivial ?_
 refine aw (sh:=(fun v=>⟨[(1,.sl 1000000000 j k),(2,.sl 1000000001 l p),(4,.pt 4 0 0),(7,.pt 7 0 0),(11,.sl 11 0 0),(32,.b v)],[(4,.var (.agg [.lst .m 1 (((d).Nodes).map AV.z),.lst .m 4 (((d).Fibers).map (ai .m))])),(7,.var (.agg [.i ((a).From),.i ((a).To),.i ((a).Rate),.i ((a).Class)])),(11,.arr 10 []),(1000000000,.arr 2 (t.map (aF .u))),(1000000001,.arr 10 (q.map (aj .u)))]⟩)) (s:=d1) ?_ ?_
 ·replace h:=g1;obtain⟨i1,j1,h⟩:=aO h;have w:sub (q.map (aj .u)) l p=i1.map (aj .u):=by rw[bP,j1]
  obtain⟨p2,k1,h⟩:=ae h;refine ZF w ?_;refine ZSG w (w_dz _ _ k1) ?_;obtain⟨x,h⟩|⟨x,h⟩:=aq h
  ·cases h;exact ZL (ZA w x) trivial
  ·cases h;exact ZL (ZA w x) trivial
 ·simp only[ZC,Ao];obtain⟨g,h⟩|⟨g,h⟩:=aq h
  ·cases h;exact ZL g e
  ·obtain⟨q2,l1,h⟩:=ae h;try refine ZF g ?_
   refine aw (aY (aC (w_ba d j k l p a t q) l1 ?_)) ?_
   ·exact ZK (ZA @KH.eq_1 @Aj.eq_1)
   ·simp only[ZC,Aj,yT];obtain⟨s2,m1,h⟩:=ae h;refine ZF g ?_;refine ZWG g (w_fy _ _ _ _ _ m1) [1000000000] [] ?_;obtain⟨c,p1,h⟩:=ae h;try refine ZF g ?_
    refine aw (sh:=(fun v=>⟨[(1,.sl 1000000000 j k),(2,.sl 1000000001 l p),(4,.pt 4 0 0),(7,.pt 7 0 0),(11,.sl 11 0 0),(12,.pt 12 0 0),(14,.pt 14 0 0),(16,.b v.1),(17,.i 0)],[(4,.var (.agg [.lst .m 1 (((d).Nodes).map AV.z),.lst .m 4 (((d).Fibers).map (ai .m))])),(7,.var (.agg [.i ((a).From),.i ((a).To),.i ((a).Rate),.i ((a).Class)])),(11,.arr 10 []),(12,.var (.agg [.i ((v.2.1).Id),.i ((v.2.1).Class),.i (((v.2.1).Work).Start),.lst .m 1 ((((v.2.1).Work).Fibers).map AV.i),.i (((v.2.1).WorkBlock).First),.i (((v.2.1).WorkBlock).Count),.i (((v.2.1).Spare).Start),.lst .m 1 ((((v.2.1).Spare).Fibers).map AV.i),.i (((v.2.1).SpareBlock).First),.i (((v.2.1).SpareBlock).Count)])),(14,.var (.agg [.i ((v.2.2.1).Start),.lst .m 1 (((v.2.2.1).Fibers).map AV.i)])),(1000000000,.arr 2 (v.2.2.2.map (aF .u))),(1000000001,.arr 10 (q.map (aj .u)))]⟩)) (s:=c) ?_ ?_
    ·replace h:=p1;obtain⟨y,h⟩|⟨y,h⟩:=aq h
     ·obtain⟨t2,q1,h⟩:=ae h;have f:=ZA g y;refine ZF f ?_;refine ZWG f (w_eq _ _ _ _ _ q1) [1000000000] [] ?_;cases h;exact ZL f trivial
     ·cases h;exact ZL (ZA g y) trivial
    ·simp only[ZC,yv];obtain⟨a1,h⟩|⟨a1,h⟩:=aq h
     ·cases h;exact ZL (ZA g a1) e
     ·obtain⟨s1,t1,h⟩:=ae h;have f:=ZA g a1;try refine ZF f ?_
      refine aw (sh:=(fun v=>⟨[(1,.sl 1000000000 j k),(2,.sl 1000000001 l p),(4,.pt 4 0 0),(7,.pt 7 0 0),(11,.sl 11 0 0),(12,.pt 12 0 0),(14,.pt 14 0 0),(17,.i v)],[(4,.var (.agg [.lst .m 1 (((d).Nodes).map AV.z),.lst .m 4 (((d).Fibers).map (ai .m))])),(7,.var (.agg [.i ((a).From),.i ((a).To),.i ((a).Rate),.i ((a).Class)])),(11,.arr 10 []),(12,.var (.agg [.i ((c.2.1).Id),.i ((c.2.1).Class),.i (((c.2.1).Work).Start),.lst .m 1 ((((c.2.1).Work).Fibers).map AV.i),.i (((c.2.1).WorkBlock).First),.i (((c.2.1).WorkBlock).Count),.i (((c.2.1).Spare).Start),.lst .m 1 ((((c.2.1).Spare).Fibers).map AV.i),.i (((c.2.1).SpareBlock).First),.i (((c.2.1).SpareBlock).Count)])),(14,.var (.agg [.i ((c.2.2.1).Start),.lst .m 1 (((c.2.2.1).Fibers).map AV.i)])),(1000000000,.arr 2 (c.2.2.2.map (aF .u))),(1000000001,.arr 10 (q.map (aj .u)))]⟩)) (s:=s1) ?_ ?_
      ·replace h:=t1;obtain⟨b1,h⟩|⟨b1,h⟩:=aq h
       ·obtain⟨u2,u1,h⟩:=ae h;have f:=ZA f b1;refine ZF f ?_;refine ZSG f (HB _ _ u1) ?_;obtain⟨v1,w1,h⟩:=aO h;have x1:sub (c.2.2.2.map (aF .u)) j k=v1.map (aF .u):=by rw[bP,w1]
        obtain⟨v2,y1,h⟩:=ae h;have f:=ZA f x1;refine ZF f ?_;refine ZSG f (Vf _ _ _ y1) ?_;cases h;exact ZL f trivial
       ·cases h;exact ZL (ZA f b1) trivial
      ·simp only[ZC,yK];obtain⟨w2,z1,h⟩:=ae h;refine ZF f ?_;refine ZSG f (HB _ _ z1) ?_;obtain⟨a2,b2,h⟩:=aO h;have c2:sub (c.2.2.2.map (aF .u)) j k=a2.map (aF .u):=by rw[bP,b2]
       obtain⟨x2,d2,h⟩:=ae h;have f:=ZA f c2;refine ZF f ?_;refine ZSG f (Vf _ _ _ d2) ?_;obtain⟨g2,i2,h⟩:=ae h;refine ZF f ?_;refine ZWG f (w_fz _ _ _ _ _ _ _ i2) [1000000000] [] ?_;obtain⟨c1,h⟩|⟨c1,h⟩:=aq h
       ·cases h;exact ZL (ZA f c1) e
       ·obtain⟨j2,k2,h⟩:=aO h;have l2:sub (g2.2.2.map (aj .u)) l p=j2.map (aj .u):=by rw[bP,k2]
        obtain⟨y2,m2,h⟩:=ae h;have f:=ZA f (ZA c1 l2);refine ZF f ?_;refine ZUG f (w_ga _ _ m2) ?_;cases h;exact ZL f e
def Hn(a:Nat×Nat×List ByteArray×List ay×ax)(b:List ByteArray)(v:Nat×Nat×Int×List af×List aR×ax):St:=⟨[(0,.pt 1000000000 0 0),(2,.pt 2 0 0),(4,.pt 4 0 0),(5,.sl 5 0 v.1),(6,.sl 6 0 v.2.1),(7,.i v.2.2.1)],[(2,.var (.agg [.lst .u 1 [],.lst .u 4 []])),(4,.var (.agg [.lst .m 1 (b.map AV.z),.lst .m 4 (a.2.2.2.1.map (ai .m))])),(5,.arr 10 (v.2.2.2.1.map (aj .u))),(6,.arr 2 (v.2.2.2.2.1.map (aF .u))),(1000000000,.var (.agg [.lst .o 1 (((v.2.2.2.2.2).code).map AV.u8),.i ((v.2.2.2.2.2).atF),.sc (.int .u64 ((v.2.2.2.2.2).seed))]))]⟩
def yX(a:Nat×Nat×List ByteArray×List ay×ax)(b:List ByteArray)(v:Nat×List af×ax):St:=⟨[(2,.pt 2 0 0),(4,.pt 4 0 0),(5,.sl 5 0 v.1)],[(2,.var (.agg [.lst .u 1 [],.lst .u 4 []])),(4,.var (.agg [.lst .m 1 (b.map AV.z),.lst .m 4 (a.2.2.2.1.map (ai .m))])),(5,.arr 10 (v.2.1.map (aj .u))),(1000000000,.var (.agg [.lst .o 1 (((v.2.2).code).map AV.u8),.i ((v.2.2).atF),.sc (.int .u64 ((v.2.2).seed))]))]⟩
theorem w_bc(b:Nat×Nat×List ByteArray×List ay×ax)(c:List ByteArray)(g:Nat×Nat×Int×List af×List aR×ax)(o:(Nat×Nat×Int×List af×List aR×ax)⊕(Nat×List af×ax))(h:Lp b c g=some o):AWP (OkS Tryz.prog) pB (qL [0,2,4,5,6,7] [2,4,5,6,1000000000] (Hn b c) (qX 0 [2,4,5] [2,4,5,1000000000] (yX b c)) o) (Hn b c g):=by
 have e:=ZA @Hn.eq_1 @yX.eq_1;unfold Lp at h;simp only[ZC,Hn,pB];obtain⟨a,h⟩|⟨a,h⟩:=aq h
 ·obtain⟨k,i,h⟩:=ae h;refine ZF a ?_;refine ZWG a (w_gi _ _ i) [1000000000] [] ?_;obtain⟨l,j,h⟩:=ae h;refine ZF a ?_;refine ZWG a (w_gb _ _ _ _ _ _ _ _ j) [8,1000000000,1000000001] [3100008] ?_;obtain⟨d,h⟩|⟨d,h⟩:=aq h
  ·cases h;exact ZL (ZA a d) e
  ·cases h;exact ZL (ZA a d) e
 ·cases h;exact ZL a e
theorem w_gj(a:ax){r:ah×Nat×Nat×List af×ax}(h:GQ a=some r):OkM Tryz.prog 150 [.pt 1000000000 0 0] [(1000000000,.var (.agg [.lst .o 1 (((a).code).map AV.u8),.i ((a).atF),.sc (.int .u64 ((a).seed))]))] (.tup [.agg [.lst .m 1 (((r.1).Nodes).map AV.z),.lst .m 4 (((r.1).Fibers).map (ai .m))],.sl 3 r.2.1 r.2.2.1]) ([(3,.arr 10 (r.2.2.2.1.map (aj .u))),(1000000000,.var (.agg [.lst .o 1 (((r.2.2.2.2).code).map AV.u8),.i ((r.2.2.2.2).atF),.sc (.int .u64 ((r.2.2.2.2).seed))]))]):=by
 refine aZ (lr:=[3,1000000000]) bd Vj rfl rfl ?_;unfold GQ at h;simp only[ZC,Gp,kC];obtain⟨b,k,h⟩:=ae h;refine ZF trivial ?_;refine ZWG trivial (w_gg _ k) [500000128,500000129,1000000000] [501300128,501300129] ?_;obtain⟨g,l,h⟩:=aO h;have p:sub (b.2.2.1.map AV.z) b.1 b.2.1=g.map AV.z:=by rw[bP,l]
 obtain⟨j,c,h⟩:=aO h;have q:Row.arr 2 [(.agg [.i 3000,.i 10]:AV),(.agg [.i 900,.i 20]:AV)]=Row.arr 2 (j.map (aF .u)):=by rw[<-c];rfl
 have d:j.length=2:=by rw[<-c];rfl
 obtain⟨v,s,h⟩:=ae h;have f:=ZA p (ZA q d);refine ZF f ?_;refine ZWG f (w_b _ _ s) [1000000000] [] ?_;obtain⟨w,t,h⟩:=ae h;try refine ZF f ?_
 refine aw (aY (aC (w_bc b g) t ?_)) ?_
 ·exact ZK (ZA @Hn.eq_1 (ZA @yX.eq_1 (ZA c.symm d)))
 ·simp only[ZC,yX,vn];cases h;exact ZL f (ZA @kC.eq_1 d)
def Hb(b:ah)(c:Int×ax)(a:Int×List Int×List Int×ax)(v:Int×List Int):St:=⟨[(0,.pt 1000000000 0 0),(3,.pt 3 0 0),(4,.pt 4 0 0),(6,.pt 6 0 0),(7,.sl 7 0 a.2.1.length),(8,.i a.1),(9,.sl 9 0 v.2.length),(10,.i v.1)],[(3,.var (.agg [.lst .m 1 (((b).Nodes).map AV.z),.lst .m 4 (((b).Fibers).map (ai .m))])),(4,.var (.agg [.i 0,.lst .u 1 []])),(6,.var (.agg [.i c.1,.sl 500000385 0 a.2.2.1.length])),(7,.arr 1 (a.2.1.map AV.i)),(9,.arr 1 (v.2.map AV.i)),(500000385,.arr 1 (a.2.2.1.map AV.i)),(1000000000,.var (.agg [.lst .o 1 (((a.2.2.2).code).map AV.u8),.i ((a.2.2.2).atF),.sc (.int .u64 ((a.2.2.2).seed))]))]⟩
def yc(b:ah)(c:Int×ax)(a:Int×List Int×List Int×ax)(v:List Int):St:=⟨[(0,.pt 1000000000 0 0),(3,.pt 3 0 0),(4,.pt 4 0 0),(6,.pt 6 0 0),(7,.sl 7 0 a.2.1.length),(8,.i a.1),(9,.sl 9 0 v.length)],[(3,.var (.agg [.lst .m 1 (((b).Nodes).map AV.z),.lst .m 4 (((b).Fibers).map (ai .m))])),(4,.var (.agg [.i 0,.lst .u 1 []])),(6,.var (.agg [.i c.1,.sl 500000385 0 a.2.2.1.length])),(7,.arr 1 (a.2.1.map AV.i)),(9,.arr 1 (v.map AV.i)),(500000385,.arr 1 (a.2.2.1.map AV.i)),(1000000000,.var (.agg [.lst .o 1 (((a.2.2.2).code).map AV.u8),.i ((a.2.2.2).atF),.sc (.int .u64 ((a.2.2.2).seed))]))]⟩
theorem w_ao(d:ah)(g:Int×ax)(a:Int×List Int×List Int×ax)(c:Int×List Int)(o:(Int×List Int)⊕(List Int))(h:CN d a c=some o):AWP (OkS Tryz.prog) oW (qL [0,3,4,6,7,8,9,10] [3,4,6,7,9,500000385,1000000000] (Hb d g a) (qX 2 [0,3,4,6,7,8,9] [3,4,6,7,9,500000385,1000000000] (yc d g a)) o) (Hb d g a c):=by
 have e:=ZA @Hb.eq_1 @yc.eq_1;unfold CN at h;simp only[ZC,Hb,oW];obtain⟨k,h⟩|⟨k,h⟩:=aq h
 ·obtain⟨p1,b1,h⟩:=ae h;obtain⟨q1,c1,h⟩:=ae h;obtain⟨s1,d1,h⟩:=ae h;have f:=ZA k (ZA (aI b1) c1);refine ZF f ?_;refine ZSG f (La _ _ _ d1) ?_;obtain⟨g1,i1,h⟩:=ae h;try refine ZF f ?_
  refine aw (sh:=(fun v=>⟨[(0,.pt 1000000000 0 0),(3,.pt 3 0 0),(4,.pt 4 0 0),(6,.pt 6 0 0),(7,.sl 7 0 a.2.1.length),(8,.i a.1),(9,.sl 9 0 c.2.length),(10,.i c.1),(53,.b v)],[(3,.var (.agg [.lst .m 1 (((d).Nodes).map AV.z),.lst .m 4 (((d).Fibers).map (ai .m))])),(4,.var (.agg [.i 0,.lst .u 1 []])),(6,.var (.agg [.i g.1,.sl 500000385 0 a.2.2.1.length])),(7,.arr 1 (a.2.1.map AV.i)),(9,.arr 1 (c.2.map AV.i)),(500000385,.arr 1 (a.2.2.1.map AV.i)),(1000000000,.var (.agg [.lst .o 1 (((a.2.2.2).code).map AV.u8),.i ((a.2.2.2).atF),.sc (.int .u64 ((a.2.2.2).seed))]))]⟩)) (s:=g1) ?_ ?_
  ·replace h:=i1;obtain⟨l,h⟩|⟨l,h⟩:=aq h
   ·obtain⟨t1,j1,h⟩:=ae h;have f:=ZA f l;refine ZF f ?_;refine ZSG f (w_m _ _ j1) ?_;cases h;exact ZL f trivial
   ·cases h;exact ZL (ZA f l) trivial
  ·simp only[ZC,tr];obtain⟨p,h⟩|⟨p,h⟩:=aq h
   ·obtain⟨q,j,h⟩:=aO h;have k1:Row.arr 1 [(.i c.1:AV)]=Row.arr 1 (q.map AV.i):=by rw[<-j];rfl
    have w:q.length=1:=by rw[<-j];rfl
    obtain⟨u1,l1,h⟩:=ae h;have x:=aI l1;obtain⟨y,t,h⟩:=aO h;have m1:c.2.map AV.i++q.map AV.i=y.map AV.i:=by rw[<-t,List.map_append]
    have a1:c.2.length+1=y.length:=by simp[<-j,<-t]<;>omega
    rw[a1] at x;cases h;exact ZL (ZA f (ZA p (ZA k1 (ZA w (ZA x (ZA m1 a1)))))) (ZA e (ZA j.symm (ZA t.symm w)))
   ·cases h;exact ZL (ZA f p) e
 ·cases h;exact ZL k e
def LM(a:ah)(b:Int×ax)(v:Int×List Int×List Int×ax):St:=⟨[(0,.pt 1000000000 0 0),(3,.pt 3 0 0),(4,.pt 4 0 0),(6,.pt 6 0 0),(7,.sl 7 0 v.2.1.length),(8,.i v.1)],[(3,.var (.agg [.lst .m 1 (((a).Nodes).map AV.z),.lst .m 4 (((a).Fibers).map (ai .m))])),(4,.var (.agg [.i 0,.lst .u 1 []])),(6,.var (.agg [.i b.1,.sl 500000385 0 v.2.2.1.length])),(7,.arr 1 (v.2.1.map AV.i)),(500000385,.arr 1 (v.2.2.1.map AV.i)),(1000000000,.var (.agg [.lst .o 1 (((v.2.2.2).code).map AV.u8),.i ((v.2.2.2).atF),.sc (.int .u64 ((v.2.2.2).seed))]))]⟩
def yJ(a:Int×ax)(v:List Int×ax):St:=⟨[(4,.pt 4 0 0),(6,.pt 6 0 0)],[(4,.var (.agg [.i 0,.lst .u 1 []])),(6,.var (.agg [.i a.1,.sl 500000385 0 v.1.length])),(500000385,.arr 1 (v.1.map AV.i)),(1000000000,.var (.agg [.lst .o 1 (((v.2).code).map AV.u8),.i ((v.2).atF),.sc (.int .u64 ((v.2).seed))]))]⟩
theorem w_bd(d:ah)(g:Int×ax)(a:Int×List Int×List Int×ax)(o:(Int×List Int×List Int×ax)⊕(List Int×ax))(h:Mp d a=some o):AWP (OkS Tryz.prog) pG (qL [0,3,4,6,7,8] [3,4,6,7,500000385,1000000000] (LM d g) (qX 0 [4,6] [4,6,500000385,1000000000] (yJ g)) o) (LM d g a):=by
 have e:=ZA @LM.eq_1 @yJ.eq_1;unfold Mp at h;simp only[ZC,LM,pG];obtain⟨b,h⟩|⟨b,h⟩:=aq h
 ·obtain⟨v1,a1,h⟩:=ae h;try refine ZF b ?_
  refine aw (aY (aC (w_ao d g a) a1 ?_)) ?_
  ·exact ZK (ZA @Hb.eq_1 @yc.eq_1)
  ·simp only[ZC,yc,tS];obtain⟨l,h⟩|⟨l,h⟩:=aq h
   ·cases h;exact ZL (ZA b l) e
   ·obtain⟨w1,b1,h⟩:=ae h;have f:=ZA b l;refine ZF f ?_;refine ZWG f (w_b _ _ b1) [1000000000] [] ?_;obtain⟨x1,c1,h⟩:=ae h;obtain⟨d1,g1,h⟩:=ae h;obtain⟨m,c,h⟩:=aO h;have i1:Row.arr 1 [(.i d1:AV)]=Row.arr 1 (m.map AV.i):=by rw[<-c];rfl
    have s:m.length=1:=by rw[<-c];rfl
    obtain⟨y1,j1,h⟩:=ae h;have t:=aI j1;obtain⟨u,j,h⟩:=aO h;have k1:a.2.2.1.map AV.i++m.map AV.i=u.map AV.i:=by rw[<-j,List.map_append]
    have v:a.2.2.1.length+1=u.length:=by simp[<-c,<-j]<;>omega
    rw[v] at t;obtain⟨z1,l1,h⟩:=ae h;obtain⟨a2,m1,h⟩:=ae h;obtain⟨p1,q1,h⟩:=ae h;have f:=ZA f (ZA (aI c1) (ZA g1 (ZA i1 (ZA s (ZA t (ZA k1 (ZA v (ZA (aI l1) m1))))))));refine ZF f ?_;refine ZSG f (La _ _ _ q1) ?_;obtain⟨p,k,h⟩:=aO h;have s1:Row.arr 1 [(.i p1:AV)]=Row.arr 1 (p.map AV.i):=by rw[<-k];rfl
    have w:p.length=1:=by rw[<-k];rfl
    obtain⟨b2,t1,h⟩:=ae h;have x:=aI t1;obtain⟨y,q,h⟩:=aO h;have u1:a.2.1.map AV.i++p.map AV.i=y.map AV.i:=by rw[<-q,List.map_append]
    have z:a.2.1.length+1=y.length:=by simp[<-c,<-j,<-k,<-q]<;>omega
    rw[z] at x;cases h;exact ZL (ZA f (ZA s1 (ZA w (ZA x (ZA u1 z))))) (ZA e (ZA c.symm (ZA j.symm (ZA k.symm (ZA q.symm (ZA s w))))))
 ·cases h;exact ZL b e
theorem w_gk(a:ah)(b:ax){r:Int×List Int×ax}(h:Jj a b=some r):OkM Tryz.prog 208 [.pt 1000000000 0 0,.agg [.lst .m 1 (((a).Nodes).map AV.z),.lst .m 4 (((a).Fibers).map (ai .m))]] [(1000000000,.var (.agg [.lst .o 1 (((b).code).map AV.u8),.i ((b).atF),.sc (.int .u64 ((b).seed))]))] (.agg [.i r.1,.sl 500000257 0 r.2.1.length]) ([(500000257,.arr 1 (r.2.1.map AV.i)),(1000000000,.var (.agg [.lst .o 1 (((r.2.2).code).map AV.u8),.i ((r.2.2).atF),.sc (.int .u64 ((r.2.2).seed))]))]):=by
 refine aZ (lr:=[500000257,1000000000]) bd Uc rfl rfl ?_;unfold Jj at h;simp only[ZC,IK,lS];obtain⟨g,k,h⟩:=ae h;refine ZF trivial ?_;refine ZWG trivial (w_b _ _ k) [1000000000] [] ?_;obtain⟨j,c,h⟩:=aO h;have l:Row.arr 1 [(.i g.1:AV)]=Row.arr 1 (j.map AV.i):=by rw[<-c];rfl
 have d:j.length=1:=by rw[<-c];rfl
 obtain⟨s,p,h⟩:=ae h;have f:=ZA l d;refine ZF f ?_;refine ZWG f (w_b _ _ p) [1000000000] [] ?_;obtain⟨t,q,h⟩:=ae h;try refine ZF f ?_
 refine aw (aY (aC (w_bd a g) q ?_)) ?_
 ·exact ZK (ZA @LM.eq_1 (ZA @yJ.eq_1 (ZA c.symm d)))
 ·simp only[ZC,yJ,vd];cases h;exact ZL f (ZA @lS.eq_1 d)
theorem w_eh(p:ah)(d:ax){r:Int×List Int×ax}(h:AB p d=some r):OkM Tryz.prog 152 [.pt 1000000000 0 0,.agg [.lst .m 1 (((p).Nodes).map AV.z),.lst .m 4 (((p).Fibers).map (ai .m))]] [(1000000000,.var (.agg [.lst .o 1 (((d).code).map AV.u8),.i ((d).atF),.sc (.int .u64 ((d).seed))]))] (.agg [.i r.1,.sl 500000257 0 r.2.1.length]) ([(500000257,.arr 1 (r.2.1.map AV.i)),(1000000000,.var (.agg [.lst .o 1 (((r.2.2).code).map AV.u8),.i ((r.2.2).atF),.sc (.int .u64 ((r.2.2).seed))]))]):=by
 have e:=@lS.eq_1;refine aZ (lr:=[500000257,1000000000]) bd UW rfl rfl ?_;unfold AB at h;simp only[ZC,Ew,lS];obtain⟨g,i1,h⟩:=ae h;refine ZF trivial ?_;refine ZWG trivial (w_gk _ _ i1) [500000257,1000000000] [500900257] ?_;obtain⟨z1,j1,h⟩:=ae h;refine ZF trivial ?_;refine ZWG trivial (w_b _ _ j1) [1000000000] [] ?_;obtain⟨a,h⟩|⟨a,h⟩:=aq h
 ·obtain⟨a2,k1,h⟩:=ae h;refine ZF a ?_;refine ZWG a (w_b _ _ k1) [1000000000] [] ?_;cases h;exact ZL a e
 ·obtain⟨b,h⟩|⟨b,h⟩:=aq h
  ·obtain⟨l1,m1,h⟩:=ae h;have f:=ZA a b;refine ZF f ?_;refine ZWG f (w_b _ _ m1) [1000000000] [] ?_;obtain⟨q,j,h⟩:=aO h;have p1:Row.arr 1 [(.i (IntKind.wrap .i64 (l1.1-1)):AV)]=Row.arr 1 (q.map AV.i):=by rw[<-j];rfl
   have w:q.length=1:=by rw[<-j];rfl
   obtain⟨b2,q1,h⟩:=ae h;have x:=aI q1;obtain⟨y,s,h⟩:=aO h;have s1:g.2.1.map AV.i++q.map AV.i=y.map AV.i:=by rw[<-s,List.map_append]
   have a1:g.2.1.length+1=y.length:=by simp[<-j,<-s]<;>omega
   rw[a1] at x;cases h;exact ZL (ZA f (ZA p1 (ZA w (ZA x (ZA s1 a1))))) (ZA e (ZA j.symm (ZA s.symm w)))
  ·obtain⟨c,h⟩|⟨c,h⟩:=aq h
   ·cases h;exact ZL (ZA a (ZA b c)) e
   ·obtain⟨k,h⟩|⟨k,h⟩:=aq h
    ·obtain⟨t,h⟩|⟨t,h⟩:=aq h
     ·obtain⟨c2,t1,h⟩:=ae h;obtain⟨u1,v1,h⟩:=ae h;obtain⟨u,l,h⟩:=aO h;have w1:Row.arr 1 [(.i u1:AV)]=Row.arr 1 (u.map AV.i):=by rw[<-l];rfl
      have b1:u.length=1:=by rw[<-l];rfl
      obtain⟨d2,x1,h⟩:=ae h;have c1:=aI x1;obtain⟨d1,v,h⟩:=aO h;have y1:g.2.1.map AV.i++u.map AV.i=d1.map AV.i:=by rw[<-v,List.map_append]
      have g1:g.2.1.length+1=d1.length:=by simp[<-l,<-v]<;>omega
      rw[g1] at c1;cases h;exact ZL (ZA a (ZA b (ZA c (ZA k (ZA t (ZA (aI t1) (ZA v1 (ZA w1 (ZA b1 (ZA c1 (ZA y1 g1))))))))))) (ZA e (ZA l.symm (ZA v.symm b1)))
     ·cases h;exact ZL (ZA a (ZA b (ZA c (ZA k t)))) e
    ·cases h;exact ZL (ZA a (ZA b (ZA c k))) e
theorem w_ei(b:ax){r:aH×ax}(h:BZ b=some r):OkM Tryz.prog 153 [.pt 1000000000 0 0] [(1000000000,.var (.agg [.lst .o 1 (((b).code).map AV.u8),.i ((b).atF),.sc (.int .u64 ((b).seed))]))] (.agg [.i ((r.1).First),.i ((r.1).Count)]) ([(1000000000,.var (.agg [.lst .o 1 (((r.2).code).map AV.u8),.i ((r.2).atF),.sc (.int .u64 ((r.2).seed))]))]):=by
 refine aZ (lr:=[1000000000]) bd VF rfl rfl ?_;unfold BZ at h;simp only[ZC,DY,dh];obtain⟨l,c,h⟩:=ae h;refine ZF trivial ?_;refine ZWG trivial (NE _ _ c) [1000000000] [] ?_;obtain⟨a,h⟩|⟨a,h⟩:=aq h
 ·obtain⟨m,d,h⟩:=ae h;refine ZF a ?_;refine ZWG a (w_b _ _ d) [1000000000] [] ?_;obtain⟨p,g,h⟩:=ae h;refine ZF a ?_;refine ZWG a (w_b _ _ g) [1000000000] [] ?_;cases h;exact ZL a @dh.eq_1
 ·obtain⟨q,j,h⟩:=ae h;refine ZF a ?_;refine ZWG a (w_b _ _ j) [1000000000] [] ?_;obtain⟨s,k,h⟩:=ae h;refine ZF a ?_;refine ZWG a (w_b _ _ k) [1000000000] [] ?_;cases h;exact ZL a @dh.eq_1
theorem w_gl(a:ax)(b:List ByteArray){r:ByteArray×ax×List ByteArray}(h:Lj a b=some r):OkM Tryz.prog 210 [.pt 1000000000 0 0,.sl 1000000001 0 b.length] [(1000000000,.var (.agg [.lst .o 1 (((a).code).map AV.u8),.i ((a).atF),.sc (.int .u64 ((a).seed))])),(1000000001,.arr 1 (b.map AV.z))] (.z r.1) ([(1000000000,.var (.agg [.lst .o 1 (((r.2.1).code).map AV.u8),.i ((r.2.1).atF),.sc (.int .u64 ((r.2.1).seed))])),(1000000001,.arr 1 (r.2.2.map AV.z))]):=by
 refine aZ (lr:=[1000000000,1000000001]) bd VO rfl rfl ?_;unfold Lj at h;simp only[ZC,LH,az];obtain⟨j,c,h⟩:=ae h;refine ZF trivial ?_;refine ZWG trivial (w_b _ _ c) [1000000000] [] ?_;obtain⟨k,d,h⟩:=ae h;obtain⟨l,g,h⟩:=ae h;cases h;exact ZL (ZA (aI d) g) @az.eq_1
def Ip(a:Nat×Nat×List ByteArray×List ay×ax)(v:List ay×ax):St:=⟨[(0,.pt 1000000000 0 0),(2,.pt 2 0 0),(3,.pt 3 0 0)],[(2,.var (.agg [.lst .u 1 [],.lst .u 4 []])),(3,.var (.agg [.sl 500000192 a.1 a.2.1,.sl 500000193 0 v.1.length])),(500000192,.arr 1 (a.2.2.1.map AV.z)),(500000193,.arr 4 (v.1.map (ai .u))),(1000000000,.var (.agg [.lst .o 1 (((v.2).code).map AV.u8),.i ((v.2).atF),.sc (.int .u64 ((v.2).seed))]))]⟩
def yf(a:Nat×Nat×List ByteArray×List ay×ax)(v:List ay×ax):St:=⟨[(2,.pt 2 0 0),(3,.pt 3 0 0)],[(2,.var (.agg [.lst .u 1 [],.lst .u 4 []])),(3,.var (.agg [.sl 500000192 a.1 a.2.1,.sl 500000193 0 v.1.length])),(500000192,.arr 1 (a.2.2.1.map AV.z)),(500000193,.arr 4 (v.1.map (ai .u))),(1000000000,.var (.agg [.lst .o 1 (((v.2).code).map AV.u8),.i ((v.2).atF),.sc (.int .u64 ((v.2).seed))]))]⟩
theorem w_am(d:Nat×Nat×List ByteArray×List ay×ax)(a:List ay×ax)(o:(List ay×ax)⊕(List ay×ax))(h:DV a=some o):AWP (OkS Tryz.prog) oG (qL [0,2,3] [2,3,500000192,500000193,1000000000] (Ip d) (qX 1 [2,3] [2,3,500000192,500000193,1000000000] (yf d)) o) (Ip d a):=by
 have e:=ZA @Ip.eq_1 @yf.eq_1;unfold DV at h;simp only[ZC,Ip,oG];obtain⟨z,s,h⟩:=ae h;refine ZF trivial ?_;refine ZWG trivial (w_b _ _ s) [1000000000] [] ?_;obtain⟨g,h⟩|⟨g,h⟩:=aq h
 ·obtain⟨a1,t,h⟩:=ae h;obtain⟨b,v,h⟩:=ae h;obtain⟨j,c,h⟩:=aO h;have w:Row.arr 4 [(.agg [.i b.A,.i b.B,.i b.Length,.i b.Risk]:AV)]=Row.arr 4 (j.map (ai .u)):=by rw[<-c];rfl
  have l:j.length=1:=by rw[<-c];rfl
  obtain⟨b1,x,h⟩:=ae h;have m:=aI x;obtain⟨p,k,h⟩:=aO h;have y:a.1.map (ai .u)++j.map (ai .u)=p.map (ai .u):=by rw[<-k,List.map_append]
  have q:a.1.length+1=p.length:=by simp[<-c,<-k]<;>omega
  rw[q] at m;cases h;exact ZL (ZA g (ZA (aI t) (ZA v (ZA w (ZA l (ZA m (ZA y q))))))) (ZA e (ZA c.symm (ZA k.symm l)))
 ·cases h;exact ZL g e
theorem w_gf(p:ax){r:Nat×Nat×List ByteArray×List ay×ax}(h:Jn p=some r):OkM Tryz.prog 154 [.pt 1000000000 0 0] [(1000000000,.var (.agg [.lst .o 1 (((p).code).map AV.u8),.i ((p).atF),.sc (.int .u64 ((p).seed))]))] (.agg [.sl 500000128 r.1 r.2.1,.sl 500000129 0 r.2.2.2.1.length]) ([(500000128,.arr 1 (r.2.2.1.map AV.z)),(500000129,.arr 4 (r.2.2.2.1.map (ai .u))),(1000000000,.var (.agg [.lst .o 1 (((r.2.2.2.2).code).map AV.u8),.i ((r.2.2.2.2).atF),.sc (.int .u64 ((r.2.2.2.2).seed))]))]):=by
 refine aZ (lr:=[500000128,500000129,1000000000]) bd Ur rfl rfl ?_;unfold Jn at h;simp only[ZC,IM,dh];obtain⟨c,b2,h⟩:=ae h;refine ZF trivial ?_;refine ZWG trivial (w_ed _ b2) [500000128,500000129,1000000000] [500800128,500800129] ?_;obtain⟨k,h⟩|⟨k,h⟩:=aq h
 ·cases h;exact ZL k @dh.eq_1
 ·obtain⟨j1,c2,h⟩:=ae h;refine ZF k ?_;refine ZWG k (w_b _ _ c2) [1000000000] [] ?_;obtain⟨a4,d2,h⟩:=ae h;obtain⟨b4,g2,h⟩:=ae h;obtain⟨i2,j2,h⟩:=ae h;have f:=ZA k (ZA (aI d2) g2);try refine ZF f ?_
  refine bo (sh:=(fun v=>⟨[(2,.pt 2 0 0),(3,.pt 3 0 0),(4,.i j1.1),(5,.pt 5 0 0)],[(2,.var (.agg [.lst .u 1 [],.lst .u 4 []])),(3,.var (.agg [.sl 500000192 v.1 v.2.1,.sl 500000193 0 v.2.2.2.2.1.length])),(5,.var (.agg [.i ((v.2.2.1).A),.i ((v.2.2.1).B),.i ((v.2.2.1).Length),.i ((v.2.2.1).Risk)])),(500000192,.arr 1 (v.2.2.2.1.map AV.z)),(500000193,.arr 4 (v.2.2.2.2.1.map (ai .u))),(1000000000,.var (.agg [.lst .o 1 (((v.2.2.2.2.2).code).map AV.u8),.i ((v.2.2.2.2.2).atF),.sc (.int .u64 ((v.2.2.2.2.2).seed))]))]⟩)) (q:=(qM dh [500000128,500000129,1000000000] (fun(r:Nat×Nat×List ByteArray×List ay×ax)=>.agg [.sl 500000128 r.1 r.2.1,.sl 500000129 0 r.2.2.2.1.length]) (fun(r:Nat×Nat×List ByteArray×List ay×ax)=>[(500000128,.arr 1 (r.2.2.1.map AV.z)),(500000129,.arr 4 (r.2.2.2.1.map (ai .u))),(1000000000,.var (.agg [.lst .o 1 (((r.2.2.2.2).code).map AV.u8),.i ((r.2.2.2.2).atF),.sc (.int .u64 ((r.2.2.2.2).seed))]))]))) (o:=i2) ?_ (fun l hv=>?_) (fun c4 hv e τ hne hq=>?_)
  ·replace h:=j2;obtain⟨d4,k2,h⟩:=ae h;refine ZF f ?_;refine ZWG f (w_b _ _ k2) [1000000000] [] ?_;obtain⟨a,h⟩|⟨a,h⟩:=aq h
   ·obtain⟨k1,x,h⟩:=aO h;have l2:Row.arr 1 [(.z (⟨#[98]⟩:ByteArray):AV),(.z (⟨#[]⟩:ByteArray):AV),(.z (⟨#[65]⟩:ByteArray):AV),(.z (⟨#[97,98,99,100,101,102,103,104]⟩:ByteArray):AV),(.z (⟨#[97,98,99,100,101,102,103,104,105]⟩:ByteArray):AV),(.z (⟨#[120,49]⟩:ByteArray):AV)]=Row.arr 1 (k1.map AV.z):=by rw[<-x];rfl
    have l1:k1.length=6:=by rw[<-x];rfl
    obtain⟨m2,p2,h⟩:=ae h;have f:=ZA f (ZA a (ZA l2 l1));refine ZF f ?_;refine ZWG f (w_gl _ _ p2) [1000000000,1000000001] [] ?_;obtain⟨g4,q2,h⟩:=ae h;obtain⟨i4,s2,h⟩:=ae h;obtain⟨t2,m1,h⟩:=aO h;have u2:(c.2.2.1.map AV.z).set (c.1+(Int.toNat 0)) (.z m2.1)=t2.map AV.z:=by rw[<-m1,List.map_set]
    cases h;exact ZL (ZA f (ZA (aI q2) (ZA s2 u2))) (ZA x.symm (ZA m1.symm l1))
   ·obtain⟨b,h⟩|⟨b,h⟩:=aq h
    ·obtain⟨j4,v2,h⟩:=ae h;have f:=ZA f (ZA a b);refine ZF f ?_;refine ZWG f (w_b _ _ v2) [1000000000] [] ?_;cases h;exact ZL f trivial
    ·obtain⟨d,h⟩|⟨d,h⟩:=aq h
     ·obtain⟨k4,w2,h⟩:=ae h;have f:=ZA f (ZA a (ZA b d));refine ZF f ?_;refine ZWG f (w_b _ _ w2) [1000000000] [] ?_;cases h;exact ZL f trivial
     ·obtain⟨g,h⟩|⟨g,h⟩:=aq h
      ·obtain⟨p1,y,h⟩:=aO h;have x2:Row.arr 1 [(.i 0:AV),(.i 1:AV),(.i 5000:AV),(.i 5001:AV)]=Row.arr 1 (p1.map AV.i):=by rw[<-y];rfl
       have q1:p1.length=4:=by rw[<-y];rfl
       obtain⟨l4,y2,h⟩:=ae h;have f:=ZA f (ZA a (ZA b (ZA d (ZA g (ZA x2 q1)))));refine ZF f ?_;refine ZWG f (w_r _ _ y2) [1000000000,1000000001] [] ?_;cases h;exact ZL f (ZA y.symm q1)
      ·obtain⟨j,h⟩|⟨j,h⟩:=aq h
       ·obtain⟨s1,a1,h⟩:=aO h;have z2:Row.arr 1 [(.i (-1):AV),(.i 9:AV),(.i 10:AV)]=Row.arr 1 (s1.map AV.i):=by rw[<-a1];rfl
        have t1:s1.length=3:=by rw[<-a1];rfl
        obtain⟨m4,a3,h⟩:=ae h;have f:=ZA f (ZA a (ZA b (ZA d (ZA g (ZA j (ZA z2 t1))))));refine ZF f ?_;refine ZWG f (w_r _ _ a3) [1000000000,1000000001] [] ?_;cases h;exact ZL f (ZA a1.symm t1)
       ·obtain⟨m,h⟩|⟨m,h⟩:=aq h
        ·obtain⟨p4,b3,h⟩:=ae h;obtain⟨s,c3,h⟩:=ae h;obtain⟨b1,t,h⟩:=aO h;have d3:Row.arr 4 [(.agg [.i s.A,.i s.B,.i s.Length,.i s.Risk]:AV)]=Row.arr 4 (b1.map (ai .u)):=by rw[<-t];rfl
         have u1:b1.length=1:=by rw[<-t];rfl
         obtain⟨q4,g3,h⟩:=ae h;have v1:=aI g3;obtain⟨w1,c1,h⟩:=aO h;have i3:c.2.2.2.1.map (ai .u)++b1.map (ai .u)=w1.map (ai .u):=by rw[<-c1,List.map_append]
         have x1:c.2.2.2.1.length+1=w1.length:=by simp[<-t,<-c1]<;>omega
         rw[x1] at v1;cases h;exact ZL (ZA f (ZA a (ZA b (ZA d (ZA g (ZA j (ZA m (ZA (aI b3) (ZA c3 (ZA d3 (ZA u1 (ZA v1 (ZA i3 x1))))))))))))) (ZA t.symm (ZA c1.symm u1))
        ·obtain⟨w,h⟩|⟨w,h⟩:=aq h
         ·obtain⟨s4,j3,h⟩:=ae h;have f:=ZA f (ZA a (ZA b (ZA d (ZA g (ZA j (ZA m w))))));try refine ZF f ?_
          refine aw (aY (aC (w_am c) j3 ?_)) ?_
          ·exact ZK (ZA @Ip.eq_1 @yf.eq_1)
          ·simp only[ZC,yf,ug];cases h;exact ZL f @dh.eq_1
         ·obtain⟨d1,h⟩|⟨d1,h⟩:=aq h
          ·obtain⟨g1,i1,h⟩:=aO h;have k3:Row.arr 1 [(.z (⟨#[112]⟩:ByteArray):AV),(.z (⟨#[113]⟩:ByteArray):AV),(.z (⟨#[114]⟩:ByteArray):AV),(.z (⟨#[115]⟩:ByteArray):AV)]=Row.arr 1 (g1.map AV.z):=by rw[<-i1];rfl
           have y1:g1.length=4:=by rw[<-i1];rfl
           obtain⟨z1,l3,h⟩:=aO h;have p3:sub (c.2.2.1.map AV.z) c.1 c.2.1=z1.map AV.z:=by rw[bP,l3]
           obtain⟨t4,q3,h⟩:=ae h;obtain⟨s3,t3,h⟩:=aO h;have u3:z1.map AV.z++g1.map AV.z=s3.map AV.z:=by rw[<-t3,List.map_append]
           cases h;exact ZL (ZA f (ZA a (ZA b (ZA d (ZA g (ZA j (ZA m (ZA w (ZA d1 (ZA k3 (ZA y1 (ZA p3 (ZA (aI q3) u3))))))))))))) (ZA i1.symm y1)
          ·cases h;exact ZL (ZA f (ZA a (ZA b (ZA d (ZA g (ZA j (ZA m (ZA w d1)))))))) trivial
  ·subst hv;simp only[] at h;simp only[ZC,uc];obtain⟨u4,v3,h⟩:=ae h;obtain⟨v4,w3,h⟩:=ae h;obtain⟨x3,a2,h⟩:=aO h;have y3:(l.2.2.2.2.1.map (ai .u)).set (Int.toNat j1.1) (.agg [.i ((l.2.2.1).A),.i ((l.2.2.1).B),.i ((l.2.2.1).Length),.i ((l.2.2.1).Risk)])=x3.map (ai .u):=by rw[<-a2,List.map_set];rfl
   cases h;exact ZL (ZA f (ZA (aI v3) (ZA w3 y3))) (ZA @dh.eq_1 a2.symm)
  ·subst hv;simp only[] at h;obtain⟨rfl,z3⟩:=hq;cases h;exact z3
end Vs

