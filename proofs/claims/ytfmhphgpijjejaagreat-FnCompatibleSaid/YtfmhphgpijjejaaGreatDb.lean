/-
  Part of the proof that the law FnCompatible returns true at every input; no condition beside the row's own.
-/
import Derived.Test.YtfmhphgpijjejaaGreatDa
set_option linter.defProp false
set_option linter.unusedSimpArgs false
set_option linter.unusedVariables false
set_option maxHeartbeats 1000000
set_option maxRecDepth 8000
namespace Vs
open Go Go.Proofs
attribute [local irreducible] AWP eC eff sC fT callM
theorem VT1:(∀(f:Fl)(x:aA),ai f x=.agg [.i x.A,.i x.B,.i x.Length,.i x.Risk])/\
 (∀(f:Fl)(x:ae),aX f x=.agg [.lst f 1 (x.Nodes.map AV.z),.lst f 4 (x.Fibers.map (ai f))])/\
 (∀(f:Fl)(x:ah),ay f x=.agg [.i x.Start,.lst f 1 (x.Fibers.map AV.i)])/\
 (∀(f:Fl)(x:aM),bc f x=.agg [.i x.First,.i x.Count])/\
 (∀(f:Fl)(x:aj),aw f x=.agg [.i x.Id,.i x.Class,.i x.Work.Start,.lst f 1 (x.Work.Fibers.map AV.i),.i x.WorkBlock.First,.i x.WorkBlock.Count,.i x.Spare.Start,.lst f 1 (x.Spare.Fibers.map AV.i),.i x.SpareBlock.First,.i x.SpareBlock.Count])/\
 (∀(f:Fl)(x:ax),bg f x=.agg [.lst f 1 (x.code.map AV.u8),.i x.atF,.sc (.int .u64 x.seed)])/\
 (∀(f:Fl)(x:az),au f x=.agg [.i x.Reach,.i x.Rate])/\
 (∀(f:Fl)(x:aK),aR f x=.agg [.i x.From,.i x.To,.i x.Rate,.i x.Class])/\
 (∀(f:Fl)(x:bI),aQ f x=.agg [.lst f 1 (x.n.Nodes.map AV.z),.lst f 4 (x.n.Fibers.map (ai f)),.i x.toF,.lst f 2 (x.list.map (ay f))])/\
 (∀(f:Fl)(x:List Int),cg f x=.lst f 1 (x.map AV.i))/\
 (∀(f:Fl)(x:cw),bh f x=.agg [.i x.Id,.i x.Route.Start,.lst f 1 (x.Route.Fibers.map AV.i),.i x.Block.First,.i x.Block.Count])/\
 (∀(f:Fl)(x:aD),aP f x=.agg [.i x.route.Start,.lst f 1 (x.route.Fibers.map AV.i),.i x.count])/\
 (∀(x:Value)(f:Nat)(cs:List AV),setPart (.sc x) 0 (.fn f cs)=some (.fn f cs)):=⟨fun _ _=>rfl,fun _ _=>rfl,fun _ _=>rfl,fun _ _=>rfl,fun _ _=>rfl,fun _ _=>rfl,fun _ _=>rfl,fun _ _=>rfl,fun _ _=>rfl,fun _ _=>rfl,fun _ _=>rfl,fun _ _=>rfl,fun _ _ _=>rfl⟩
theorem pD(f:Fl)(x:ah)(v:Value)(w:World)(S:Nat->Prop)(B:Nat)(fp:List Nat)(h:bb w S B v (ay f x) fp)(hk:v.cells.size=2):shK 2 v:=EE h hk
theorem VT2:(∀(f:Fl)(x:aA),(ai f x).nrm=ai .o x)/\
 (∀(f:Fl)(xs:List aA),(xs.map (ai f)).map AV.nrm=xs.map (ai .o))/\
 (∀(f:Fl)(x:aA),(ai f x).als=ai f.als x)/\
 (∀(f:Fl)(xs:List aA),(xs.map (ai f)).map AV.als=xs.map (ai f.als))/\
 (∀(f:Fl),AV.als∘ai f=ai f.als)/\
 (∀(f:Fl)(x:aA),(ai f x).fix=ai f.fix x)/\
 (∀(f:Fl)(xs:List aA),(xs.map (ai f)).map AV.fix=xs.map (ai f.fix))/\
 (∀(f:Fl)(x:ae),(aX f x).nrm=aX .o x)/\
 (∀(f:Fl)(xs:List ae),(xs.map (aX f)).map AV.nrm=xs.map (aX .o))/\
 (∀(f:Fl)(x:ae),(aX f x).als=aX f.als x)/\
 (∀(f:Fl)(xs:List ae),(xs.map (aX f)).map AV.als=xs.map (aX f.als))/\
 (∀(f:Fl),AV.als∘aX f=aX f.als)/\
 (∀(f:Fl)(x:ae),(aX f x).fix=aX f.fix x)/\
 (∀(f:Fl)(xs:List ae),(xs.map (aX f)).map AV.fix=xs.map (aX f.fix))/\
 (∀(f:Fl)(x:ah),(ay f x).nrm=ay .o x)/\
 (∀(f:Fl)(xs:List ah),(xs.map (ay f)).map AV.nrm=xs.map (ay .o))/\
 (∀(f:Fl)(x:ah),(ay f x).als=ay f.als x)/\
 (∀(f:Fl)(xs:List ah),(xs.map (ay f)).map AV.als=xs.map (ay f.als))/\
 (∀(f:Fl),AV.als∘ay f=ay f.als)/\
 (∀(f:Fl)(x:ah),(ay f x).fix=ay f.fix x)/\
 (∀(f:Fl)(xs:List ah),(xs.map (ay f)).map AV.fix=xs.map (ay f.fix))/\
 (∀(f:Fl)(x:aM),(bc f x).nrm=bc .o x)/\
 (∀(f:Fl)(xs:List aM),(xs.map (bc f)).map AV.nrm=xs.map (bc .o))/\
 (∀(f:Fl)(x:aM),(bc f x).als=bc f.als x)/\
 (∀(f:Fl)(xs:List aM),(xs.map (bc f)).map AV.als=xs.map (bc f.als))/\
 (∀(f:Fl),AV.als∘bc f=bc f.als)/\
 (∀(f:Fl)(x:aM),(bc f x).fix=bc f.fix x)/\
 (∀(f:Fl)(xs:List aM),(xs.map (bc f)).map AV.fix=xs.map (bc f.fix))/\
 (∀(f:Fl)(x:aj),(aw f x).nrm=aw .o x)/\
 (∀(f:Fl)(xs:List aj),(xs.map (aw f)).map AV.nrm=xs.map (aw .o))/\
 (∀(f:Fl)(x:aj),(aw f x).als=aw f.als x)/\
 (∀(f:Fl)(xs:List aj),(xs.map (aw f)).map AV.als=xs.map (aw f.als))/\
 (∀(f:Fl),AV.als∘aw f=aw f.als)/\
 (∀(f:Fl)(x:aj),(aw f x).fix=aw f.fix x)/\
 (∀(f:Fl)(xs:List aj),(xs.map (aw f)).map AV.fix=xs.map (aw f.fix))/\
 (∀(f:Fl)(x:ax),(bg f x).nrm=bg .o x)/\
 (∀(f:Fl)(xs:List ax),(xs.map (bg f)).map AV.nrm=xs.map (bg .o))/\
 (∀(f:Fl)(x:ax),(bg f x).als=bg f.als x)/\
 (∀(f:Fl)(xs:List ax),(xs.map (bg f)).map AV.als=xs.map (bg f.als))/\
 (∀(f:Fl),AV.als∘bg f=bg f.als)/\
 (∀(f:Fl)(x:ax),(bg f x).fix=bg f.fix x)/\
 (∀(f:Fl)(xs:List ax),(xs.map (bg f)).map AV.fix=xs.map (bg f.fix))/\
 (∀(f:Fl)(x:az),(au f x).nrm=au .o x)/\
 (∀(f:Fl)(xs:List az),(xs.map (au f)).map AV.nrm=xs.map (au .o))/\
 (∀(f:Fl)(x:az),(au f x).als=au f.als x)/\
 (∀(f:Fl)(xs:List az),(xs.map (au f)).map AV.als=xs.map (au f.als))/\
 (∀(f:Fl),AV.als∘au f=au f.als)/\
 (∀(f:Fl)(x:az),(au f x).fix=au f.fix x)/\
 (∀(f:Fl)(xs:List az),(xs.map (au f)).map AV.fix=xs.map (au f.fix))/\
 (∀(f:Fl)(x:aK),(aR f x).nrm=aR .o x)/\
 (∀(f:Fl)(xs:List aK),(xs.map (aR f)).map AV.nrm=xs.map (aR .o))/\
 (∀(f:Fl)(x:aK),(aR f x).als=aR f.als x)/\
 (∀(f:Fl)(xs:List aK),(xs.map (aR f)).map AV.als=xs.map (aR f.als))/\
 (∀(f:Fl),AV.als∘aR f=aR f.als)/\
 (∀(f:Fl)(x:aK),(aR f x).fix=aR f.fix x)/\
 (∀(f:Fl)(xs:List aK),(xs.map (aR f)).map AV.fix=xs.map (aR f.fix))/\
 (∀(f:Fl)(x:bI),(aQ f x).nrm=aQ .o x)/\
 (∀(f:Fl)(xs:List bI),(xs.map (aQ f)).map AV.nrm=xs.map (aQ .o))/\
 (∀(f:Fl)(x:bI),(aQ f x).als=aQ f.als x)/\
 (∀(f:Fl)(xs:List bI),(xs.map (aQ f)).map AV.als=xs.map (aQ f.als))/\
 (∀(f:Fl),AV.als∘aQ f=aQ f.als)/\
 (∀(f:Fl)(x:bI),(aQ f x).fix=aQ f.fix x)/\
 (∀(f:Fl)(xs:List bI),(xs.map (aQ f)).map AV.fix=xs.map (aQ f.fix))/\
 (∀(f:Fl)(x:List Int),(cg f x).nrm=cg .o x)/\
 (∀(f:Fl)(xs:List (List Int)),(xs.map (cg f)).map AV.nrm=xs.map (cg .o))/\
 (∀(f:Fl)(x:List Int),(cg f x).als=cg f.als x)/\
 (∀(f:Fl)(xs:List (List Int)),(xs.map (cg f)).map AV.als=xs.map (cg f.als))/\
 (∀(f:Fl),AV.als∘cg f=cg f.als)/\
 (∀(f:Fl)(x:List Int),(cg f x).fix=cg f.fix x)/\
 (∀(f:Fl)(xs:List (List Int)),(xs.map (cg f)).map AV.fix=xs.map (cg f.fix))/\
 (∀(f:Fl)(x:cw),(bh f x).nrm=bh .o x)/\
 (∀(f:Fl)(xs:List cw),(xs.map (bh f)).map AV.nrm=xs.map (bh .o))/\
 (∀(f:Fl)(x:cw),(bh f x).als=bh f.als x)/\
 (∀(f:Fl)(xs:List cw),(xs.map (bh f)).map AV.als=xs.map (bh f.als))/\
 (∀(f:Fl),AV.als∘bh f=bh f.als)/\
 (∀(f:Fl)(x:cw),(bh f x).fix=bh f.fix x)/\
 (∀(f:Fl)(xs:List cw),(xs.map (bh f)).map AV.fix=xs.map (bh f.fix))/\
 (∀(f:Fl)(x:aD),(aP f x).nrm=aP .o x)/\
 (∀(f:Fl)(xs:List aD),(xs.map (aP f)).map AV.nrm=xs.map (aP .o))/\
 (∀(f:Fl)(x:aD),(aP f x).als=aP f.als x)/\
 (∀(f:Fl)(xs:List aD),(xs.map (aP f)).map AV.als=xs.map (aP f.als))/\
 (∀(f:Fl),AV.als∘aP f=aP f.als)/\
 (∀(f:Fl)(x:aD),(aP f x).fix=aP f.fix x)/\
 (∀(f:Fl)(xs:List aD),(xs.map (aP f)).map AV.fix=xs.map (aP f.fix)):=
 ⟨@gg,@qY,@eV,@rn,@qN,@eZ,@kI,@jL,@nJ,@gB,@nE,@nA,@gm,@jl,@fY,@rh,@fX,@qF,@rq,@gc,@kL,@mq,@qW,@iG,@qC,@qE,@iI,@kG,@jG,@nC,@gj,@nF,@nO,@gF,@jk,@mp,@rm,@jd,@qU,@rz,@iY,@ky,@kx,@pV,@hY,@pM,@pO,@gX,@jF,@kM,@pc,@hZ,@qg,@po,@hX,@jx,@jn,@mJ,@fO,@mN,@mM,@fR,@ix,@vU,@DS,@oL,@Ep,@Cb,@pH,@su,@lA,@qA,@iQ,@qP,@qH,@jb,@kB,@kD,@oH,@gZ,@pJ,@pX,@hJ,@jr⟩
theorem VF1:(∀(f:Fl)(x:aA),(ai f x).fix=ai f.fix x)/\
 (∀(f:Fl)(xs:List aA),(xs.map (ai f)).map AV.fix=xs.map (ai f.fix))/\
 (∀(f:Fl)(x:ae),(aX f x).fix=aX f.fix x)/\
 (∀(f:Fl)(xs:List ae),(xs.map (aX f)).map AV.fix=xs.map (aX f.fix))/\
 (∀(f:Fl)(x:ah),(ay f x).fix=ay f.fix x)/\
 (∀(f:Fl)(xs:List ah),(xs.map (ay f)).map AV.fix=xs.map (ay f.fix))/\
 (∀(f:Fl)(x:aM),(bc f x).fix=bc f.fix x)/\
 (∀(f:Fl)(xs:List aM),(xs.map (bc f)).map AV.fix=xs.map (bc f.fix))/\
 (∀(f:Fl)(x:aj),(aw f x).fix=aw f.fix x)/\
 (∀(f:Fl)(xs:List aj),(xs.map (aw f)).map AV.fix=xs.map (aw f.fix))/\
 (∀(f:Fl)(x:ax),(bg f x).fix=bg f.fix x)/\
 (∀(f:Fl)(xs:List ax),(xs.map (bg f)).map AV.fix=xs.map (bg f.fix))/\
 (∀(f:Fl)(x:az),(au f x).fix=au f.fix x)/\
 (∀(f:Fl)(xs:List az),(xs.map (au f)).map AV.fix=xs.map (au f.fix))/\
 (∀(f:Fl)(x:aK),(aR f x).fix=aR f.fix x)/\
 (∀(f:Fl)(xs:List aK),(xs.map (aR f)).map AV.fix=xs.map (aR f.fix))/\
 (∀(f:Fl)(x:bI),(aQ f x).fix=aQ f.fix x)/\
 (∀(f:Fl)(xs:List bI),(xs.map (aQ f)).map AV.fix=xs.map (aQ f.fix))/\
 (∀(f:Fl)(x:List Int),(cg f x).fix=cg f.fix x)/\
 (∀(f:Fl)(xs:List (List Int)),(xs.map (cg f)).map AV.fix=xs.map (cg f.fix))/\
 (∀(f:Fl)(x:cw),(bh f x).fix=bh f.fix x)/\
 (∀(f:Fl)(xs:List cw),(xs.map (bh f)).map AV.fix=xs.map (bh f.fix))/\
 (∀(f:Fl)(x:aD),(aP f x).fix=aP f.fix x)/\
 (∀(f:Fl)(xs:List aD),(xs.map (aP f)).map AV.fix=xs.map (aP f.fix)):=
 ⟨@eZ,@kI,@gm,@jl,@gc,@kL,@iI,@kG,@gF,@jk,@iY,@ky,@gX,@jF,@hX,@jx,@fR,@ix,@pH,@su,@jb,@kB,@hJ,@jr⟩
theorem VZ1:(∀(x:aA),(ai .o x).fz=true)/\
 (∀(xs:List aA),fzL (xs.map (ai .o))=true)/\
 (∀(x:aA),(ai .u x).ouB=true)/\
 (∀(xs:List aA),cM (xs.map (ai .u))=true)/\
 (∀(x:ae),(aX .o x).fz=true)/\
 (∀(xs:List ae),fzL (xs.map (aX .o))=true)/\
 (∀(x:ae),(aX .u x).ouB=true)/\
 (∀(xs:List ae),cM (xs.map (aX .u))=true)/\
 (∀(x:ah),(ay .o x).fz=true)/\
 (∀(xs:List ah),fzL (xs.map (ay .o))=true)/\
 (∀(x:ah),(ay .u x).ouB=true)/\
 (∀(xs:List ah),cM (xs.map (ay .u))=true)/\
 (∀(x:aM),(bc .o x).fz=true)/\
 (∀(xs:List aM),fzL (xs.map (bc .o))=true)/\
 (∀(x:aM),(bc .u x).ouB=true)/\
 (∀(xs:List aM),cM (xs.map (bc .u))=true)/\
 (∀(x:aj),(aw .o x).fz=true)/\
 (∀(xs:List aj),fzL (xs.map (aw .o))=true)/\
 (∀(x:aj),(aw .u x).ouB=true)/\
 (∀(xs:List aj),cM (xs.map (aw .u))=true)/\
 (∀(x:ax),(bg .o x).fz=true)/\
 (∀(xs:List ax),fzL (xs.map (bg .o))=true)/\
 (∀(x:ax),(bg .u x).ouB=true)/\
 (∀(xs:List ax),cM (xs.map (bg .u))=true)/\
 (∀(x:az),(au .o x).fz=true)/\
 (∀(xs:List az),fzL (xs.map (au .o))=true)/\
 (∀(x:az),(au .u x).ouB=true)/\
 (∀(xs:List az),cM (xs.map (au .u))=true)/\
 (∀(x:aK),(aR .o x).fz=true)/\
 (∀(xs:List aK),fzL (xs.map (aR .o))=true)/\
 (∀(x:aK),(aR .u x).ouB=true)/\
 (∀(xs:List aK),cM (xs.map (aR .u))=true)/\
 (∀(x:bI),(aQ .o x).fz=true)/\
 (∀(xs:List bI),fzL (xs.map (aQ .o))=true)/\
 (∀(x:bI),(aQ .u x).ouB=true)/\
 (∀(xs:List bI),cM (xs.map (aQ .u))=true)/\
 (∀(x:List Int),(cg .o x).fz=true)/\
 (∀(xs:List (List Int)),fzL (xs.map (cg .o))=true)/\
 (∀(x:List Int),(cg .u x).ouB=true)/\
 (∀(xs:List (List Int)),cM (xs.map (cg .u))=true)/\
 (∀(x:cw),(bh .o x).fz=true)/\
 (∀(xs:List cw),fzL (xs.map (bh .o))=true)/\
 (∀(x:cw),(bh .u x).ouB=true)/\
 (∀(xs:List cw),cM (xs.map (bh .u))=true)/\
 (∀(x:aD),(aP .o x).fz=true)/\
 (∀(xs:List aD),fzL (xs.map (aP .o))=true)/\
 (∀(x:aD),(aP .u x).ouB=true)/\
 (∀(xs:List aD),cM (xs.map (aP .u))=true):=
 ⟨@nw,@eX,@nr,@eY,@kC,@pG,@kA,@pb,@mS,@iE,@ng,@iW,@nt,@sQ,@mX,@tm,@kK,@pT,@kE,@pC,@np,@sE,@nu,@sX,@lk,@ri,@me,@qT,@lF,@qO,@lH,@qD,@jC,@nL,@jS,@nB,@zw,@Hj,@zO,@Mj,@nz,@sV,@ni,@sJ,@ml,@qQ,@lx,@rp⟩
theorem VE1:ai .o=ai .u/\ai .m=ai .u/\ai .s=ai .u/\bc .o=bc .u/\bc .m=bc .u/\bc .s=bc .u/\au .o=au .u/\au .m=au .u/\au .s=au .u/\aR .o=aR .u/\aR .m=aR .u/\aR .s=aR .u:=⟨rfl,rfl,rfl,rfl,rfl,rfl,rfl,rfl,rfl,rfl,rfl,rfl⟩
theorem Zr{α:Type}(n:Nat)(a:α):(List.replicate n a).length=n:=List.length_replicate
theorem ZA{A B:Prop}(a:A)(b:B):A/\B:=⟨a,b⟩
theorem ZF{A:Prop}(a:A){P Q:Prop}(k:Q)(e:A->P=Q:=by intro a;simp only[VS1,VS2,VS3,VS4,VS5,VS6,VT1,VT2,cb,cd,decide_true,decide_false,List.nodup_nil,List.nodup_cons,fA,fw,fq,ne_eq,not_false_eq_true,Int.reduceEq,Int.reduceNe,true_and,false_and,Nat.reduceSub,Nat.reduceMul,↓reduceIte,reduceCtorEq,Nat.reduceEqDiff,Nat.reduceAdd,Nat.reduceLeDiff,Int.reduceLE,a];exact Eq.refl _):P:=(e a).mpr k
theorem ZG{P Q:Prop}(k:Q)(e:P=Q:=by simp only[VA,VF1,↓reduceIte,Nat.reduceEqDiff,Nat.reduceAdd,Nat.reduceMul,Nat.reduceSub,Nat.reduceLeDiff];exact Eq.refl _):P:=e.mpr k
theorem ZL{A:Prop}(a:A){B:Prop}(b:B){P:Prop}(e:A->B->P:=by intro a b;(try simp only[VS1,VS2,VS3,VS4,VS5,VS6,VT1,VT2,cb,cd,decide_true,decide_false,List.nodup_nil,List.nodup_cons,fA,fw,fq,ne_eq,not_false_eq_true,Int.reduceEq,Int.reduceNe,true_and,false_and,Nat.reduceSub,Nat.reduceMul,↓reduceIte,reduceCtorEq,Nat.reduceEqDiff,Nat.reduceAdd,Nat.reduceLeDiff,Int.reduceLE,a]);all_goals first|(simp[qL,qJ,qJ0,qS,qX,qR,qM,Shp,sub,gH,cb,cd,VS1,VS2,VS3,VS4,VS5,VS6,VT1,VT2,b];done)|simp[qL,qJ,qJ0,qS,qX,qR,qM,Shp,sub,gH,cb,cd,VS1,VS2,VS3,VS4,VS5,VS6,VT1,VT2,VE1,b]):P:=e a b
theorem ZK{B:Prop}(b:B){P:Prop}(e:B->P:=by intro b;simp[qL,qJ,qJ0,qS,qX,qR,qM,Shp,sub,gH,cb,cd,VS1,VS2,VS3,VS4,VS5,VS6,VT1,VT2,b]):P:=e b
theorem ZS{A:Prop}(a:A){W:Prop}(w:W){ok:Oks}{ρ:Nat->Option Row}{d f:Nat}{args:List AV}{K:AV->List (Nat×Row)->Prop}{v:Value}(hk:K (.sc v) [])
 (e:A->W->ok.p f (args.map (snp ρ 4)) (.sc v):=by intro a w;simp only[VS1,VS2,VS3,VS4,VS5,VS6,VT1,VT2,cb,cd,decide_true,decide_false,List.nodup_nil,List.nodup_cons,fA,fw,fq,ne_eq,not_false_eq_true,Int.reduceEq,Int.reduceNe,true_and,false_and,Nat.reduceSub,Nat.reduceMul,↓reduceIte,reduceCtorEq,Nat.reduceEqDiff,Nat.reduceAdd,Nat.reduceLeDiff,Int.reduceLE,a];exact w):fT ok ρ d f args K:=Jh (e a w) hk
theorem ZU{A:Prop}(a:A){W:Prop}(w:W){ok:Oks}{ρ:Nat->Option Row}{d f:Nat}{args:List AV}{K:AV->List (Nat×Row)->Prop}{res:AV}(hk:K (adopt 4 d res).1 (adopt 4 d res).2.1)
 (e:A->W->ok.p f (args.map (snp ρ 4)) res:=by intro a w;simp only[VS1,VS2,VS3,VS4,VS5,VS6,VT1,VT2,cb,cd,decide_true,decide_false,List.nodup_nil,List.nodup_cons,fA,fw,fq,ne_eq,not_false_eq_true,Int.reduceEq,Int.reduceNe,true_and,false_and,Nat.reduceSub,Nat.reduceMul,↓reduceIte,reduceCtorEq,Nat.reduceEqDiff,Nat.reduceAdd,Nat.reduceLeDiff,Int.reduceLE,a];exact w) (hu:res.allU:=by simp[AV.allU,jM,rZ,VT1,VT2]) (hn:∀p∈(adopt 4 d res).2.1,ρ p.1=none/\p.1<1000000000:=by simp only[VS1,VS2,VS3,VS4,VS5,VS6,VT1,VT2,cb,cd,decide_true,decide_false,List.nodup_nil,List.nodup_cons,fA,fw,fq,ne_eq,not_false_eq_true,Int.reduceEq,Int.reduceNe,true_and,false_and,Nat.reduceSub,Nat.reduceMul,↓reduceIte,reduceCtorEq,Nat.reduceEqDiff,Nat.reduceAdd,Nat.reduceLeDiff,Int.reduceLE,Nat.reduceLT]):fT ok ρ d f args K:=HH (e a w) hu hn hk
theorem ZQ{P:Prop}(e:P:=by simp[VS1,VS2,VS3,VS4,VS5,VS6,VT1,VT2]):P:=e
theorem ZW{A:Prop}(a:A){W:Prop}(w:W){ok:Oks}{ρ:Nat->Option Row}{d f:Nat}{args:List AV}{rs:List Nat}{K:AV->List (Nat×Row)->Prop}{res:AV}{outs:List (Nat×Row)}
 (e:A->W->ok.m f (args.map (AV.rg (cnm rs))) (rs.map (gK ρ rs)) res outs:=by intro a w;simp only[VS1,VS2,VS3,VS4,VS5,VS6,VT1,VT2,cb,cd,decide_true,decide_false,List.nodup_nil,List.nodup_cons,fA,fw,fq,ne_eq,not_false_eq_true,Int.reduceEq,Int.reduceNe,true_and,false_and,Nat.reduceSub,Nat.reduceMul,↓reduceIte,reduceCtorEq,Nat.reduceEqDiff,Nat.reduceAdd,Nat.reduceLeDiff,Int.reduceLE,a];first|exact w|(simp only[VS1,VS2,VS3,VS4,VS5,VS6,VT1,VT2,cb,cd,decide_true,decide_false,List.nodup_nil,List.nodup_cons,fA,fw,fq,ne_eq,not_false_eq_true,Int.reduceEq,Int.reduceNe,true_and,false_and,Nat.reduceSub,Nat.reduceMul,↓reduceIte,reduceCtorEq,Nat.reduceEqDiff,Nat.reduceAdd,Nat.reduceLeDiff,Int.reduceLE,a] at w;exact w))
 (h1:rs.Nodup/\(∀r∈rs,cQ (ρ r))/\(∀r∈rs,∀q∈mH (ρ r),q∈rs)/\(∀r∈aO args,r∈rs):=by simp[VS1,VS2,VS3,VS4,VS5,VS6,VT1,VT2])
 (h2:(outs.map fun p=>bkn d rs p.1).Nodup/\(∀p∈outs,1000000000<=p.1->p.1-1000000000<rs.length)/\(∀p∈outs,p.1<1000000000->ρ (bkn d rs p.1)=none/\bkn d rs p.1<1000000000))
 (hk:K (res.rg (bkn d rs)) (bX rs++outs.map (ft d rs))):callM ok ρ d f args rs K:=wG (e a w) h1 h2 hk
def NmK(ns ks:List Nat)(P:Prop):Prop:=P
theorem nmK{ns ks:List Nat}{P:Prop}(p:P):NmK ns ks P:=p
theorem ZSG{A:Prop}(a:A){W:Prop}(w:W){ok:Oks}{ρ:Nat->Option Row}{d f:Nat}{args:List AV}{K:AV->List (Nat×Row)->Prop}{v:Value}{Q:Prop}(k:Q)
 (e:A->W->ok.p f (args.map (snp ρ 4)) (.sc v):=by intro a w;simp only[VS1,VS2,VS3,VS4,VS5,VS6,VT1,VT2,cb,cd,decide_true,decide_false,List.nodup_nil,List.nodup_cons,fA,fw,fq,ne_eq,not_false_eq_true,Int.reduceEq,Int.reduceNe,true_and,false_and,Nat.reduceSub,Nat.reduceMul,↓reduceIte,reduceCtorEq,Nat.reduceEqDiff,Nat.reduceAdd,Nat.reduceLeDiff,Int.reduceLE,a];exact w) (g:K (.sc v) []=Q:=by simp only[VA,VF1,↓reduceIte,Nat.reduceEqDiff,Nat.reduceAdd,Nat.reduceMul,Nat.reduceSub,Nat.reduceLeDiff];exact Eq.refl _):fT ok ρ d f args K:=Jh (e a w) (g.mpr k)
theorem ZUG{A:Prop}(a:A){W:Prop}(w:W){ok:Oks}{ρ:Nat->Option Row}{d f:Nat}{args:List AV}{K:AV->List (Nat×Row)->Prop}{res:AV}{Q:Prop}(k:Q)
 (e:A->W->ok.p f (args.map (snp ρ 4)) res:=by intro a w;simp only[VS1,VS2,VS3,VS4,VS5,VS6,VT1,VT2,cb,cd,decide_true,decide_false,List.nodup_nil,List.nodup_cons,fA,fw,fq,ne_eq,not_false_eq_true,Int.reduceEq,Int.reduceNe,true_and,false_and,Nat.reduceSub,Nat.reduceMul,↓reduceIte,reduceCtorEq,Nat.reduceEqDiff,Nat.reduceAdd,Nat.reduceLeDiff,Int.reduceLE,a];exact w) (hu:res.allU:=by simp[AV.allU,jM,rZ,VT1,VT2]) (hn:∀p∈(adopt 4 d res).2.1,ρ p.1=none/\p.1<1000000000:=by simp only[VS1,VS2,VS3,VS4,VS5,VS6,VT1,VT2,cb,cd,decide_true,decide_false,List.nodup_nil,List.nodup_cons,fA,fw,fq,ne_eq,not_false_eq_true,Int.reduceEq,Int.reduceNe,true_and,false_and,Nat.reduceSub,Nat.reduceMul,↓reduceIte,reduceCtorEq,Nat.reduceEqDiff,Nat.reduceAdd,Nat.reduceLeDiff,Int.reduceLE,Nat.reduceLT]) (g:K (adopt 4 d res).1 (adopt 4 d res).2.1=Q:=by simp only[VA,VF1,↓reduceIte,Nat.reduceEqDiff,Nat.reduceAdd,Nat.reduceMul,Nat.reduceSub,Nat.reduceLeDiff];exact Eq.refl _):fT ok ρ d f args K:=HH (e a w) hu hn (g.mpr k)
theorem NM1{ρ:Nat->Option Row}{d:Nat}{rs:List Nat}{outs:List (Nat×Row)}{ns ks:List Nat}(hn:outs.map (·.1)=ns)(h:Th rs ns=true):
 NmK ns ks ((outs.map fun p=>bkn d rs p.1).Nodup/\(∀p∈outs,1000000000<=p.1->p.1-1000000000<rs.length)/\(∀p∈outs,p.1<1000000000->ρ (bkn d rs p.1)=none/\bkn d rs p.1<1000000000)):=Sc ns hn h
theorem NM2{ρ:Nat->Option Row}{d:Nat}{rs:List Nat}{outs:List (Nat×Row)}{ns ks:List Nat}(hn:outs.map (·.1)=ns)(h:JO d rs ns ks=true)(hk:∀q∈ks,ρ q=none):
 NmK ns ks ((outs.map fun p=>bkn d rs p.1).Nodup/\(∀p∈outs,1000000000<=p.1->p.1-1000000000<rs.length)/\(∀p∈outs,p.1<1000000000->ρ (bkn d rs p.1)=none/\bkn d rs p.1<1000000000)):=Uy ns ks hn h hk
theorem ZWG{A:Prop}(a:A){W:Prop}(w:W)(ns ks:List Nat){Q:Prop}(k:Q){ok:Oks}{ρ:Nat->Option Row}{d f:Nat}{args:List AV}{rs:List Nat}{K:AV->List (Nat×Row)->Prop}{res:AV}{outs:List (Nat×Row)}
 (e:A->W->ok.m f (args.map (AV.rg (cnm rs))) (rs.map (gK ρ rs)) res outs:=by intro a w;simp only[VS1,VS2,VS3,VS4,VS5,VS6,VT1,VT2,cb,cd,decide_true,decide_false,List.nodup_nil,List.nodup_cons,fA,fw,fq,ne_eq,not_false_eq_true,Int.reduceEq,Int.reduceNe,true_and,false_and,Nat.reduceSub,Nat.reduceMul,↓reduceIte,reduceCtorEq,Nat.reduceEqDiff,Nat.reduceAdd,Nat.reduceLeDiff,Int.reduceLE,a];first|exact w|(simp only[VS1,VS2,VS3,VS4,VS5,VS6,VT1,VT2,cb,cd,decide_true,decide_false,List.nodup_nil,List.nodup_cons,fA,fw,fq,ne_eq,not_false_eq_true,Int.reduceEq,Int.reduceNe,true_and,false_and,Nat.reduceSub,Nat.reduceMul,↓reduceIte,reduceCtorEq,Nat.reduceEqDiff,Nat.reduceAdd,Nat.reduceLeDiff,Int.reduceLE,a] at w;exact w))
 (h1:rs.Nodup/\(∀r∈rs,cQ (ρ r))/\(∀r∈rs,∀q∈mH (ρ r),q∈rs)/\(∀r∈aO args,r∈rs):=by simp[VS1,VS2,VS3,VS4,VS5,VS6,VT1,VT2])
 (h2:NmK ns ks ((outs.map fun p=>bkn d rs p.1).Nodup/\(∀p∈outs,1000000000<=p.1->p.1-1000000000<rs.length)/\(∀p∈outs,p.1<1000000000->ρ (bkn d rs p.1)=none/\bkn d rs p.1<1000000000)):=by first|exact NM1 rfl (by decide+kernel)|exact NM2 rfl (by decide+kernel) ZQ|exact nmK ZQ)
 (g:K (res.rg (bkn d rs)) (bX rs++outs.map (ft d rs))=Q:=by simp only[VA,VF1,↓reduceIte,Nat.reduceEqDiff,Nat.reduceAdd,Nat.reduceMul,Nat.reduceSub,Nat.reduceLeDiff];exact Eq.refl _):callM ok ρ d f args rs K:=wG (e a w) h1 h2 (g.mpr k)
theorem w_gm(a:List Int){r:Bool}(h:Pf a=some r):Ok Tryz.prog 10 [.lst .o 1 (a.map AV.u8)] (.b r):=by
 refine aB be m10 rfl ?_;unfold Pf at h;simp only[ZC,A10,V10,aL];cases h;exact ZL trivial @V10.eq_1
theorem w_dj(a:ax){r:Int×ax}(h:Eh a=some r):OkM Tryz.prog 193 [.pt 1000000000 0 0] [(1000000000,.var (.agg [.lst .o 1 (((a).code).map AV.u8),.i ((a).atF),.sc (.int .u64 ((a).seed))]))] (.i r.1) ([(1000000000,.var (.agg [.lst .o 1 (((r.2).code).map AV.u8),.i ((r.2).atF),.sc (.int .u64 ((r.2).seed))]))]):=by
 refine aZ (lr:=[1000000000]) be UW rfl rfl ?_;unfold Eh at h;simp only[ZC,Gn,V10];obtain⟨d,g,h⟩:=af h;try refine ZF trivial ?_
 refine aF (sh:=(fun v=>⟨[(0,.pt 1000000000 0 0),(3,.i v)],[(1000000000,.var (.agg [.lst .o 1 (((a).code).map AV.u8),.i ((a).atF),.sc (.int .u64 ((a).seed))]))]⟩)) (s:=d) ?_ ?_
 ·replace h:=g;obtain⟨b,h⟩|⟨b,h⟩:=aq h
  ·obtain⟨k,j,h⟩:=af h;cases h;exact ZL (ZA b (aV j)) trivial
  ·cases h;exact ZL b trivial
 ·simp only[ZC,vd];obtain⟨c,h⟩|⟨c,h⟩:=aq h
  ·cases h;exact ZL c @V10.eq_1
  ·cases h;exact ZL c @V10.eq_1
theorem w_a(d:Int)(b:ax){r:Int×ax}(h:M_a d b=some r):OkM Tryz.prog 129 [.pt 1000000000 0 0,.i d] [(1000000000,.var (.agg [.lst .o 1 (((b).code).map AV.u8),.i ((b).atF),.sc (.int .u64 ((b).seed))]))] (.i r.1) ([(1000000000,.var (.agg [.lst .o 1 (((r.2).code).map AV.u8),.i ((r.2).atF),.sc (.int .u64 ((r.2).seed))]))]):=by
 refine aZ (lr:=[1000000000]) be Uu rfl rfl ?_;unfold M_a at h;simp only[ZC,Ke,aC];obtain⟨a,h⟩|⟨a,h⟩:=aq h
 ·cases h;exact ZL a @aC.eq_1
 ·obtain⟨m,g,h⟩:=af h;refine ZF a ?_;refine ZWG a (w_dj _ g) [1000000000] [] ?_;obtain⟨c,h⟩|⟨c,h⟩:=aq h
  ·obtain⟨p,j,h⟩:=af h;have f:=ZA a c;refine ZF f ?_;refine ZWG f (w_dj _ j) [1000000000] [] ?_;obtain⟨q,k,h⟩:=af h;cases h;exact ZL (ZA f (aW k)) @aC.eq_1
  ·obtain⟨s,l,h⟩:=af h;cases h;exact ZL (ZA a (ZA c (aW l))) @aC.eq_1
theorem Nv(c:Int)(a:ax){r:Bool×ax}(h:tk c a=some r):OkM Tryz.prog 130 [.pt 1000000000 0 0,.i c] [(1000000000,.var (.agg [.lst .o 1 (((a).code).map AV.u8),.i ((a).atF),.sc (.int .u64 ((a).seed))]))] (.b r.1) ([(1000000000,.var (.agg [.lst .o 1 (((r.2).code).map AV.u8),.i ((r.2).atF),.sc (.int .u64 ((r.2).seed))]))]):=by
 refine aZ (lr:=[1000000000]) be Ty rfl rfl ?_;unfold tk at h;simp only[ZC,Hb,aC];obtain⟨g,d,h⟩:=af h;refine ZF trivial ?_;refine ZWG trivial (w_a _ _ d) [1000000000] [] ?_;cases h;exact ZL trivial @aC.eq_1
theorem w_dk(b:Int)(c:Int){r:Int}(h:Di b c=some r):Ok Tryz.prog 235 [.i b,.i c] (.i r):=by
 refine aB be m235 rfl ?_;unfold Di at h;simp only[ZC,A235,aC,aL];obtain⟨a,h⟩|⟨a,h⟩:=aq h
 ·cases h;exact ZL a @aC.eq_1
 ·cases h;exact ZL a @aC.eq_1
theorem w_dl(b:Int)(c:Int){r:Int}(h:Ey b c=some r):Ok Tryz.prog 236 [.i b,.i c] (.i r):=by
 refine aB be m236 rfl ?_;unfold Ey at h;simp only[ZC,A236,aC,aL];obtain⟨a,h⟩|⟨a,h⟩:=aq h
 ·cases h;exact ZL a @aC.eq_1
 ·cases h;exact ZL a @aC.eq_1
theorem w_e(a:ax)(b:List Int){r:Int×ax×List Int}(h:M_e a b=some r):OkM Tryz.prog 151 [.pt 1000000000 0 0,.sl 1000000001 0 b.length] [(1000000000,.var (.agg [.lst .o 1 (((a).code).map AV.u8),.i ((a).atF),.sc (.int .u64 ((a).seed))])),(1000000001,.arr 1 (b.map AV.i))] (.i r.1) ([(1000000000,.var (.agg [.lst .o 1 (((r.2.1).code).map AV.u8),.i ((r.2.1).atF),.sc (.int .u64 ((r.2.1).seed))])),(1000000001,.arr 1 (r.2.2.map AV.i))]):=by
 refine aZ (lr:=[1000000000,1000000001]) be Tm rfl rfl ?_;unfold M_e at h;simp only[ZC,Mo,aC];obtain⟨j,c,h⟩:=af h;refine ZF trivial ?_;refine ZWG trivial (w_a _ _ c) [1000000000] [] ?_;obtain⟨k,d,h⟩:=af h;obtain⟨l,g,h⟩:=af h;cases h;exact ZL (ZA (aW d) g) @aC.eq_1
theorem w_cr(a:aA)(b:aA){r:Int}(h:ux a b=some r):Ok Tryz.prog 197 [.agg [.i a.A,.i a.B,.i a.Length,.i a.Risk],.agg [.i b.A,.i b.B,.i b.Length,.i b.Risk]] (.i r):=by
 have e:=@aC.eq_1;refine aB be m197 rfl ?_;unfold ux at h;simp only[ZC,A197,aC,aL];obtain⟨c,h⟩|⟨c,h⟩:=aq h
 ·cases h;exact ZL c e
 ·obtain⟨d,h⟩|⟨d,h⟩:=aq h
  ·cases h;exact ZL (ZA c d) e
  ·obtain⟨g,h⟩|⟨g,h⟩:=aq h
   ·cases h;exact ZL (ZA c (ZA d g)) e
   ·cases h;exact ZL (ZA c (ZA d g)) e
def tv(b:List aA)(a:aA)(v:Int):St:=⟨[(0,.lst .o 4 (b.map (ai .o))),(3,.pt 3 0 0),(5,.i v)],[(3,.var (.agg [.i a.A,.i a.B,.i a.Length,.i a.Risk]))]⟩
theorem w_as(a:List aA)(b:aA)(g:Int)(o:Int⊕Int)(h:Ck a b g=some o):AWP (OkS Tryz.prog) yV (qL [0,3,5] [3] (tv a b) (qX 0 [0,3,5] [3] (tv a b)) o) (tv a b g):=by
 have e:=ZA @tv.eq_1 @tv.eq_1;unfold Ck at h;simp only[ZC,tv,yV];obtain⟨c,h⟩|⟨c,h⟩:=aq h
 ·obtain⟨k,i,h⟩:=af h;obtain⟨l,j,h⟩:=af h;have f:=ZA c (aV i);refine ZF f ?_;refine ZSG f (w_cr _ _ j) ?_;obtain⟨d,h⟩|⟨d,h⟩:=aq h
  ·cases h;exact ZL (ZA f d) e
  ·cases h;exact ZL (ZA f d) e
 ·cases h;exact ZL c e
theorem w_dm(g:List aA)(a:aA){r:List aA}(h:CM g a=some r):Ok Tryz.prog 234 [.lst .o 4 (g.map (ai .o)),.agg [.i a.A,.i a.B,.i a.Length,.i a.Risk]] (.lst .u 4 (r.map (ai .u))):=by
 refine aB be m234 rfl ?_;unfold CM at h;simp only[ZC,A234,aC,aL];obtain⟨w1,x,h⟩:=af h;try refine ZF trivial ?_
 refine aF (bi (aI (w_as g a) x ?_)) ?_
 ·exact ZK (ZA @tv.eq_1 @tv.eq_1)
 ·simp only[ZC,tv,Km];obtain⟨l,y,h⟩:=af h;obtain⟨z,a1,b1,c1,d1⟩:=RI (ai .o) y;obtain⟨y1,g1,h⟩:=af h;obtain⟨j,b,h⟩:=aU h;have i1:Row.arr 4 [(.agg [.i a.A,.i a.B,.i a.Length,.i a.Risk]:AV)]=Row.arr 4 (j.map (ai .u)):=by rw[<-b];rfl
  have m:j.length=1:=by rw[<-b];rfl
  obtain⟨z1,j1,h⟩:=af h;have p:=aW j1;obtain⟨c,d,h⟩:=aU h;have k1:l.map (ai .o)++j.map (ai .o)=c.map (ai .o):=by rw[<-d,List.map_append]
  have q:l.length+1=c.length:=by simp[<-b,<-d]<;>omega
  rw[q] at p;obtain⟨s,l1,h⟩:=af h;obtain⟨m1,p1,q1,s1,t1⟩:=VS (ai .o) l1;obtain⟨a2,u1,h⟩:=af h;have t:=aW u1;obtain⟨v,k,h⟩:=aU h;have v1:c.map (ai .o)++s.map (ai .o)=v.map (ai .o):=by rw[<-k,List.map_append]
  have w:c.length+s.length=v.length:=by simp[<-b,<-d,<-k]<;>omega
  rw[w] at t;cases h;exact ZL (ZA z (ZA a1 (ZA b1 (ZA c1 (ZA d1 (ZA (aW g1) (ZA i1 (ZA m (ZA p (ZA k1 (ZA q (ZA m1 (ZA p1 (ZA q1 (ZA s1 (ZA t1 (ZA t (ZA v1 w)))))))))))))))))) (ZA @aC.eq_1 (ZA b.symm (ZA d.symm (ZA k.symm m))))
def S_y(a:Int×ax)(b:List ByteArray)(v:Int×List aA×ax):St:=⟨[(0,.pt 1000000000 0 0),(2,.pt 2 0 0),(3,.i (IntKind.wrap .i64 (2+a.1))),(4,.pt 4 0 0),(5,.i v.1)],[(2,.var (.agg [.lst .u 1 [],.lst .u 4 []])),(4,.var (.agg [.sl 500000256 0 (Int.toNat (IntKind.wrap .i64 (2+a.1))),.sl 500000257 0 v.2.1.length])),(500000256,.arr 1 (b.map AV.z)),(500000257,.arr 4 (v.2.1.map (ai .u))),(1000000000,.var (.agg [.lst .o 1 (((v.2.2).code).map AV.u8),.i ((v.2.2).atF),.sc (.int .u64 ((v.2.2).seed))]))]⟩
def Pe(a:Int×ax)(b:List ByteArray)(v:List aA×ax):St:=⟨[(0,.pt 1000000000 0 0),(2,.pt 2 0 0),(3,.i (IntKind.wrap .i64 (2+a.1))),(4,.pt 4 0 0)],[(2,.var (.agg [.lst .u 1 [],.lst .u 4 []])),(4,.var (.agg [.sl 500000256 0 (Int.toNat (IntKind.wrap .i64 (2+a.1))),.sl 500000257 0 v.1.length])),(500000256,.arr 1 (b.map AV.z)),(500000257,.arr 4 (v.1.map (ai .u))),(1000000000,.var (.agg [.lst .o 1 (((v.2).code).map AV.u8),.i ((v.2).atF),.sc (.int .u64 ((v.2).seed))]))]⟩
theorem w_y(a:Int×ax)(d:List ByteArray)(c:Int×List aA×ax)(o:(Int×List aA×ax)⊕(List aA×ax))(h:M_y a c=some o):AWP (OkS Tryz.prog) oz (qL [0,2,3,4,5] [2,4,500000256,500000257,1000000000] (S_y a d) (qX 0 [0,2,3,4] [2,4,500000256,500000257,1000000000] (Pe a d)) o) (S_y a d c):=by
 have e:=ZA @S_y.eq_1 @Pe.eq_1;unfold M_y at h;simp only[ZC,S_y,oz];obtain⟨g,h⟩|⟨g,h⟩:=aq h
 ·obtain⟨i1,q,h⟩:=af h;obtain⟨t,w,h⟩:=af h;have f:=ZA g (aW q);try refine ZF f ?_
  refine aF (sh:=(fun v=>⟨[(0,.pt 1000000000 0 0),(2,.pt 2 0 0),(3,.i (IntKind.wrap .i64 (2+a.1))),(4,.pt 4 0 0),(5,.i c.1),(6,.i (Int.tmod (IntKind.wrap .i64 (c.1+1)) (IntKind.wrap .i64 (2+a.1)))),(32,.b v.1)],[(2,.var (.agg [.lst .u 1 [],.lst .u 4 []])),(4,.var (.agg [.sl 500000256 0 (Int.toNat (IntKind.wrap .i64 (2+a.1))),.sl 500000257 0 c.2.1.length])),(500000256,.arr 1 (d.map AV.z)),(500000257,.arr 4 (c.2.1.map (ai .u))),(1000000000,.var (.agg [.lst .o 1 (((v.2).code).map AV.u8),.i ((v.2).atF),.sc (.int .u64 ((v.2).seed))]))]⟩)) (s:=t) ?_ ?_
  ·replace h:=w;obtain⟨j,h⟩|⟨j,h⟩:=aq h
   ·cases h;exact ZL (ZA f j) trivial
   ·obtain⟨j1,x,h⟩:=af h;have f:=ZA f j;refine ZF f ?_;refine ZWG f (Nv _ _ x) [1000000000] [] ?_;cases h;exact ZL f trivial
  ·simp only[ZC,vK];obtain⟨k,h⟩|⟨k,h⟩:=aq h
   ·cases h;exact ZL (ZA f k) e
   ·obtain⟨k1,y,h⟩:=af h;have f:=ZA f k;refine ZF f ?_;refine ZSG f (w_dk _ _ y) ?_;obtain⟨l1,a1,h⟩:=af h;refine ZF f ?_;refine ZSG f (w_dl _ _ a1) ?_;obtain⟨m1,b1,h⟩:=af h;refine ZF f ?_;refine ZWG f (w_a _ _ b1) [1000000000] [] ?_;obtain⟨m,l,h⟩:=aU h;have c1:Row.arr 1 [(.i 0:AV),(.i 0:AV),(.i 0:AV),(.i 1:AV),(.i 2:AV)]=Row.arr 1 (m.map AV.i):=by rw[<-l];rfl
    have p:m.length=5:=by rw[<-l];rfl
    obtain⟨p1,d1,h⟩:=af h;have f:=ZA f (ZA c1 p);refine ZF f ?_;refine ZWG f (w_e _ _ d1) [1000000000,1000000001] [] ?_;obtain⟨q1,g1,h⟩:=af h;refine ZF f ?_;refine ZUG f (w_dm _ _ g1) ?_;cases h;exact ZL f (ZA e (ZA l.symm p))
 ·cases h;exact ZL g e
def S_z(a:Int×ax)(b:List ByteArray)(v:Int×List aA×ax):St:=⟨[(0,.pt 1000000000 0 0),(2,.pt 2 0 0),(3,.i (IntKind.wrap .i64 (2+a.1))),(4,.pt 4 0 0),(7,.i v.1)],[(2,.var (.agg [.lst .u 1 [],.lst .u 4 []])),(4,.var (.agg [.sl 500000256 0 (Int.toNat (IntKind.wrap .i64 (2+a.1))),.sl 500000257 0 v.2.1.length])),(500000256,.arr 1 (b.map AV.z)),(500000257,.arr 4 (v.2.1.map (ai .u))),(1000000000,.var (.agg [.lst .o 1 (((v.2.2).code).map AV.u8),.i ((v.2.2).atF),.sc (.int .u64 ((v.2.2).seed))]))]⟩
def PK(a:Int×ax)(b:List ByteArray)(v:List aA×ax):St:=⟨[(2,.pt 2 0 0),(4,.pt 4 0 0)],[(2,.var (.agg [.lst .u 1 [],.lst .u 4 []])),(4,.var (.agg [.sl 500000256 0 (Int.toNat (IntKind.wrap .i64 (2+a.1))),.sl 500000257 0 v.1.length])),(500000256,.arr 1 (b.map AV.z)),(500000257,.arr 4 (v.1.map (ai .u))),(1000000000,.var (.agg [.lst .o 1 (((v.2).code).map AV.u8),.i ((v.2).atF),.sc (.int .u64 ((v.2).seed))]))]⟩
theorem w_z(b:Int×ax)(c:List ByteArray)(j:Int×List aA×ax)(o:(Int×List aA×ax)⊕(List aA×ax))(h:M_z b j=some o):AWP (OkS Tryz.prog) pZ (qL [0,2,3,4,7] [2,4,500000256,500000257,1000000000] (S_z b c) (qX 2 [2,4] [2,4,500000256,500000257,1000000000] (PK b c)) o) (S_z b c j):=by
 have e:=ZA @S_z.eq_1 @PK.eq_1;unfold M_z at h;simp only[ZC,S_z,pZ];obtain⟨a,h⟩|⟨a,h⟩:=aq h
 ·obtain⟨x,m,h⟩:=af h;refine ZF a ?_;refine ZWG a (w_a _ _ m) [1000000000] [] ?_;obtain⟨y,p,h⟩:=af h;refine ZF a ?_;refine ZWG a (w_a _ _ p) [1000000000] [] ?_;obtain⟨d,h⟩|⟨d,h⟩:=aq h
  ·obtain⟨z,q,h⟩:=af h;have f:=ZA a d;refine ZF f ?_;refine ZSG f (w_dk _ _ q) ?_;obtain⟨a1,s,h⟩:=af h;refine ZF f ?_;refine ZSG f (w_dl _ _ s) ?_;obtain⟨b1,t,h⟩:=af h;refine ZF f ?_;refine ZWG f (w_a _ _ t) [1000000000] [] ?_;obtain⟨k,g,h⟩:=aU h;have u:Row.arr 1 [(.i 0:AV),(.i 0:AV),(.i 0:AV),(.i 1:AV),(.i 2:AV)]=Row.arr 1 (k.map AV.i):=by rw[<-g];rfl
   have l:k.length=5:=by rw[<-g];rfl
   obtain⟨c1,v,h⟩:=af h;have f:=ZA f (ZA u l);refine ZF f ?_;refine ZWG f (w_e _ _ v) [1000000000,1000000001] [] ?_;obtain⟨d1,w,h⟩:=af h;refine ZF f ?_;refine ZUG f (w_dm _ _ w) ?_;cases h;exact ZL f (ZA e (ZA g.symm l))
  ·cases h;exact ZL (ZA a d) e
 ·cases h;exact ZL a e
theorem w_dn(a:ax){r:Nat×Nat×List ByteArray×List aA×ax}(h:Dj a=some r):OkM Tryz.prog 209 [.pt 1000000000 0 0] [(1000000000,.var (.agg [.lst .o 1 (((a).code).map AV.u8),.i ((a).atF),.sc (.int .u64 ((a).seed))]))] (.agg [.sl 500000128 r.1 r.2.1,.sl 500000129 0 r.2.2.2.1.length]) ([(500000128,.arr 1 (r.2.2.1.map AV.z)),(500000129,.arr 4 (r.2.2.2.1.map (ai .u))),(1000000000,.var (.agg [.lst .o 1 (((r.2.2.2.2).code).map AV.u8),.i ((r.2.2.2.2).atF),.sc (.int .u64 ((r.2.2.2.2).seed))]))]):=by
 refine aZ (lr:=[500000128,500000129,1000000000]) be TY rfl rfl ?_;unfold Dj at h;simp only[ZC,EP,dz];obtain⟨g,j,h⟩:=af h;refine ZF trivial ?_;refine ZWG trivial (w_a _ _ j) [1000000000] [] ?_;obtain⟨b,d,h⟩:=aU h;have k:Row.arr 1 [(.z (⟨#[97]⟩:ByteArray):AV),(.z (⟨#[98]⟩:ByteArray):AV),(.z (⟨#[99]⟩:ByteArray):AV),(.z (⟨#[100]⟩:ByteArray):AV),(.z (⟨#[101]⟩:ByteArray):AV),(.z (⟨#[102]⟩:ByteArray):AV)]=Row.arr 1 (b.map AV.z):=by rw[<-d];rfl
 have c:b.length=6:=by rw[<-d];rfl
 obtain⟨s,l,h⟩:=af h;obtain⟨t,m,h⟩:=af h;have f:=ZA k (ZA c (aW l));try refine ZF f ?_
 refine aF (bi (aI (w_y g b) m ?_)) ?_
 ·exact ZK (ZA @S_y.eq_1 (ZA @Pe.eq_1 (ZA d.symm c)))
 ·simp only[ZC,Pe,vj];obtain⟨v,p,h⟩:=af h;refine ZF f ?_;refine ZWG f (w_a _ _ p) [1000000000] [] ?_;obtain⟨w,q,h⟩:=af h;try refine ZF f ?_
  refine aF (bi (aI (w_z g b) q ?_)) ?_
  ·exact ZK (ZA @S_z.eq_1 (ZA @PK.eq_1 c))
  ·simp only[ZC,PK,vm];cases h;exact ZL f (ZA @dz.eq_1 c)
theorem w_eu(a:ax){r:Nat×Nat×List ByteArray×List aA×ax}(h:Hr a=some r):OkM Tryz.prog 207 [.pt 1000000000 0 0] [(1000000000,.var (.agg [.lst .o 1 (((a).code).map AV.u8),.i ((a).atF),.sc (.int .u64 ((a).seed))]))] (.agg [.sl 500000128 r.1 r.2.1,.sl 500000129 0 r.2.2.2.1.length]) ([(500000128,.arr 1 (r.2.2.1.map AV.z)),(500000129,.arr 4 (r.2.2.2.1.map (ai .u))),(1000000000,.var (.agg [.lst .o 1 (((r.2.2.2.2).code).map AV.u8),.i ((r.2.2.2.2).atF),.sc (.int .u64 ((r.2.2.2.2).seed))]))]):=by
 refine aZ (lr:=[500000128,500000129,1000000000]) be UI rfl rfl ?_;unfold Hr at h;simp only[ZC,Je,dz];obtain⟨j,q,h⟩:=af h;refine ZF trivial ?_;refine ZWG trivial (w_dn _ q) [500000128,500000129,1000000000] [500600128,500600129] ?_;obtain⟨c,h⟩|⟨c,h⟩:=aq h
 ·obtain⟨d,b,h⟩:=aU h;have s:Row.arr 4 [(.agg [.i 0,.i 1,.i 100,.i 0]:AV)]=Row.arr 4 (d.map (ai .u)):=by rw[<-b];rfl
  have k:d.length=1:=by rw[<-b];rfl
  obtain⟨w,t,h⟩:=af h;have l:=aW t;obtain⟨m,g,h⟩:=aU h;have v:j.2.2.2.1.map (ai .u)++d.map (ai .u)=m.map (ai .u):=by rw[<-g,List.map_append]
  have p:j.2.2.2.1.length+1=m.length:=by simp[<-b,<-g]<;>omega
  rw[p] at l;cases h;exact ZL (ZA c (ZA s (ZA k (ZA l (ZA v p))))) (ZA @dz.eq_1 (ZA b.symm (ZA g.symm k)))
 ·cases h;exact ZL c @dz.eq_1
theorem w_fb(p:Nat)(q:Nat)(d:ax)(s:List ByteArray)(j:List aA){r:aK×ax×List ByteArray×List aA}(h:Ks p q d s j=some r):OkM Tryz.prog 84 [.pt 1000000000 0 0,.agg [.sl 1000000001 p q,.sl 1000000002 0 j.length]] [(1000000000,.var (.agg [.lst .o 1 (((d).code).map AV.u8),.i ((d).atF),.sc (.int .u64 ((d).seed))])),(1000000001,.arr 1 (s.map AV.z)),(1000000002,.arr 4 (j.map (ai .u)))] (.agg [.i ((r.1).From),.i ((r.1).To),.i ((r.1).Rate),.i ((r.1).Class)]) ([(1000000000,.var (.agg [.lst .o 1 (((r.2.1).code).map AV.u8),.i ((r.2.1).atF),.sc (.int .u64 ((r.2.1).seed))])),(1000000001,.arr 1 (r.2.2.1.map AV.z)),(1000000002,.arr 4 (r.2.2.2.map (ai .u)))]):=by
 have e:=@rF.eq_1;refine aZ (lr:=[1000000000,1000000001,1000000002]) be Wh rfl rfl ?_;unfold Ks at h;simp only[ZC,RB,rF];obtain⟨s1,a1,h⟩:=af h;refine ZF trivial ?_;refine ZWG trivial (w_a _ _ a1) [1000000000] [] ?_;obtain⟨t1,b1,h⟩:=af h;refine ZF trivial ?_;refine ZWG trivial (w_a _ _ b1) [1000000000] [] ?_;obtain⟨u1,c1,h⟩:=af h;obtain⟨t,a,h⟩:=aU h;have d1:Row.arr 1 [(.i 10:AV),(.i 20:AV),(.i 40:AV),(.i 50:AV),(.i 90:AV),(.i 120:AV)]=Row.arr 1 (t.map AV.i):=by rw[<-a];rfl
 have b:t.length=6:=by rw[<-a];rfl
 obtain⟨v1,g1,h⟩:=af h;have f:=ZA (aW c1) (ZA d1 b);refine ZF f ?_;refine ZWG f (w_e _ _ g1) [1000000000,1000000001] [] ?_;obtain⟨w1,i1,h⟩:=af h;refine ZF f ?_;refine ZWG f (w_a _ _ i1) [1000000000] [] ?_;obtain⟨y1,j1,h⟩:=af h;refine ZF f ?_;refine ZWG f (w_a _ _ j1) [1000000000] [] ?_;obtain⟨c,h⟩|⟨c,h⟩:=aq h
 ·obtain⟨z1,k1,h⟩:=af h;have f:=ZA f c;refine ZF f ?_;refine ZWG f (w_a _ _ k1) [1000000000] [] ?_;cases h;exact ZL f (ZA e (ZA a.symm b))
 ·obtain⟨g,h⟩|⟨g,h⟩:=aq h
  ·obtain⟨v,k,h⟩:=aU h;have l1:Row.arr 1 [(.i 0:AV),(.i 1:AV),(.i 1000:AV),(.i 1001:AV)]=Row.arr 1 (v.map AV.i):=by rw[<-k];rfl
   have w:v.length=4:=by rw[<-k];rfl
   obtain⟨a2,m1,h⟩:=af h;have f:=ZA f (ZA c (ZA g (ZA l1 w)));refine ZF f ?_;refine ZWG f (w_e _ _ m1) [1000000000,1000000001] [] ?_;cases h;exact ZL f (ZA e (ZA a.symm (ZA k.symm (ZA b w))))
  ·obtain⟨l,h⟩|⟨l,h⟩:=aq h
   ·obtain⟨x,m,h⟩:=aU h;have p1:Row.arr 1 [(.i (-1):AV),(.i 3:AV)]=Row.arr 1 (x.map AV.i):=by rw[<-m];rfl
    have y:x.length=2:=by rw[<-m];rfl
    obtain⟨b2,q1,h⟩:=af h;have f:=ZA f (ZA c (ZA g (ZA l (ZA p1 y))));refine ZF f ?_;refine ZWG f (w_e _ _ q1) [1000000000,1000000001] [] ?_;cases h;exact ZL f (ZA e (ZA a.symm (ZA m.symm (ZA b y))))
   ·cases h;exact ZL (ZA f (ZA c (ZA g l))) (ZA e (ZA a.symm b))
theorem w_c(c:Int)(d:Int)(g:Int){r:Bool}(h:M_c c d g=some r):Ok Tryz.prog 173 [.i c,.i d,.i g] (.b r):=by
 refine aB be m173 rfl ?_;unfold M_c at h;simp only[ZC,A173,cx,aL];obtain⟨a,h⟩|⟨a,h⟩:=aq h
 ·cases h;exact ZL a @cx.eq_1
 ·cases h;exact ZL a @cx.eq_1
theorem w_fc(i:Int){r:Bool}(h:HW i=some r):Ok Tryz.prog 226 [.sc (.int .u8 i)] (.b r):=by
 have e:=@V10.eq_1;refine aB be m226 rfl ?_;unfold HW at h;simp only[ZC,A226,V10,aL];obtain⟨a,h⟩|⟨a,h⟩:=aq h
 ·obtain⟨c,h⟩|⟨c,h⟩:=aq h
  ·cases h;exact ZL (ZA a c) e
  ·obtain⟨d,h⟩|⟨d,h⟩:=aq h
   ·cases h;exact ZL (ZA a (ZA c d)) e
   ·cases h;exact ZL (ZA a (ZA c d)) e
 ·obtain⟨g,h⟩|⟨g,h⟩:=aq h
  ·cases h;exact ZL (ZA a g) e
  ·cases h;exact ZL (ZA a g) e
def S_b(a:ByteArray)(v:Int):St:=⟨[(0,.z a),(3,.i v)],[]⟩
def cy(v:Unit):St:=⟨[],[]⟩
theorem w_b(a:ByteArray)(g:Int)(o:Int⊕(Unit⊕Bool))(h:M_b a g=some o):AWP (OkS Tryz.prog) xj (qL [0,3] [] (S_b a) (qS (qX 0 [] [] (cy)) (qR V10 (fun r=>.b r))) o) (S_b a g):=by
 have e:=ZA @S_b.eq_1 @cy.eq_1;unfold M_b at h;simp only[ZC,S_b,xj];obtain⟨c,h⟩|⟨c,h⟩:=aq h
 ·obtain⟨k,i,h⟩:=af h;obtain⟨l,j,h⟩:=af h;have f:=ZA c (jy i);refine ZF f ?_;refine ZSG f (w_fc _ j) ?_;obtain⟨d,h⟩|⟨d,h⟩:=aq h
  ·cases h;exact ZL (ZA f d) @V10.eq_1
  ·cases h;exact ZL (ZA f d) e
 ·cases h;exact ZL c e
theorem w_fd(a:ByteArray){r:Bool}(h:Jr a=some r):Ok Tryz.prog 194 [.z a] (.b r):=by
 refine aB be m194 rfl ?_;unfold Jr at h;simp only[ZC,A194,V10,aL];obtain⟨j,k,h⟩:=af h;try refine ZF trivial ?_
 refine aF (sh:=(fun v=>⟨[(0,.z a),(17,.b v)],[]⟩)) (s:=j) ?_ ?_
 ·replace h:=k;obtain⟨t,l,h⟩:=af h;refine ZF trivial ?_;refine ZSG trivial (w_c _ _ _ l) ?_;obtain⟨c,h⟩|⟨c,h⟩:=aq h
  ·cases h;exact ZL c trivial
  ·obtain⟨u,i,h⟩:=af h;obtain⟨g,h⟩|⟨g,h⟩:=aq h
   ·cases h;exact ZL (ZA c (ZA (jy i) g)) trivial
   ·cases h;exact ZL (ZA c (ZA (jy i) g)) trivial
 ·simp only[ZC,MN];obtain⟨d,h⟩|⟨d,h⟩:=aq h
  ·cases h;exact ZL d @V10.eq_1
  ·obtain⟨m,p,h⟩:=af h;try refine ZF d ?_
   refine bq (o:=m) (bA dc (aI (w_b a) p ?_)) (fun w hv=>?_) (fun x hv e τ hne hq=>?_)
   ·exact ZK (ZA @S_b.eq_1 @cy.eq_1)
   ·subst hv;simp only[] at h;simp only[ZC,cy,KC];cases h;exact ZL d @V10.eq_1
   ·subst hv;simp only[] at h;obtain⟨rfl,q⟩:=hq;cases h;exact q
def Fi(a:List ByteArray)(b:ByteArray)(v:Int):St:=⟨[(0,.lst .o 1 (a.map AV.z)),(1,.z b),(5,.i v)],[]⟩
theorem w_br(b:List ByteArray)(c:ByteArray)(g:Int)(o:Int⊕(Unit⊕Int))(h:CB b c g=some o):AWP (OkS Tryz.prog) yL (qL [0,1,5] [] (Fi b c) (qS (qX 0 [] [] (cy)) (qR aC (fun r=>.i r))) o) (Fi b c g):=by
 have e:=ZA @Fi.eq_1 @cy.eq_1;unfold CB at h;simp only[ZC,Fi,yL];obtain⟨a,h⟩|⟨a,h⟩:=aq h
 ·obtain⟨k,j,h⟩:=af h;obtain⟨d,h⟩|⟨d,h⟩:=aq h
  ·cases h;exact ZL (ZA a (ZA (aV j) d)) @aC.eq_1
  ·cases h;exact ZL (ZA a (ZA (aV j) d)) e
 ·cases h;exact ZL a e
theorem w_fe(a:List ByteArray)(b:ByteArray){r:Int}(h:Ij a b=some r):Ok Tryz.prog 195 [.lst .o 1 (a.map AV.z),.z b] (.i r):=by
 refine aB be m195 rfl ?_;unfold Ij at h;simp only[ZC,A195,aC,aL];obtain⟨c,d,h⟩:=af h;try refine ZF trivial ?_
 refine bq (o:=c) (bA dc (aI (w_br a b) d ?_)) (fun j hv=>?_) (fun k hv e τ hne hq=>?_)
 ·exact ZK (ZA @Fi.eq_1 @cy.eq_1)
 ·subst hv;simp only[] at h;simp only[ZC,cy,IG];cases h;exact ZL trivial @aC.eq_1
 ·subst hv;simp only[] at h;obtain⟨rfl,g⟩:=hq;cases h;exact g
theorem w_ff(c:aA)(j:Int){r:Bool}(h:Ld c j=some r):Ok Tryz.prog 196 [.agg [.i c.A,.i c.B,.i c.Length,.i c.Risk],.i j] (.b r):=by
 have e:=@aC.eq_1;refine aB be m196 rfl ?_;unfold Ld at h;simp only[ZC,A196,aC,aL];obtain⟨q,k,h⟩:=af h;refine ZF trivial ?_;refine ZSG trivial (w_c _ _ _ k) ?_;obtain⟨a,h⟩|⟨a,h⟩:=aq h
 ·obtain⟨s,l,h⟩:=af h;refine ZF a ?_;refine ZSG a (w_c _ _ _ l) ?_;obtain⟨d,h⟩|⟨d,h⟩:=aq h
  ·obtain⟨t,m,h⟩:=af h;have f:=ZA a d;refine ZF f ?_;refine ZSG f (w_c _ _ _ m) ?_;obtain⟨g,h⟩|⟨g,h⟩:=aq h
   ·obtain⟨u,p,h⟩:=af h;have f:=ZA f g;refine ZF f ?_;refine ZSG f (w_c _ _ _ p) ?_;cases h;exact ZL f e
   ·cases h;exact ZL (ZA f g) e
  ·cases h;exact ZL (ZA a d) e
 ·cases h;exact ZL a e
def S_g(a:ae)(v:Int):St:=⟨[(1,.pt 1 0 0),(3,.i v)],[(1,.var (.agg [.lst .o 1 (a.Nodes.map AV.z),.lst .o 4 (a.Fibers.map (ai .o))]))]⟩
def kX(a:ae)(v:Unit):St:=⟨[(1,.pt 1 0 0)],[(1,.var (.agg [.lst .o 1 (a.Nodes.map AV.z),.lst .o 4 (a.Fibers.map (ai .o))]))]⟩
theorem w_g(a:ae)(d:Int)(o:Int⊕(Unit⊕Bool))(h:M_g a d=some o):AWP (OkS Tryz.prog) yK (qL [1,3] [1] (S_g a) (qS (qX 0 [1] [1] (kX a)) (qR V10 (fun r=>.b r))) o) (S_g a d):=by
 have e:=ZA @S_g.eq_1 @kX.eq_1;unfold M_g at h;simp only[ZC,S_g,yK];obtain⟨c,h⟩|⟨c,h⟩:=aq h
 ·obtain⟨k,l,h⟩:=af h;try refine ZF c ?_
  refine aF (sh:=(fun v=>⟨[(1,.pt 1 0 0),(3,.i d),(41,.b v)],[(1,.var (.agg [.lst .o 1 (a.Nodes.map AV.z),.lst .o 4 (a.Fibers.map (ai .o))]))]⟩)) (s:=k) ?_ ?_
  ·replace h:=l;obtain⟨t,m,h⟩:=af h;obtain⟨u,p,h⟩:=af h;have f:=ZA c (aV m);refine ZF f ?_;refine ZSG f (w_fd _ p) ?_;obtain⟨g,h⟩|⟨g,h⟩:=aq h
   ·cases h;exact ZL (ZA f g) trivial
   ·obtain⟨w,q,h⟩:=af h;have f:=ZA f g;refine ZF f ?_;refine ZSG f (w_fe _ _ q) ?_;cases h;exact ZL f trivial
  ·simp only[ZC,Iy];obtain⟨j,h⟩|⟨j,h⟩:=aq h
   ·cases h;exact ZL (ZA c j) @V10.eq_1
   ·cases h;exact ZL (ZA c j) e
 ·cases h;exact ZL c e
def HA(a:ae)(v:Int):St:=⟨[(1,.pt 1 0 0),(4,.i v)],[(1,.var (.agg [.lst .o 1 (a.Nodes.map AV.z),.lst .o 4 (a.Fibers.map (ai .o))]))]⟩
theorem w_bs(c:ae)(g:Int)(o:Int⊕(Unit⊕Bool))(h:Bk c g=some o):AWP (OkS Tryz.prog) xu (qL [1,4] [1] (HA c) (qS (qX 2 [] [] (cy)) (qR V10 (fun r=>.b r))) o) (HA c g):=by
 have e:=ZA @HA.eq_1 @cy.eq_1;unfold Bk at h;simp only[ZC,HA,xu];obtain⟨a,h⟩|⟨a,h⟩:=aq h
 ·obtain⟨l,m,h⟩:=af h;try refine ZF a ?_
  refine aF (sh:=(fun v=>⟨[(1,.pt 1 0 0),(4,.i g),(77,.b v)],[(1,.var (.agg [.lst .o 1 (c.Nodes.map AV.z),.lst .o 4 (c.Fibers.map (ai .o))]))]⟩)) (s:=l) ?_ ?_
  ·replace h:=m;obtain⟨w,p,h⟩:=af h;obtain⟨x,q,h⟩:=af h;have f:=ZA a (aV p);refine ZF f ?_;refine ZSG f (w_ff _ _ q) ?_;obtain⟨d,h⟩|⟨d,h⟩:=aq h
   ·cases h;exact ZL (ZA f d) trivial
   ·obtain⟨j,h⟩|⟨j,h⟩:=aq h
    ·obtain⟨y,t,h⟩:=af h;obtain⟨a1,u,h⟩:=af h;have f:=ZA f (ZA d (ZA j (aV t)));refine ZF f ?_;refine ZSG f (w_cr _ _ u) ?_;cases h;exact ZL f trivial
    ·cases h;exact ZL (ZA f (ZA d j)) trivial
  ·simp only[ZC,Fu];obtain⟨k,h⟩|⟨k,h⟩:=aq h
   ·cases h;exact ZL (ZA a k) @V10.eq_1
   ·cases h;exact ZL (ZA a k) e
 ·cases h;exact ZL a e
theorem NC(a:ae){r:Bool}(h:vw a=some r):Ok Tryz.prog 131 [.agg [.lst .o 1 (a.Nodes.map AV.z),.lst .o 4 (a.Fibers.map (ai .o))]] (.b r):=by
 refine aB be m131 rfl ?_;unfold vw at h;simp only[ZC,A131,V10,aL];obtain⟨g,i,h⟩:=af h;try refine ZF trivial ?_
 refine aF (sh:=(fun v=>⟨[(1,.pt 1 0 0),(15,.b v)],[(1,.var (.agg [.lst .o 1 (a.Nodes.map AV.z),.lst .o 4 (a.Fibers.map (ai .o))]))]⟩)) (s:=g) ?_ ?_
 ·replace h:=i;obtain⟨u,j,h⟩:=af h;refine ZF trivial ?_;refine ZSG trivial (w_c _ _ _ j) ?_;obtain⟨d,h⟩|⟨d,h⟩:=aq h
  ·cases h;exact ZL d trivial
  ·cases h;exact ZL d trivial
 ·simp only[ZC,EZ];obtain⟨c,h⟩|⟨c,h⟩:=aq h
  ·cases h;exact ZL c @V10.eq_1
  ·obtain⟨k,l,h⟩:=af h;try refine ZF c ?_
   refine bq (o:=k) (bA dc (aI (w_g a) l ?_)) (fun w hv=>?_) (fun x hv e τ hne hq=>?_)
   ·exact ZK (ZA @S_g.eq_1 @kX.eq_1)
   ·subst hv;simp only[] at h;simp only[ZC,kX,Gg];obtain⟨m,p,h⟩:=af h;try refine ZF c ?_
    refine bq (o:=m) (bA dc (aI (w_bs a) p ?_)) (fun y hv=>?_) (fun a1 hv e τ hne hq=>?_)
    ·exact ZK (ZA @HA.eq_1 @cy.eq_1)
    ·subst hv;simp only[] at h;simp only[ZC,cy,ET];cases h;exact ZL c @V10.eq_1
    ·subst hv;simp only[] at h;obtain⟨rfl,q⟩:=hq;cases h;exact q
   ·subst hv;simp only[] at h;obtain⟨rfl,t⟩:=hq;cases h;exact t
theorem HL(b:ae)(g:Int)(j:Int){r:Int}(h:sM b g j=some r):Ok Tryz.prog 233 [.agg [.lst .o 1 (b.Nodes.map AV.z),.lst .o 4 (b.Fibers.map (ai .o))],.i g,.i j] (.i r):=by
 refine aB be m233 rfl ?_;unfold sM at h;simp only[ZC,A233,cx,aL];obtain⟨k,c,h⟩:=af h;obtain⟨a,h⟩|⟨a,h⟩:=aq h
 ·cases h;exact ZL (ZA (aV c) a) @cx.eq_1
 ·obtain⟨d,h⟩|⟨d,h⟩:=aq h
  ·cases h;exact ZL (ZA (aV c) (ZA a d)) @cx.eq_1
  ·cases h;exact ZL (ZA (aV c) (ZA a d)) @cx.eq_1
def Le(a:List Int)(b:Int)(v:Int):St:=⟨[(0,.lst .o 1 (a.map AV.i)),(1,.i b),(5,.i v)],[]⟩
theorem w_bn(c:List Int)(d:Int)(i:Int)(o:Int⊕(Unit⊕Bool))(h:Ee c d i=some o):AWP (OkS Tryz.prog) Jy (qL [0,1,5] [] (Le c d) (qS (qX 0 [] [] (cy)) (qR aC (fun r=>.b r))) o) (Le c d i):=by
 have e:=ZA @Le.eq_1 @cy.eq_1;unfold Ee at h;simp only[ZC,Le,Jy];obtain⟨a,h⟩|⟨a,h⟩:=aq h
 ·obtain⟨k,j,h⟩:=af h;obtain⟨g,h⟩|⟨g,h⟩:=aq h
  ·cases h;exact ZL (ZA a (ZA (aV j) g)) @aC.eq_1
  ·cases h;exact ZL (ZA a (ZA (aV j) g)) e
 ·cases h;exact ZL a e
theorem Da(a:List Int)(c:Int){r:Bool}(h:pR a c=some r):Ok Tryz.prog 74 [.lst .o 1 (a.map AV.i),.i c] (.b r):=by
 refine aB be m74 rfl ?_;unfold pR at h;simp only[ZC,A74,aC,aL];obtain⟨d,g,h⟩:=af h;try refine ZF trivial ?_
 refine bq (o:=d) (bA dc (aI (w_bn a c) g ?_)) (fun k hv=>?_) (fun l hv e τ hne hq=>?_)
 ·exact ZK (ZA @Le.eq_1 @cy.eq_1)
 ·subst hv;simp only[] at h;simp only[ZC,cy,Rl];cases h;exact ZL trivial @aC.eq_1
 ·subst hv;simp only[] at h;obtain⟨rfl,j⟩:=hq;cases h;exact j
def S_j(a:ae)(b:ah)(v:Int×List Int):St:=⟨[(2,.pt 2 0 0),(3,.pt 3 0 0),(6,.sl 6 0 v.2.length),(7,.i v.1)],[(2,.var (.agg [.lst .o 1 (a.Nodes.map AV.z),.lst .o 4 (a.Fibers.map (ai .o))])),(3,.var (.agg [.i b.Start,.lst .o 1 (b.Fibers.map AV.i)])),(6,.arr 1 (v.2.map AV.i))]⟩
def qz(v:List Int):St:=⟨[(6,.sl 6 0 v.length)],[(6,.arr 1 (v.map AV.i))]⟩
theorem w_j(c:ae)(d:ah)(a:Int×List Int)(o:(Int×List Int)⊕((List Int)⊕(List Int×Bool)))(h:M_j c d a=some o):AWP (OkS Tryz.prog) xH (qL [2,3,6,7] [2,3,6] (S_j c d) (qS (qX 0 [6] [6] (qz)) (qR gf (fun r=>.tup [.lst .u 1 (r.1.map AV.i),.b r.2]))) o) (S_j c d a):=by
 unfold M_j at h;simp only[ZC,S_j,xH];obtain⟨j,h⟩|⟨j,h⟩:=aq h
 ·obtain⟨s1,b1,h⟩:=af h;obtain⟨t1,c1,h⟩:=af h;have f:=ZA j (aV b1);refine ZF f ?_;refine ZSG f (w_c _ _ _ c1) ?_;obtain⟨k,h⟩|⟨k,h⟩:=aq h
  ·cases h;exact ZL (ZA f k) @gf.eq_1
  ·obtain⟨u1,d1,h⟩:=af h;obtain⟨v1,g1,h⟩:=af h;obtain⟨t,i1,h⟩:=af h;have f:=ZA f (ZA k (ZA (aW d1) g1));refine ZF f ?_;refine ZSG f (HL _ _ _ i1) ?_;obtain⟨j1,k1,h⟩:=af h;try refine ZF f ?_
   refine aF (sh:=(fun v=>⟨[(2,.pt 2 0 0),(3,.pt 3 0 0),(6,.sl 6 0 a.2.length),(7,.i a.1),(8,.i t),(65,.b v)],[(2,.var (.agg [.lst .o 1 (c.Nodes.map AV.z),.lst .o 4 (c.Fibers.map (ai .o))])),(3,.var (.agg [.i d.Start,.lst .o 1 (d.Fibers.map AV.i)])),(6,.arr 1 (a.2.map AV.i))]⟩)) (s:=j1) ?_ ?_
   ·replace h:=k1;obtain⟨l,h⟩|⟨l,h⟩:=aq h
    ·cases h;exact ZL (ZA f l) trivial
    ·obtain⟨w1,l1,h⟩:=af h;have f:=ZA f l;refine ZF f ?_;refine ZSG f (Da _ _ l1) ?_;cases h;exact ZL f trivial
   ·simp only[ZC,KI];obtain⟨m,h⟩|⟨m,h⟩:=aq h
    ·cases h;exact ZL (ZA f m) @gf.eq_1
    ·obtain⟨p,g,h⟩:=aU h;have m1:Row.arr 1 [(.i t:AV)]=Row.arr 1 (p.map AV.i):=by rw[<-g];rfl
     have w:p.length=1:=by rw[<-g];rfl
     obtain⟨y1,p1,h⟩:=af h;have x:=aW p1;obtain⟨y,q,h⟩:=aU h;have q1:a.2.map AV.i++p.map AV.i=y.map AV.i:=by rw[<-q,List.map_append]
     have a1:a.2.length+1=y.length:=by simp[<-g,<-q]<;>omega
     rw[a1] at x;cases h;exact ZL (ZA f (ZA m (ZA m1 (ZA w (ZA x (ZA q1 a1)))))) (ZA @S_j.eq_1 (ZA @qz.eq_1 (ZA g.symm (ZA q.symm w))))
 ·cases h;exact ZL j (ZA @S_j.eq_1 @qz.eq_1)
theorem w_do(c:ae)(a:ah){r:List Int×Bool}(h:CN c a=some r):Ok Tryz.prog 227 [.agg [.lst .o 1 (c.Nodes.map AV.z),.lst .o 4 (c.Fibers.map (ai .o))],.agg [.i a.Start,.lst .o 1 (a.Fibers.map AV.i)]] (.tup [.lst .u 1 (r.1.map AV.i),.b r.2]):=by
 refine aB be m227 rfl ?_;unfold CN at h;simp only[ZC,A227,gf,aL];obtain⟨g,j,h⟩:=aU h;have m:Row.arr 1 [(.i a.Start:AV)]=Row.arr 1 (g.map AV.i):=by rw[<-j];rfl
 have d:g.length=1:=by rw[<-j];rfl
 obtain⟨p,q,h⟩:=af h;have f:=ZA m d;try refine ZF f ?_
 refine aF (sh:=(fun v=>⟨[(2,.pt 2 0 0),(3,.pt 3 0 0),(6,.sl 6 0 g.length),(25,.b v)],[(2,.var (.agg [.lst .o 1 (c.Nodes.map AV.z),.lst .o 4 (c.Fibers.map (ai .o))])),(3,.var (.agg [.i a.Start,.lst .o 1 (a.Fibers.map AV.i)])),(6,.arr 1 (g.map AV.i))]⟩)) (s:=p) ?_ ?_
 ·replace h:=q;obtain⟨a1,t,h⟩:=af h;refine ZF f ?_;refine ZSG f (w_c _ _ _ t) ?_;obtain⟨k,h⟩|⟨k,h⟩:=aq h
  ·cases h;exact ZL (ZA f k) (ZA j.symm d)
  ·cases h;exact ZL (ZA f k) (ZA j.symm d)
 ·simp only[ZC,FN];obtain⟨l,h⟩|⟨l,h⟩:=aq h
  ·cases h;exact ZL (ZA f l) (ZA @gf.eq_1 d)
  ·obtain⟨w,x,h⟩:=af h;have f:=ZA f l;try refine ZF f ?_
   refine bq (o:=w) (bA dc (aI (w_j c a) x ?_)) (fun b1 hv=>?_) (fun c1 hv e τ hne hq=>?_)
   ·exact ZK (ZA @S_j.eq_1 (ZA @qz.eq_1 d))
   ·subst hv;simp only[] at h;simp only[ZC,qz,Fd];cases h;exact ZL f (ZA @gf.eq_1 d)
   ·subst hv;simp only[] at h;obtain⟨rfl,y⟩:=hq;cases h;exact y
theorem w_cy(c:ae)(d:ah){r:Bool}(h:yN c d=some r):Ok Tryz.prog 198 [.agg [.lst .o 1 (c.Nodes.map AV.z),.lst .o 4 (c.Fibers.map (ai .o))],.agg [.i d.Start,.lst .o 1 (d.Fibers.map AV.i)]] (.b r):=by
 refine aB be m198 rfl ?_;unfold yN at h;simp only[ZC,A198,aC,aL];obtain⟨k,g,h⟩:=af h;refine ZF trivial ?_;refine ZSG trivial (NC _ g) ?_;obtain⟨a,h⟩|⟨a,h⟩:=aq h
 ·cases h;exact ZL a @aC.eq_1
 ·obtain⟨l,j,h⟩:=af h;refine ZF a ?_;refine ZUG a (w_do _ _ j) ?_;cases h;exact ZL a @aC.eq_1
theorem w_dp(c:aM){r:Bool}(h:Dz c=some r):Ok Tryz.prog 199 [.agg [.i c.First,.i c.Count]] (.b r):=by
 refine aB be m199 rfl ?_;unfold Dz at h;simp only[ZC,A199,V10,aL];obtain⟨j,d,h⟩:=af h;refine ZF trivial ?_;refine ZSG trivial (w_c _ _ _ d) ?_;obtain⟨a,h⟩|⟨a,h⟩:=aq h
 ·obtain⟨k,g,h⟩:=af h;refine ZF a ?_;refine ZSG a (w_c _ _ _ g) ?_;cases h;exact ZL a @V10.eq_1
 ·cases h;exact ZL a @V10.eq_1
theorem w_gn(a:ae)(b:ah){r:List Int}(h:NG a b=some r):Ok Tryz.prog 228 [.agg [.lst .o 1 (a.Nodes.map AV.z),.lst .o 4 (a.Fibers.map (ai .o))],.agg [.i b.Start,.lst .o 1 (b.Fibers.map AV.i)]] (.lst .u 1 (r.map AV.i)):=by
 refine aB be m228 rfl ?_;unfold NG at h;simp only[ZC,A228,aC,aL];obtain⟨d,c,h⟩:=af h;refine ZF trivial ?_;refine ZUG trivial (w_do _ _ c) ?_;cases h;exact ZL trivial @aC.eq_1
theorem w_dq(a:ae)(b:ah){r:Int}(h:Bl a b=some r):Ok Tryz.prog 200 [.agg [.lst .o 1 (a.Nodes.map AV.z),.lst .o 4 (a.Fibers.map (ai .o))],.agg [.i b.Start,.lst .o 1 (b.Fibers.map AV.i)]] (.i r):=by
 refine aB be m200 rfl ?_;unfold Bl at h;simp only[ZC,A200,aC,aL];obtain⟨j,c,h⟩:=af h;refine ZF trivial ?_;refine ZUG trivial (w_gn _ _ c) ?_;obtain⟨k,d,h⟩:=af h;obtain⟨l,g,h⟩:=af h;cases h;exact ZL (ZA (aW d) g) @aC.eq_1
def S_h(a:ae)(b:Int)(v:Int×List Int):St:=⟨[(1,.i b),(2,.pt 2 0 0),(5,.sl 5 0 v.2.length),(6,.i v.1)],[(2,.var (.agg [.lst .o 1 (a.Nodes.map AV.z),.lst .o 4 (a.Fibers.map (ai .o))])),(5,.arr 1 (v.2.map AV.i))]⟩
def nD(v:List Int):St:=⟨[(5,.sl 5 0 v.length)],[(5,.arr 1 (v.map AV.i))]⟩
theorem w_h(d:ae)(g:Int)(a:Int×List Int)(o:(Int×List Int)⊕(List Int))(h:M_h d g a=some o):AWP (OkS Tryz.prog) wZ (qL [1,2,5,6] [2,5] (S_h d g) (qX 0 [5] [5] (nD)) o) (S_h d g a):=by
 have e:=ZA @S_h.eq_1 @nD.eq_1;unfold M_h at h;simp only[ZC,S_h,wZ];obtain⟨b,h⟩|⟨b,h⟩:=aq h
 ·obtain⟨y,m,h⟩:=af h;obtain⟨z,p,h⟩:=af h;obtain⟨j,h⟩|⟨j,h⟩:=aq h
  ·obtain⟨k,c,h⟩:=aU h;have v:Row.arr 1 [(.i a.1:AV)]=Row.arr 1 (k.map AV.i):=by rw[<-c];rfl
   have q:k.length=1:=by rw[<-c];rfl
   obtain⟨a1,w,h⟩:=af h;have s:=aW w;obtain⟨t,l,h⟩:=aU h;have x:a.2.map AV.i++k.map AV.i=t.map AV.i:=by rw[<-l,List.map_append]
   have u:a.2.length+1=t.length:=by simp[<-c,<-l]<;>omega
   rw[u] at s;cases h;exact ZL (ZA b (ZA (aV m) (ZA (aV p) (ZA j (ZA v (ZA q (ZA s (ZA x u)))))))) (ZA e (ZA c.symm (ZA l.symm q)))
  ·cases h;exact ZL (ZA b (ZA (aV m) (ZA (aV p) j))) e
 ·cases h;exact ZL b e
theorem w_db(a:ae)(b:Int){r:List Int}(h:xn a b=some r):Ok Tryz.prog 192 [.agg [.lst .o 1 (a.Nodes.map AV.z),.lst .o 4 (a.Fibers.map (ai .o))],.i b] (.lst .u 1 (r.map AV.i)):=by
 refine aB be m192 rfl ?_;unfold xn at h;simp only[ZC,A192,aC,aL];obtain⟨q,j,h⟩:=af h;obtain⟨g,h⟩|⟨g,h⟩:=aq h
 ·obtain⟨c,d,h⟩:=aU h;have l:Row.arr 1 [(.i b:AV)]=Row.arr 1 (c.map AV.i):=by rw[<-d];rfl
  have k:c.length=1:=by rw[<-d];rfl
  have m:sub (c.map AV.i) 0 1=c.map AV.i:=lI _ (by simp[<-d]);cases h;exact ZL (ZA (aV j) (ZA g (ZA l (ZA k m)))) (ZA @aC.eq_1 (ZA d.symm k))
 ·obtain⟨s,p,h⟩:=af h;have f:=ZA (aV j) g;try refine ZF f ?_
  refine aF (bi (aI (w_h a b) p ?_)) ?_
  ·exact ZK (ZA @S_h.eq_1 @nD.eq_1)
  ·simp only[ZC,nD,Ly];cases h;exact ZL f @aC.eq_1
def LF(a:ae)(b:ah)(c:ah)(g:Int)(d:List Int)(v:Int):St:=⟨[(3,.pt 3 0 0),(4,.pt 4 0 0),(5,.pt 5 0 0),(7,.i g),(8,.sl 8 0 d.length),(9,.i v)],[(3,.var (.agg [.lst .o 1 (a.Nodes.map AV.z),.lst .o 4 (a.Fibers.map (ai .o))])),(4,.var (.agg [.i b.Start,.lst .o 1 (b.Fibers.map AV.i)])),(5,.var (.agg [.i c.Start,.lst .o 1 (c.Fibers.map AV.i)])),(8,.arr 1 (d.map AV.i))]⟩
def zg(a:ae)(b:ah)(c:ah)(d:Int)(v:Unit):St:=⟨[(3,.pt 3 0 0),(4,.pt 4 0 0),(5,.pt 5 0 0),(7,.i d)],[(3,.var (.agg [.lst .o 1 (a.Nodes.map AV.z),.lst .o 4 (a.Fibers.map (ai .o))])),(4,.var (.agg [.i b.Start,.lst .o 1 (b.Fibers.map AV.i)])),(5,.var (.agg [.i c.Start,.lst .o 1 (c.Fibers.map AV.i)]))]⟩
theorem w_aa(c:ae)(d:ah)(a:ah)(g:Int)(i:List Int)(l:Int)(o:Int⊕(Unit⊕Bool))(h:Bq a i l=some o):AWP (OkS Tryz.prog) yx (qL [3,4,5,7,8,9] [3,4,5,8] (LF c d a g i) (qS (qX 2 [3,4,5,7] [3,4,5] (zg c d a g)) (qR cx (fun r=>.b r))) o) (LF c d a g i l):=by
 have e:=ZA @LF.eq_1 @zg.eq_1;unfold Bq at h;simp only[ZC,LF,yx];obtain⟨j,h⟩|⟨j,h⟩:=aq h
 ·obtain⟨q,m,h⟩:=af h;obtain⟨s,p,h⟩:=af h;have f:=ZA j (aV m);refine ZF f ?_;refine ZSG f (Da _ _ p) ?_;obtain⟨k,h⟩|⟨k,h⟩:=aq h
  ·cases h;exact ZL (ZA f k) @cx.eq_1
  ·cases h;exact ZL (ZA f k) e
 ·cases h;exact ZL j e
def MJ(a:ae)(b:ah)(c:ah)(v:Int):St:=⟨[(3,.pt 3 0 0),(4,.pt 4 0 0),(5,.pt 5 0 0),(7,.i v)],[(3,.var (.agg [.lst .o 1 (a.Nodes.map AV.z),.lst .o 4 (a.Fibers.map (ai .o))])),(4,.var (.agg [.i b.Start,.lst .o 1 (b.Fibers.map AV.i)])),(5,.var (.agg [.i c.Start,.lst .o 1 (c.Fibers.map AV.i)]))]⟩
theorem w_bt(a:ae)(c:ah)(d:ah)(g:Int)(o:Int⊕(Unit⊕Bool))(h:Ek a c d g=some o):AWP (OkS Tryz.prog) yr (qL [3,4,5,7] [3,4,5] (MJ a c d) (qS (qX 0 [] [] (cy)) (qR cx (fun r=>.b r))) o) (MJ a c d g):=by
 have e:=ZA @MJ.eq_1 @cy.eq_1;unfold Ek at h;simp only[ZC,MJ,yr];obtain⟨j,h⟩|⟨j,h⟩:=aq h
 ·obtain⟨u,w,h⟩:=af h;try refine ZF j ?_
  refine bq (sh:=(fun v=>⟨[(3,.pt 3 0 0),(4,.pt 4 0 0),(5,.pt 5 0 0),(7,.i g)],[(3,.var (.agg [.lst .o 1 (a.Nodes.map AV.z),.lst .o 4 (a.Fibers.map (ai .o))])),(4,.var (.agg [.i c.Start,.lst .o 1 (c.Fibers.map AV.i)])),(5,.var (.agg [.i d.Start,.lst .o 1 (d.Fibers.map AV.i)]))]⟩)) (q:=(qR cx (fun r=>.b r))) (o:=u) ?_ (fun c1 hv=>?_) (fun d1 hv e τ hne hq=>?_)
  ·replace h:=w;obtain⟨g1,x,h⟩:=af h;obtain⟨k,y,h⟩:=af h;have f:=ZA j (aV x);refine ZF f ?_;refine ZUG f (w_db _ _ y) ?_;obtain⟨l,m,h⟩:=af h;try refine ZF f ?_
   first|refine jV (o:=l) (bA dc (aI (w_aa a c d g k) m ?_)) (fun a1 hv τ p=>?_) (fun b1 hv e τ hne hq=>?_)|refine qc (o:=l) dc (aI (w_aa a c d g k) m ?_) (fun a1 hv τ p=>?_) (fun b1 hv e τ hne hq=>?_)
   ·exact ZK (ZA @LF.eq_1 @zg.eq_1)
   ·subst hv;simp only[] at h;cases h;try refine ZF trivial ?_
    refine⟨rfl,Shp.sub p (by decide) (by decide) ?_⟩;exact ZK @zg.eq_1
   ·subst hv;simp only[] at h;obtain⟨rfl,s⟩:=hq;cases h;try refine ZF trivial ?_
    first|exact⟨by simp,s⟩|exact⟨by simp,rfl,s⟩
  ·subst hv;simp only[] at h;simp only[ZC,ES];cases h;exact ZL j e
  ·subst hv;simp only[] at h;obtain⟨rfl,t⟩:=hq;cases h;try refine ZF trivial ?_
   first|exact⟨by simp,t⟩|exact⟨by simp,rfl,t⟩
 ·cases h;exact ZL j e
theorem NA(a:ae)(c:ah)(d:ah){r:Bool}(h:sI a c d=some r):Ok Tryz.prog 185 [.agg [.lst .o 1 (a.Nodes.map AV.z),.lst .o 4 (a.Fibers.map (ai .o))],.agg [.i c.Start,.lst .o 1 (c.Fibers.map AV.i)],.agg [.i d.Start,.lst .o 1 (d.Fibers.map AV.i)]] (.b r):=by
 refine aB be m185 rfl ?_;unfold sI at h;simp only[ZC,A185,cx,aL];obtain⟨g,j,h⟩:=af h;try refine ZF trivial ?_
 refine bq (o:=g) (bA dc (aI (w_bt a c d) j ?_)) (fun l hv=>?_) (fun m hv e τ hne hq=>?_)
 ·exact ZK (ZA @MJ.eq_1 @cy.eq_1)
 ·subst hv;simp only[] at h;simp only[ZC,cy,He];cases h;exact ZL trivial @cx.eq_1
 ·subst hv;simp only[] at h;obtain⟨rfl,k⟩:=hq;cases h;exact k
theorem Tc(d:ae)(a:aj){r:Bool}(h:yP d a=some r):Ok Tryz.prog 132 [.agg [.lst .o 1 (d.Nodes.map AV.z),.lst .o 4 (d.Fibers.map (ai .o))],.agg [.i a.Id,.i a.Class,.i a.Work.Start,.lst .o 1 (a.Work.Fibers.map AV.i),.i a.WorkBlock.First,.i a.WorkBlock.Count,.i a.Spare.Start,.lst .o 1 (a.Spare.Fibers.map AV.i),.i a.SpareBlock.First,.i a.SpareBlock.Count]] (.b r):=by
 have e:=@aC.eq_1;refine aB be m132 rfl ?_;unfold yP at h;simp only[ZC,A132,aC,aL];obtain⟨x,y,h⟩:=af h;try refine ZF trivial ?_
 refine aF (sh:=(fun v=>⟨[(2,.pt 2 0 0),(3,.pt 3 0 0),(27,.b v)],[(2,.var (.agg [.lst .o 1 (d.Nodes.map AV.z),.lst .o 4 (d.Fibers.map (ai .o))])),(3,.var (.agg [.i a.Id,.i a.Class,.i a.Work.Start,.lst .o 1 (a.Work.Fibers.map AV.i),.i a.WorkBlock.First,.i a.WorkBlock.Count,.i a.Spare.Start,.lst .o 1 (a.Spare.Fibers.map AV.i),.i a.SpareBlock.First,.i a.SpareBlock.Count]))]⟩)) (s:=x) ?_ ?_
 ·replace h:=y;obtain⟨q1,a1,h⟩:=af h;refine ZF trivial ?_;refine ZSG trivial (w_c _ _ _ a1) ?_;obtain⟨c,h⟩|⟨c,h⟩:=aq h
  ·cases h;exact ZL c trivial
  ·obtain⟨s1,b1,h⟩:=af h;refine ZF c ?_;refine ZSG c (w_c _ _ _ b1) ?_;obtain⟨l,h⟩|⟨l,h⟩:=aq h
   ·cases h;exact ZL (ZA c l) trivial
   ·obtain⟨t1,c1,h⟩:=af h;have f:=ZA c l;refine ZF f ?_;refine ZSG f (w_cy _ _ c1) ?_;obtain⟨m,h⟩|⟨m,h⟩:=aq h
    ·cases h;exact ZL (ZA f m) trivial
    ·obtain⟨u1,d1,h⟩:=af h;have f:=ZA f m;refine ZF f ?_;refine ZSG f (w_dp _ d1) ?_;cases h;exact ZL f trivial
 ·simp only[ZC,Lm];obtain⟨g,h⟩|⟨g,h⟩:=aq h
  ·cases h;exact ZL g e
  ·obtain⟨p,h⟩|⟨p,h⟩:=aq h
   ·obtain⟨g1,i1,h⟩:=af h;have f:=ZA g p;try refine ZF f ?_
    refine aF (sh:=(fun v=>⟨[(4,.b v)],[]⟩)) (s:=g1) ?_ ?_
    ·replace h:=i1;obtain⟨j,h⟩|⟨j,h⟩:=aq h
     ·obtain⟨q,h⟩|⟨q,h⟩:=aq h
      ·cases h;exact ZL (ZA f (ZA j q)) trivial
      ·cases h;exact ZL (ZA f (ZA j q)) trivial
     ·cases h;exact ZL (ZA f j) trivial
    ·simp only[ZC,JC];cases h;exact ZL f e
   ·obtain⟨v1,j1,h⟩:=af h;have f:=ZA g p;refine ZF f ?_;refine ZSG f (w_cy _ _ j1) ?_;obtain⟨t,h⟩|⟨t,h⟩:=aq h
    ·obtain⟨w1,k1,h⟩:=af h;have f:=ZA f t;refine ZF f ?_;refine ZSG f (w_dp _ k1) ?_;obtain⟨k,h⟩|⟨k,h⟩:=aq h
     ·obtain⟨u,h⟩|⟨u,h⟩:=aq h
      ·obtain⟨y1,l1,h⟩:=af h;have f:=ZA f (ZA k u);refine ZF f ?_;refine ZSG f (w_dq _ _ l1) ?_;obtain⟨z1,m1,h⟩:=af h;refine ZF f ?_;refine ZSG f (w_dq _ _ m1) ?_;obtain⟨w,h⟩|⟨w,h⟩:=aq h
       ·obtain⟨a2,p1,h⟩:=af h;have f:=ZA f w;refine ZF f ?_;refine ZSG f (NA _ _ _ p1) ?_;cases h;exact ZL f e
       ·cases h;exact ZL (ZA f w) e
      ·cases h;exact ZL (ZA f (ZA k u)) e
     ·cases h;exact ZL (ZA f k) e
    ·cases h;exact ZL (ZA f t) e
def Jf(a:ah)(b:List Int)(v:Int):St:=⟨[(1,.lst .o 1 (b.map AV.i)),(2,.pt 2 0 0),(5,.i v)],[(2,.var (.agg [.i a.Start,.lst .o 1 (a.Fibers.map AV.i)]))]⟩
theorem w_bv(a:ah)(c:List Int)(i:Int)(o:Int⊕(Unit⊕Bool))(h:Bj a c i=some o):AWP (OkS Tryz.prog) wE (qL [1,2,5] [2] (Jf a c) (qS (qX 0 [] [] (cy)) (qR aC (fun r=>.b r))) o) (Jf a c i):=by
 have e:=ZA @Jf.eq_1 @cy.eq_1;unfold Bj at h;simp only[ZC,Jf,wE];obtain⟨d,h⟩|⟨d,h⟩:=aq h
 ·obtain⟨l,j,h⟩:=af h;obtain⟨m,k,h⟩:=af h;have f:=ZA d (aV j);refine ZF f ?_;refine ZSG f (Da _ _ k) ?_;obtain⟨g,h⟩|⟨g,h⟩:=aq h
  ·cases h;exact ZL (ZA f g) @aC.eq_1
  ·cases h;exact ZL (ZA f g) e
 ·cases h;exact ZL d e
theorem w_fg(a:ah)(c:List Int){r:Bool}(h:Ju a c=some r):Ok Tryz.prog 144 [.agg [.i a.Start,.lst .o 1 (a.Fibers.map AV.i)],.lst .o 1 (c.map AV.i)] (.b r):=by
 refine aB be m144 rfl ?_;unfold Ju at h;simp only[ZC,A144,aC,aL];obtain⟨d,g,h⟩:=af h;try refine ZF trivial ?_
 refine bq (o:=d) (bA dc (aI (w_bv a c) g ?_)) (fun k hv=>?_) (fun l hv e τ hne hq=>?_)
 ·exact ZK (ZA @Jf.eq_1 @cy.eq_1)
 ·subst hv;simp only[] at h;simp only[ZC,cy,Gb];cases h;exact ZL trivial @aC.eq_1
 ·subst hv;simp only[] at h;obtain⟨rfl,j⟩:=hq;cases h;exact j
theorem w_dr(a:aM){r:Int}(h:Cc a=some r):Ok Tryz.prog 75 [.agg [.i a.First,.i a.Count]] (.i r):=by
 refine aB be m75 rfl ?_;unfold Cc at h;simp only[ZC,A75,V10,aL];obtain⟨d,b,h⟩:=af h;obtain⟨g,c,h⟩:=af h;cases h;exact ZL (ZA (aW b) (aW c)) @V10.eq_1
theorem QX(d:ah)(g:aM)(j:ah)(k:aM){r:Bool}(h:ur d g j k=some r):Ok Tryz.prog 145 [.agg [.i d.Start,.lst .o 1 (d.Fibers.map AV.i)],.agg [.i g.First,.i g.Count],.agg [.i j.Start,.lst .o 1 (j.Fibers.map AV.i)],.agg [.i k.First,.i k.Count]] (.b r):=by
 have e:=@DR.eq_1;refine aB be m145 rfl ?_;unfold ur at h;simp only[ZC,A145,DR,aL];obtain⟨s,m,h⟩:=af h;refine ZF trivial ?_;refine ZSG trivial (w_fg _ _ m) ?_;obtain⟨a,h⟩|⟨a,h⟩:=aq h
 ·obtain⟨c,h⟩|⟨c,h⟩:=aq h
  ·obtain⟨l,h⟩|⟨l,h⟩:=aq h
   ·obtain⟨t,p,h⟩:=af h;have f:=ZA a (ZA c l);refine ZF f ?_;refine ZSG f (w_dr _ p) ?_;obtain⟨u,q,h⟩:=af h;refine ZF f ?_;refine ZSG f (w_dr _ q) ?_;cases h;exact ZL f e
   ·cases h;exact ZL (ZA a (ZA c l)) e
  ·cases h;exact ZL (ZA a c) e
 ·cases h;exact ZL a e
theorem Uj(j:ae)(a:aj)(c:aj){r:Bool}(h:tl j a c=some r):Ok Tryz.prog 133 [.agg [.lst .o 1 (j.Nodes.map AV.z),.lst .o 4 (j.Fibers.map (ai .o))],.agg [.i a.Id,.i a.Class,.i a.Work.Start,.lst .o 1 (a.Work.Fibers.map AV.i),.i a.WorkBlock.First,.i a.WorkBlock.Count,.i a.Spare.Start,.lst .o 1 (a.Spare.Fibers.map AV.i),.i a.SpareBlock.First,.i a.SpareBlock.Count],.agg [.i c.Id,.i c.Class,.i c.Work.Start,.lst .o 1 (c.Work.Fibers.map AV.i),.i c.WorkBlock.First,.i c.WorkBlock.Count,.i c.Spare.Start,.lst .o 1 (c.Spare.Fibers.map AV.i),.i c.SpareBlock.First,.i c.SpareBlock.Count]] (.b r):=by
 refine aB be m133 rfl ?_;unfold tl at h;simp only[ZC,A133,cx,aL];obtain⟨q,t,h⟩:=af h;try refine ZF trivial ?_
 refine aF (sh:=(fun v=>⟨[(3,.pt 3 0 0),(4,.pt 4 0 0),(5,.pt 5 0 0),(37,.b v)],[(3,.var (.agg [.lst .o 1 (j.Nodes.map AV.z),.lst .o 4 (j.Fibers.map (ai .o))])),(4,.var (.agg [.i a.Id,.i a.Class,.i a.Work.Start,.lst .o 1 (a.Work.Fibers.map AV.i),.i a.WorkBlock.First,.i a.WorkBlock.Count,.i a.Spare.Start,.lst .o 1 (a.Spare.Fibers.map AV.i),.i a.SpareBlock.First,.i a.SpareBlock.Count])),(5,.var (.agg [.i c.Id,.i c.Class,.i c.Work.Start,.lst .o 1 (c.Work.Fibers.map AV.i),.i c.WorkBlock.First,.i c.WorkBlock.Count,.i c.Spare.Start,.lst .o 1 (c.Spare.Fibers.map AV.i),.i c.SpareBlock.First,.i c.SpareBlock.Count]))]⟩)) (s:=q) ?_ ?_
 ·replace h:=t;obtain⟨d1,u,h⟩:=af h;refine ZF trivial ?_;refine ZSG trivial (QX _ _ _ _ u) ?_;obtain⟨g,h⟩|⟨g,h⟩:=aq h
  ·cases h;exact ZL g trivial
  ·obtain⟨g1,w,h⟩:=af h;refine ZF g ?_;refine ZSG g (QX _ _ _ _ w) ?_;obtain⟨l,h⟩|⟨l,h⟩:=aq h
   ·cases h;exact ZL (ZA g l) trivial
   ·obtain⟨i1,x,h⟩:=af h;have f:=ZA g l;refine ZF f ?_;refine ZSG f (QX _ _ _ _ x) ?_;cases h;exact ZL f trivial
 ·simp only[ZC,HI];obtain⟨d,h⟩|⟨d,h⟩:=aq h
  ·cases h;exact ZL d @cx.eq_1
  ·obtain⟨y,a1,h⟩:=af h;try refine ZF d ?_
   refine aF (sh:=(fun v=>⟨[(4,.pt 4 0 0),(5,.pt 5 0 0),(53,.b v)],[(4,.var (.agg [.i a.Id,.i a.Class,.i a.Work.Start,.lst .o 1 (a.Work.Fibers.map AV.i),.i a.WorkBlock.First,.i a.WorkBlock.Count,.i a.Spare.Start,.lst .o 1 (a.Spare.Fibers.map AV.i),.i a.SpareBlock.First,.i a.SpareBlock.Count])),(5,.var (.agg [.i c.Id,.i c.Class,.i c.Work.Start,.lst .o 1 (c.Work.Fibers.map AV.i),.i c.WorkBlock.First,.i c.WorkBlock.Count,.i c.Spare.Start,.lst .o 1 (c.Spare.Fibers.map AV.i),.i c.SpareBlock.First,.i c.SpareBlock.Count]))]⟩)) (s:=y) ?_ ?_
   ·replace h:=a1;obtain⟨k,h⟩|⟨k,h⟩:=aq h
    ·obtain⟨m,h⟩|⟨m,h⟩:=aq h
     ·obtain⟨j1,b1,h⟩:=af h;have f:=ZA d (ZA k m);refine ZF f ?_;refine ZSG f (NA _ _ _ b1) ?_;cases h;exact ZL f trivial
     ·cases h;exact ZL (ZA d (ZA k m)) trivial
    ·cases h;exact ZL (ZA d k) trivial
   ·simp only[ZC,Kx];obtain⟨p,h⟩|⟨p,h⟩:=aq h
    ·cases h;exact ZL (ZA d p) @cx.eq_1
    ·obtain⟨k1,c1,h⟩:=af h;have f:=ZA d p;refine ZF f ?_;refine ZSG f (QX _ _ _ _ c1) ?_;cases h;exact ZL f @cx.eq_1
def S_s(a:ae)(b:List aj)(c:Int)(v:Int):St:=⟨[(1,.lst .o 10 (b.map (aw .o))),(2,.pt 2 0 0),(5,.i c),(6,.i v)],[(2,.var (.agg [.lst .o 1 (a.Nodes.map AV.z),.lst .o 4 (a.Fibers.map (ai .o))]))]⟩
def Ps(a:ae)(b:List aj)(c:Int)(v:Unit):St:=⟨[(1,.lst .o 10 (b.map (aw .o))),(2,.pt 2 0 0),(5,.i c)],[(2,.var (.agg [.lst .o 1 (a.Nodes.map AV.z),.lst .o 4 (a.Fibers.map (ai .o))]))]⟩
theorem w_s(a:ae)(c:List aj)(d:Int)(j:Int)(o:Int⊕(Unit⊕Bool))(h:M_s a c d j=some o):AWP (OkS Tryz.prog) MG (qL [1,2,5,6] [2] (S_s a c d) (qS (qX 2 [1,2,5] [2] (Ps a c d)) (qR aC (fun r=>.b r))) o) (S_s a c d j):=by
 have e:=ZA @S_s.eq_1 @Ps.eq_1;unfold M_s at h;simp only[ZC,S_s,MG];obtain⟨g,h⟩|⟨g,h⟩:=aq h
 ·obtain⟨p,k,h⟩:=af h;obtain⟨q,l,h⟩:=af h;obtain⟨s,m,h⟩:=af h;have f:=ZA g (ZA (aV k) (aV l));refine ZF f ?_;refine ZSG f (Uj _ _ _ m) ?_;obtain⟨i,h⟩|⟨i,h⟩:=aq h
  ·cases h;exact ZL (ZA f i) @aC.eq_1
  ·cases h;exact ZL (ZA f i) e
 ·cases h;exact ZL g e
def EO(a:ae)(b:List aj)(v:Int):St:=⟨[(1,.lst .o 10 (b.map (aw .o))),(2,.pt 2 0 0),(5,.i v)],[(2,.var (.agg [.lst .o 1 (a.Nodes.map AV.z),.lst .o 4 (a.Fibers.map (ai .o))]))]⟩
theorem w_bw(a:ae)(d:List aj)(g:Int)(o:Int⊕(Unit⊕Bool))(h:Dh a d g=some o):AWP (OkS Tryz.prog) MM (qL [1,2,5] [2] (EO a d) (qS (qX 0 [] [] (cy)) (qR aC (fun r=>.b r))) o) (EO a d g):=by
 have e:=ZA @EO.eq_1 @cy.eq_1;unfold Dh at h;simp only[ZC,EO,MM];obtain⟨c,h⟩|⟨c,h⟩:=aq h
 ·obtain⟨x,y,h⟩:=af h;try refine ZF c ?_
  refine bq (sh:=(fun v=>⟨[(1,.lst .o 10 (d.map (aw .o))),(2,.pt 2 0 0),(5,.i g)],[(2,.var (.agg [.lst .o 1 (a.Nodes.map AV.z),.lst .o 4 (a.Fibers.map (ai .o))]))]⟩)) (q:=(qR aC (fun r=>.b r))) (o:=x) ?_ (fun k1 hv=>?_) (fun l1 hv e τ hne hq=>?_)
  ·replace h:=y;obtain⟨a1,b1,h⟩:=af h;try refine ZF c ?_
   refine aF (sh:=(fun v=>⟨[(1,.lst .o 10 (d.map (aw .o))),(2,.pt 2 0 0),(5,.i g),(45,.b v)],[(2,.var (.agg [.lst .o 1 (a.Nodes.map AV.z),.lst .o 4 (a.Fibers.map (ai .o))]))]⟩)) (s:=a1) ?_ ?_
   ·replace h:=b1;obtain⟨m1,c1,h⟩:=af h;obtain⟨p1,d1,h⟩:=af h;have f:=ZA c (aV c1);refine ZF f ?_;refine ZSG f (Tc _ _ d1) ?_;obtain⟨j,h⟩|⟨j,h⟩:=aq h
    ·cases h;exact ZL (ZA f j) trivial
    ·obtain⟨k,h⟩|⟨k,h⟩:=aq h
     ·obtain⟨q1,g1,h⟩:=af h;cases h;exact ZL (ZA f (ZA j (ZA k (aV g1)))) trivial
     ·cases h;exact ZL (ZA f (ZA j k)) trivial
   ·simp only[ZC,Sd];obtain⟨l,h⟩|⟨l,h⟩:=aq h
    ·cases h;exact ZL (ZA c l) @aC.eq_1
    ·obtain⟨m,p,h⟩:=af h;try refine ZF (ZA c l) ?_
     first|refine jV (o:=m) (bA dc (aI (w_s a d g) p ?_)) (fun i1 hv τ t=>?_) (fun j1 hv e τ hne hq=>?_)|refine qc (o:=m) dc (aI (w_s a d g) p ?_) (fun i1 hv τ t=>?_) (fun j1 hv e τ hne hq=>?_)
     ·exact ZK (ZA @S_s.eq_1 @Ps.eq_1)
     ·subst hv;simp only[] at h;cases h;try refine ZF trivial ?_
      refine⟨rfl,Shp.sub t (by decide) (by decide) ?_⟩;exact ZK @Ps.eq_1
     ·subst hv;simp only[] at h;obtain⟨rfl,u⟩:=hq;cases h;try refine ZF trivial ?_
      first|exact⟨by simp,u⟩|exact⟨by simp,rfl,u⟩
  ·subst hv;simp only[] at h;simp only[ZC,Sa];cases h;exact ZL c e
  ·subst hv;simp only[] at h;obtain⟨rfl,w⟩:=hq;cases h;try refine ZF trivial ?_
   first|exact⟨by simp,w⟩|exact⟨by simp,rfl,w⟩
 ·cases h;exact ZL c e
theorem w_fh(a:ae)(c:List aj){r:Bool}(h:Fz a c=some r):Ok Tryz.prog 88 [.agg [.lst .o 1 (a.Nodes.map AV.z),.lst .o 4 (a.Fibers.map (ai .o))],.lst .o 10 (c.map (aw .o))] (.b r):=by
 refine aB be m88 rfl ?_;unfold Fz at h;simp only[ZC,A88,aC,aL];obtain⟨i,j,h⟩:=af h;try refine ZF trivial ?_
 refine aF (sh:=(fun v=>⟨[(1,.lst .o 10 (c.map (aw .o))),(2,.pt 2 0 0),(14,.b v)],[(2,.var (.agg [.lst .o 1 (a.Nodes.map AV.z),.lst .o 4 (a.Fibers.map (ai .o))]))]⟩)) (s:=i) ?_ ?_
 ·replace h:=j;obtain⟨q,k,h⟩:=af h;refine ZF trivial ?_;refine ZSG trivial (NC _ k) ?_;obtain⟨g,h⟩|⟨g,h⟩:=aq h
  ·cases h;exact ZL g trivial
  ·cases h;exact ZL g trivial
 ·simp only[ZC,RA];obtain⟨d,h⟩|⟨d,h⟩:=aq h
  ·cases h;exact ZL d @aC.eq_1
  ·obtain⟨l,m,h⟩:=af h;try refine ZF d ?_
   refine bq (o:=l) (bA dc (aI (w_bw a c) m ?_)) (fun t hv=>?_) (fun u hv e τ hne hq=>?_)
   ·exact ZK (ZA @EO.eq_1 @cy.eq_1)
   ·subst hv;simp only[] at h;simp only[ZC,cy,RO];cases h;exact ZL d @aC.eq_1
   ·subst hv;simp only[] at h;obtain⟨rfl,p⟩:=hq;cases h;exact p
def S_i(a:List az)(v:Int):St:=⟨[(0,.lst .o 2 (a.map (au .o))),(3,.i v)],[]⟩
def rj(a:List az)(v:Unit):St:=⟨[(0,.lst .o 2 (a.map (au .o)))],[]⟩
theorem w_i(a:List az)(g:Int)(o:Int⊕(Unit⊕Bool))(h:M_i a g=some o):AWP (OkS Tryz.prog) wU (qL [0,3] [] (S_i a) (qS (qX 0 [0] [] (rj a)) (qR V10 (fun r=>.b r))) o) (S_i a g):=by
 have e:=ZA @S_i.eq_1 @rj.eq_1;unfold M_i at h;simp only[ZC,S_i,wU];obtain⟨t,u,h⟩:=af h;try refine ZF trivial ?_
 refine aF (sh:=(fun v=>⟨[(0,.lst .o 2 (a.map (au .o))),(3,.i g),(11,.b v)],[]⟩)) (s:=t) ?_ ?_
 ·replace h:=u;obtain⟨k,h⟩|⟨k,h⟩:=aq h
  ·cases h;exact ZL k trivial
  ·cases h;exact ZL k trivial
 ·simp only[ZC,GW];obtain⟨c,h⟩|⟨c,h⟩:=aq h
  ·obtain⟨w,x,h⟩:=af h;try refine ZF c ?_
   refine aF (sh:=(fun v=>⟨[(0,.lst .o 2 (a.map (au .o))),(3,.i g),(61,.b v)],[]⟩)) (s:=w) ?_ ?_
   ·replace h:=x;obtain⟨b1,y,h⟩:=af h;obtain⟨c1,z,h⟩:=af h;have f:=ZA c (aV y);refine ZF f ?_;refine ZSG f (w_c _ _ _ z) ?_;obtain⟨l,h⟩|⟨l,h⟩:=aq h
    ·cases h;exact ZL (ZA f l) trivial
    ·obtain⟨d1,a1,h⟩:=af h;have f:=ZA f l;refine ZF f ?_;refine ZSG f (w_c _ _ _ a1) ?_;obtain⟨d,h⟩|⟨d,h⟩:=aq h
     ·cases h;exact ZL (ZA f d) trivial
     ·obtain⟨j,h⟩|⟨j,h⟩:=aq h
      ·obtain⟨g1,q,h⟩:=af h;obtain⟨m,h⟩|⟨m,h⟩:=aq h
       ·cases h;exact ZL (ZA f (ZA d (ZA j (ZA (aV q) m)))) trivial
       ·cases h;exact ZL (ZA f (ZA d (ZA j (ZA (aV q) m)))) trivial
      ·cases h;exact ZL (ZA f (ZA d j)) trivial
   ·simp only[ZC,Iu];obtain⟨p,h⟩|⟨p,h⟩:=aq h
    ·cases h;exact ZL (ZA c p) @V10.eq_1
    ·cases h;exact ZL (ZA c p) e
  ·cases h;exact ZL c e
theorem w_ds(a:List az){r:Bool}(h:xO a=some r):Ok Tryz.prog 182 [.lst .o 2 (a.map (au .o))] (.b r):=by
 refine aB be m182 rfl ?_;unfold xO at h;simp only[ZC,A182,V10,aL];obtain⟨c,d,h⟩:=af h;try refine ZF trivial ?_
 refine bq (o:=c) (bA dc (aI (w_i a) d ?_)) (fun j hv=>?_) (fun k hv e τ hne hq=>?_)
 ·exact ZK (ZA @S_i.eq_1 @rj.eq_1)
 ·subst hv;simp only[] at h;simp only[ZC,rj,IM];obtain⟨l,g,h⟩:=af h;refine ZF trivial ?_;refine ZSG trivial (w_c _ _ _ g) ?_;cases h;exact ZL trivial @V10.eq_1
 ·subst hv;simp only[] at h;obtain⟨rfl,i⟩:=hq;cases h;exact i
theorem w_dc(g:ae)(c:aK){r:Bool}(h:xr g c=some r):Ok Tryz.prog 183 [.agg [.lst .o 1 (g.Nodes.map AV.z),.lst .o 4 (g.Fibers.map (ai .o))],.agg [.i c.From,.i c.To,.i c.Rate,.i c.Class]] (.b r):=by
 have e:=@aC.eq_1;refine aB be m183 rfl ?_;unfold xr at h;simp only[ZC,A183,aC,aL];obtain⟨s,l,h⟩:=af h;refine ZF trivial ?_;refine ZSG trivial (w_c _ _ _ l) ?_;obtain⟨a,h⟩|⟨a,h⟩:=aq h
 ·obtain⟨t,m,h⟩:=af h;refine ZF a ?_;refine ZSG a (w_c _ _ _ m) ?_;obtain⟨d,h⟩|⟨d,h⟩:=aq h
  ·obtain⟨j,h⟩|⟨j,h⟩:=aq h
   ·obtain⟨u,p,h⟩:=af h;have f:=ZA a (ZA d j);refine ZF f ?_;refine ZSG f (w_c _ _ _ p) ?_;obtain⟨k,h⟩|⟨k,h⟩:=aq h
    ·obtain⟨v,q,h⟩:=af h;have f:=ZA f k;refine ZF f ?_;refine ZSG f (w_c _ _ _ q) ?_;cases h;exact ZL f e
    ·cases h;exact ZL (ZA f k) e
   ·cases h;exact ZL (ZA a (ZA d j)) e
  ·cases h;exact ZL (ZA a d) e
 ·cases h;exact ZL a e
def S_f(a:ae)(b:ah)(v:Int×Int):St:=⟨[(2,.pt 2 0 0),(3,.pt 3 0 0),(5,.i v.1),(6,.i v.2)],[(2,.var (.agg [.lst .o 1 (a.Nodes.map AV.z),.lst .o 4 (a.Fibers.map (ai .o))])),(3,.var (.agg [.i b.Start,.lst .o 1 (b.Fibers.map AV.i)]))]⟩
def kt(v:Int):St:=⟨[(5,.i v)],[]⟩
theorem w_f(a:ae)(b:ah)(d:Int×Int)(o:(Int×Int)⊕Int)(h:M_f a b d=some o):AWP (OkS Tryz.prog) Gu (qL [2,3,5,6] [2,3] (S_f a b) (qX 0 [5] [] (kt)) o) (S_f a b d):=by
 have e:=ZA @S_f.eq_1 @kt.eq_1;unfold M_f at h;simp only[ZC,S_f,Gu];obtain⟨c,h⟩|⟨c,h⟩:=aq h
 ·obtain⟨j,g,h⟩:=af h;obtain⟨k,i,h⟩:=af h;cases h;exact ZL (ZA c (ZA (aV g) (aV i))) e
 ·cases h;exact ZL c e
theorem Kk(a:ae)(b:ah){r:Int}(h:pi a b=some r):Ok Tryz.prog 91 [.agg [.lst .o 1 (a.Nodes.map AV.z),.lst .o 4 (a.Fibers.map (ai .o))],.agg [.i b.Start,.lst .o 1 (b.Fibers.map AV.i)]] (.i r):=by
 refine aB be m91 rfl ?_;unfold pi at h;simp only[ZC,A91,aC,aL];obtain⟨d,c,h⟩:=af h;try refine ZF trivial ?_
 refine aF (bi (aI (w_f a b) c ?_)) ?_
 ·exact ZK (ZA @S_f.eq_1 @kt.eq_1)
 ·simp only[ZC,kt,RY];cases h;exact ZL trivial @aC.eq_1
theorem OV(c:Int){r:Int}(h:vh c=some r):Ok Tryz.prog 278 [.i c] (.i r):=by
 refine aB be m278 rfl ?_;unfold vh at h;simp only[ZC,A278,V10,aL];obtain⟨a,h⟩|⟨a,h⟩:=aq h
 ·cases h;exact ZL a @V10.eq_1
 ·obtain⟨b,h⟩|⟨b,h⟩:=aq h
  ·cases h;exact ZL (ZA a b) @V10.eq_1
  ·cases h;exact ZL (ZA a b) @V10.eq_1
def MP(a:ah)(b:ah)(v:Int):St:=⟨[(4,.pt 4 0 0),(5,.pt 5 0 0),(9,.i v)],[(4,.var (.agg [.i a.Start,.lst .o 1 (a.Fibers.map AV.i)])),(5,.var (.agg [.i b.Start,.lst .o 1 (b.Fibers.map AV.i)]))]⟩
def zK(a:ah)(b:ah)(v:Unit):St:=⟨[(4,.pt 4 0 0),(5,.pt 5 0 0)],[(4,.var (.agg [.i a.Start,.lst .o 1 (a.Fibers.map AV.i)])),(5,.var (.agg [.i b.Start,.lst .o 1 (b.Fibers.map AV.i)]))]⟩
theorem w_aj(a:ah)(b:ah)(g:Int)(o:Int⊕(Unit⊕Int))(h:Dc a b g=some o):AWP (OkS Tryz.prog) wX (qL [4,5,9] [4,5] (MP a b) (qS (qX 0 [4,5] [4,5] (zK a b)) (qR cx (fun r=>.i r))) o) (MP a b g):=by
 have e:=ZA @MP.eq_1 @zK.eq_1;unfold Dc at h;simp only[ZC,MP,wX];obtain⟨c,h⟩|⟨c,h⟩:=aq h
 ·obtain⟨m,j,h⟩:=af h;obtain⟨p,k,h⟩:=af h;obtain⟨d,h⟩|⟨d,h⟩:=aq h
  ·obtain⟨q,l,h⟩:=af h;have f:=ZA c (ZA (aV j) (ZA (aV k) d));refine ZF f ?_;refine ZSG f (OV _ l) ?_;cases h;exact ZL f @cx.eq_1
  ·cases h;exact ZL (ZA c (ZA (aV j) (ZA (aV k) d))) e
 ·cases h;exact ZL c e
theorem w_dt(d:ae)(b:ah)(c:ah){r:Int}(h:En d b c=some r):Ok Tryz.prog 274 [.agg [.lst .o 1 (d.Nodes.map AV.z),.lst .o 4 (d.Fibers.map (ai .o))],.agg [.i b.Start,.lst .o 1 (b.Fibers.map AV.i)],.agg [.i c.Start,.lst .o 1 (c.Fibers.map AV.i)]] (.i r):=by
 refine aB be m274 rfl ?_;unfold En at h;simp only[ZC,A274,cx,aL];obtain⟨u,j,h⟩:=af h;refine ZF trivial ?_;refine ZSG trivial (Kk _ _ j) ?_;obtain⟨v,k,h⟩:=af h;refine ZF trivial ?_;refine ZSG trivial (Kk _ _ k) ?_;obtain⟨a,h⟩|⟨a,h⟩:=aq h
 ·obtain⟨w,l,h⟩:=af h;refine ZF a ?_;refine ZSG a (OV _ l) ?_;cases h;exact ZL a @cx.eq_1
 ·obtain⟨g,h⟩|⟨g,h⟩:=aq h
  ·obtain⟨x,m,h⟩:=af h;have f:=ZA a g;refine ZF f ?_;refine ZSG f (OV _ m) ?_;cases h;exact ZL f @cx.eq_1
  ·obtain⟨p,q,h⟩:=af h;have f:=ZA a g;try refine ZF f ?_
   refine bq (o:=p) (bA dc (aI (w_aj b c) q ?_)) (fun y hv=>?_) (fun a1 hv e τ hne hq=>?_)
   ·exact ZK (ZA @MP.eq_1 @zK.eq_1)
   ·subst hv;simp only[] at h;simp only[ZC,zK,FL];obtain⟨b1,s,h⟩:=af h;refine ZF f ?_;refine ZSG f (OV _ s) ?_;cases h;exact ZL f @cx.eq_1
   ·subst hv;simp only[] at h;obtain⟨rfl,t⟩:=hq;cases h;exact t
theorem w_p(a:List Int){r:List Int}(h:M_p a=some r):Ok Tryz.prog 107 [.lst .o 1 (a.map AV.i)] (.lst .u 1 (r.map AV.i)):=by
 refine aB be m107 rfl ?_;unfold M_p at h;simp only[ZC,A107,V10,aL];obtain⟨c,b,h⟩:=af h;cases h;exact ZL (aW b) @V10.eq_1
def MZ(a:List az)(b:Int)(v:Int×Int):St:=⟨[(0,.lst .o 2 (a.map (au .o))),(1,.i b),(5,.i v.1),(6,.i v.2)],[]⟩
theorem w_bg(b:List az)(c:Int)(g:Int×Int)(o:(Int×Int)⊕Int)(h:xk b c g=some o):AWP (OkS Tryz.prog) yA (qL [0,1,5,6] [] (MZ b c) (qX 0 [5] [] (kt)) o) (MZ b c g):=by
 have e:=ZA @MZ.eq_1 @kt.eq_1;unfold xk at h;simp only[ZC,MZ,yA];obtain⟨a,h⟩|⟨a,h⟩:=aq h
 ·obtain⟨j,i,h⟩:=af h;obtain⟨d,h⟩|⟨d,h⟩:=aq h
  ·cases h;exact ZL (ZA a (ZA (aV i) d)) e
  ·cases h;exact ZL (ZA a (ZA (aV i) d)) e
 ·cases h;exact ZL a e
theorem w_du(a:List az)(b:Int){r:Int}(h:xz a b=some r):Ok Tryz.prog 165 [.lst .o 2 (a.map (au .o)),.i b] (.i r):=by
 refine aB be m165 rfl ?_;unfold xz at h;simp only[ZC,A165,aC,aL];obtain⟨d,c,h⟩:=af h;try refine ZF trivial ?_
 refine aF (bi (aI (w_bg a b) c ?_)) ?_
 ·exact ZK (ZA @MZ.eq_1 @kt.eq_1)
 ·simp only[ZC,kt,ML];cases h;exact ZL trivial @aC.eq_1
theorem UD(c:List az)(d:Int)(g:Int){r:Int}(h:oD c d g=some r):Ok Tryz.prog 90 [.lst .o 2 (c.map (au .o)),.i d,.i g] (.i r):=by
 refine aB be m90 rfl ?_;unfold oD at h;simp only[ZC,A90,cx,aL];obtain⟨m,l,h⟩:=af h;refine ZF trivial ?_;refine ZSG trivial (w_du _ _ l) ?_;obtain⟨a,h⟩|⟨a,h⟩:=aq h
 ·cases h;exact ZL a @cx.eq_1
 ·obtain⟨p,j,h⟩:=af h;obtain⟨q,k,h⟩:=af h;obtain⟨b,h⟩|⟨b,h⟩:=aq h
  ·cases h;exact ZL (ZA a (ZA (aV j) (ZA (aW k) b))) @cx.eq_1
  ·cases h;exact ZL (ZA a (ZA (aV j) (ZA (aW k) b))) @cx.eq_1
def GC(a:List ah)(b:List Int)(v:Int×Int):St:=⟨[(0,.lst .o 2 (a.map (ay .o))),(1,.lst .o 1 (b.map AV.i)),(5,.i v.1),(6,.i v.2)],[]⟩
theorem w_ci(c:List ah)(d:List Int)(g:Int×Int)(o:(Int×Int)⊕Int)(h:HV c d g=some o):AWP (OkS Tryz.prog) xC (qL [0,1,5,6] [] (GC c d) (qX 0 [5] [] (kt)) o) (GC c d g):=by
 have e:=ZA @GC.eq_1 @kt.eq_1;unfold HV at h;simp only[ZC,GC,xC];obtain⟨a,h⟩|⟨a,h⟩:=aq h
 ·obtain⟨l,m,h⟩:=af h;try refine ZF a ?_
  refine aF (sh:=(fun v=>⟨[(0,.lst .o 2 (c.map (ay .o))),(1,.lst .o 1 (d.map AV.i)),(5,.i g.1),(6,.i g.2),(39,.b v)],[]⟩)) (s:=l) ?_ ?_
  ·replace h:=m;obtain⟨j,h⟩|⟨j,h⟩:=aq h
   ·cases h;exact ZL (ZA a j) trivial
   ·obtain⟨w,p,h⟩:=af h;obtain⟨x,q,h⟩:=af h;obtain⟨y,t,h⟩:=af h;obtain⟨z,u,h⟩:=af h;cases h;exact ZL (ZA a (ZA j (ZA (aV p) (ZA (aV q) (ZA (aV t) (aV u)))))) trivial
  ·simp only[ZC,Mt];obtain⟨k,h⟩|⟨k,h⟩:=aq h
   ·cases h;exact ZL (ZA a k) e
   ·cases h;exact ZL (ZA a k) e
 ·cases h;exact ZL a e
theorem w_fi(a:List ah)(b:List Int){r:Int}(h:KV a b=some r):Ok Tryz.prog 164 [.lst .o 2 (a.map (ay .o)),.lst .o 1 (b.map AV.i)] (.i r):=by
 refine aB be m164 rfl ?_;unfold KV at h;simp only[ZC,A164,aC,aL];obtain⟨d,c,h⟩:=af h;try refine ZF trivial ?_
 refine aF (bi (aI (w_ci a b) c ?_)) ?_
 ·exact ZK (ZA @GC.eq_1 @kt.eq_1)
 ·simp only[ZC,kt,Kr];cases h;exact ZL trivial @aC.eq_1
def S_n(a:ae)(b:List ah)(c:List Int)(d:Int×Int×Int×Int)(v:Int×Int×Int×Int):St:=⟨[(1,.lst .o 2 (b.map (ay .o))),(2,.lst .o 1 (c.map AV.i)),(3,.pt 3 0 0),(8,.i v.1),(9,.i v.2.1),(10,.i v.2.2.1),(11,.i d.2.2.2),(12,.i v.2.2.2)],[(3,.var (.agg [.lst .o 1 (a.Nodes.map AV.z),.lst .o 4 (a.Fibers.map (ai .o))]))]⟩
def Qk(a:ae)(b:List ah)(c:List Int)(d:Int×Int×Int×Int)(v:Int×Int×Int):St:=⟨[(1,.lst .o 2 (b.map (ay .o))),(2,.lst .o 1 (c.map AV.i)),(3,.pt 3 0 0),(8,.i v.1),(9,.i v.2.1),(10,.i v.2.2),(11,.i d.2.2.2)],[(3,.var (.agg [.lst .o 1 (a.Nodes.map AV.z),.lst .o 4 (a.Fibers.map (ai .o))]))]⟩
theorem w_n(c:ae)(d:List ah)(g:List Int)(j:Int×Int×Int×Int)(a:Int×Int×Int×Int)(o:(Int×Int×Int×Int)⊕(Int×Int×Int))(h:M_n c d g j a=some o):AWP (OkS Tryz.prog) yi (qL [1,2,3,8,9,10,11,12] [3] (S_n c d g j) (qX 2 [1,2,3,8,9,10,11] [3] (Qk c d g j)) o) (S_n c d g j a):=by
 have e:=ZA @S_n.eq_1 @Qk.eq_1;unfold M_n at h;simp only[ZC,S_n,yi];obtain⟨p,h⟩|⟨p,h⟩:=aq h
 ·obtain⟨x,c1,h⟩:=af h;obtain⟨y,d1,h⟩:=af h;obtain⟨a1,g1,h⟩:=af h;obtain⟨b1,i1,h⟩:=af h;obtain⟨j1,k1,h⟩:=af h;have f:=ZA p (ZA (aV c1) (ZA (aV d1) (ZA (aV g1) (aV i1))));try refine ZF f ?_
  refine aF (sh:=(fun v=>⟨[(1,.lst .o 2 (d.map (ay .o))),(2,.lst .o 1 (g.map AV.i)),(3,.pt 3 0 0),(8,.i a.1),(9,.i a.2.1),(10,.i a.2.2.1),(11,.i j.2.2.2),(12,.i a.2.2.2),(13,.i (IntKind.wrap .i64 (x*(y.Fibers.length:Int)))),(14,.i (IntKind.wrap .i64 (a1*(b1.Fibers.length:Int)))),(79,.b v)],[(3,.var (.agg [.lst .o 1 (c.Nodes.map AV.z),.lst .o 4 (c.Fibers.map (ai .o))]))]⟩)) (s:=j1) ?_ ?_
  ·replace h:=k1;obtain⟨k,h⟩|⟨k,h⟩:=aq h
   ·cases h;exact ZL (ZA f k) trivial
   ·obtain⟨l,h⟩|⟨l,h⟩:=aq h
    ·cases h;exact ZL (ZA f (ZA k l)) trivial
    ·obtain⟨m,h⟩|⟨m,h⟩:=aq h
     ·obtain⟨q,h⟩|⟨q,h⟩:=aq h
      ·cases h;exact ZL (ZA f (ZA k (ZA l (ZA m q)))) trivial
      ·obtain⟨s1,l1,h⟩:=af h;have f:=ZA f (ZA k (ZA l (ZA m q)));refine ZF f ?_;refine ZSG f (NA _ _ _ l1) ?_;cases h;exact ZL f trivial
     ·obtain⟨t1,m1,h⟩:=af h;have f:=ZA f (ZA k (ZA l m));refine ZF f ?_;refine ZSG f (NA _ _ _ m1) ?_;cases h;exact ZL f trivial
  ·simp only[ZC,MW];obtain⟨t,h⟩|⟨t,h⟩:=aq h
   ·cases h;exact ZL (ZA f t) e
   ·obtain⟨p1,q1,h⟩:=af h;have f:=ZA f t;try refine ZF f ?_
    refine aF (sh:=(fun v=>⟨[(1,.lst .o 2 (d.map (ay .o))),(2,.lst .o 1 (g.map AV.i)),(3,.pt 3 0 0),(8,.i a.1),(9,.i a.2.1),(10,.i a.2.2.1),(11,.i j.2.2.2),(12,.i a.2.2.2),(13,.i (IntKind.wrap .i64 (x*(y.Fibers.length:Int)))),(14,.i (IntKind.wrap .i64 (a1*(b1.Fibers.length:Int)))),(88,.b v)],[(3,.var (.agg [.lst .o 1 (c.Nodes.map AV.z),.lst .o 4 (c.Fibers.map (ai .o))]))]⟩)) (s:=p1) ?_ ?_
    ·replace h:=q1;obtain⟨u,h⟩|⟨u,h⟩:=aq h
     ·cases h;exact ZL (ZA f u) trivial
     ·cases h;exact ZL (ZA f u) trivial
    ·simp only[ZC,KD];obtain⟨w,h⟩|⟨w,h⟩:=aq h
     ·cases h;exact ZL (ZA f w) e
     ·cases h;exact ZL (ZA f w) e
 ·cases h;exact ZL p e
def LZ(a:ae)(b:List ah)(c:List Int)(v:Int×Int×Int×Int):St:=⟨[(1,.lst .o 2 (b.map (ay .o))),(2,.lst .o 1 (c.map AV.i)),(3,.pt 3 0 0),(8,.i v.1),(9,.i v.2.1),(10,.i v.2.2.1),(11,.i v.2.2.2)],[(3,.var (.agg [.lst .o 1 (a.Nodes.map AV.z),.lst .o 4 (a.Fibers.map (ai .o))]))]⟩
def zR(v:Int×Int):St:=⟨[(8,.i v.1),(9,.i v.2)],[]⟩
theorem w_ab(a:ae)(b:List ah)(c:List Int)(d:Int×Int×Int×Int)(o:(Int×Int×Int×Int)⊕(Int×Int))(h:ye a b c d=some o):AWP (OkS Tryz.prog) wD (qL [1,2,3,8,9,10,11] [3] (LZ a b c) (qX 0 [8,9] [] (zR)) o) (LZ a b c d):=by
 have e:=ZA @LZ.eq_1 @zR.eq_1;unfold ye at h;simp only[ZC,LZ,wD];obtain⟨g,h⟩|⟨g,h⟩:=aq h
 ·obtain⟨l,m,h⟩:=af h;try refine ZF g ?_
  refine aF (sh:=(fun v=>⟨[(1,.lst .o 2 (b.map (ay .o))),(2,.lst .o 1 (c.map AV.i)),(3,.pt 3 0 0),(8,.i v.1),(9,.i v.2.1),(10,.i v.2.2),(11,.i d.2.2.2)],[(3,.var (.agg [.lst .o 1 (a.Nodes.map AV.z),.lst .o 4 (a.Fibers.map (ai .o))]))]⟩)) (s:=l) ?_ ?_
  ·replace h:=m;obtain⟨p,j,h⟩:=af h;try refine ZF g ?_
   first|refine dG (bi (aI (w_n a b c d) j ?_)) (fun τ k=>?_)|refine eR (aI (w_n a b c d) j ?_) (fun τ k=>?_)
   ·exact ZK (ZA @S_n.eq_1 @Qk.eq_1)
   ·cases h;try refine ZF trivial ?_
    refine⟨rfl,Shp.sub k (by decide) (by decide) ?_⟩;exact ZK @Qk.eq_1
  ·simp only[ZC,MC];cases h;exact ZL g e
 ·cases h;exact ZL g e
theorem w_dv(a:ae)(b:List ah)(c:List Int){r:Int×Int}(h:wV a b c=some r):Ok Tryz.prog 122 [.agg [.lst .o 1 (a.Nodes.map AV.z),.lst .o 4 (a.Fibers.map (ai .o))],.lst .o 2 (b.map (ay .o)),.lst .o 1 (c.map AV.i)] (.tup [.i r.1,.i r.2]):=by
 refine aB be m122 rfl ?_;unfold wV at h;simp only[ZC,A122,eB,aL];obtain⟨g,d,h⟩:=af h;try refine ZF trivial ?_
 refine aF (bi (aI (w_ab a b c) d ?_)) ?_
 ·exact ZK (ZA @LZ.eq_1 @zR.eq_1)
 ·simp only[ZC,zR,Fe];cases h;exact ZL trivial @eB.eq_1
def GI(b:ae)(c:List aj)(a:aj)(v:Int):St:=⟨[(1,.lst .o 10 (c.map (aw .o))),(3,.pt 3 0 0),(5,.pt 5 0 0),(7,.i v)],[(3,.var (.agg [.lst .o 1 (b.Nodes.map AV.z),.lst .o 4 (b.Fibers.map (ai .o))])),(5,.var (.agg [.i a.Id,.i a.Class,.i a.Work.Start,.lst .o 1 (a.Work.Fibers.map AV.i),.i a.WorkBlock.First,.i a.WorkBlock.Count,.i a.Spare.Start,.lst .o 1 (a.Spare.Fibers.map AV.i),.i a.SpareBlock.First,.i a.SpareBlock.Count]))]⟩
theorem w_cj(a:ae)(c:List aj)(d:aj)(j:Int)(o:Int⊕(Unit⊕Bool))(h:KR a c d j=some o):AWP (OkS Tryz.prog) xP (qL [1,3,5,7] [3,5] (GI a c d) (qS (qX 0 [] [] (cy)) (qR cx (fun r=>.b r))) o) (GI a c d j):=by
 have e:=ZA @GI.eq_1 @cy.eq_1;unfold KR at h;simp only[ZC,GI,xP];obtain⟨g,h⟩|⟨g,h⟩:=aq h
 ·obtain⟨m,k,h⟩:=af h;obtain⟨p,l,h⟩:=af h;have f:=ZA g (aV k);refine ZF f ?_;refine ZSG f (Uj _ _ _ l) ?_;obtain⟨i,h⟩|⟨i,h⟩:=aq h
  ·cases h;exact ZL (ZA f i) @cx.eq_1
  ·cases h;exact ZL (ZA f i) e
 ·cases h;exact ZL g e
theorem w_dw(c:ae)(d:List aj)(a:aj){r:Bool}(h:BL c d a=some r):Ok Tryz.prog 166 [.agg [.lst .o 1 (c.Nodes.map AV.z),.lst .o 4 (c.Fibers.map (ai .o))],.lst .o 10 (d.map (aw .o)),.agg [.i a.Id,.i a.Class,.i a.Work.Start,.lst .o 1 (a.Work.Fibers.map AV.i),.i a.WorkBlock.First,.i a.WorkBlock.Count,.i a.Spare.Start,.lst .o 1 (a.Spare.Fibers.map AV.i),.i a.SpareBlock.First,.i a.SpareBlock.Count]] (.b r):=by
 refine aB be m166 rfl ?_;unfold BL at h;simp only[ZC,A166,cx,aL];obtain⟨g,j,h⟩:=af h;try refine ZF trivial ?_
 refine bq (o:=g) (bA dc (aI (w_cj c d a) j ?_)) (fun l hv=>?_) (fun m hv e τ hne hq=>?_)
 ·exact ZK (ZA @GI.eq_1 @cy.eq_1)
 ·subst hv;simp only[] at h;simp only[ZC,cy,Ma];cases h;exact ZL trivial @cx.eq_1
 ·subst hv;simp only[] at h;obtain⟨rfl,k⟩:=hq;cases h;exact k
def ta(a:ah)(c:List ByteArray)(d:List aA)(g:Int)(b:List ah)(v:Int):St:=⟨[(0,.pt 1000000000 0 0),(3,.pt 3 0 0),(4,.i v)],[(3,.var (.agg [.i ((a).Start),.lst .m 1 (((a).Fibers).map AV.i)])),(1000000000,.var (.agg [.lst .m 1 (c.map AV.z),.lst .m 4 (d.map (ai .m)),.i g,.sl 1000000001 0 b.length])),(1000000001,.arr 2 (b.map (ay .u)))]⟩
theorem w_bi(a:ah)(b:List ByteArray)(c:List aA)(g:Int)(d:List ah)(k:Int)(o:Int⊕Int)(h:SW a b c d k=some o):AWP (OkS Tryz.prog) qd (qL [0,3,4] [3,1000000000,1000000001] (ta a b c g d) (qX 0 [0,3,4] [3,1000000000,1000000001] (ta a b c g d)) o) (ta a b c g d k):=by
 have e:=ZA @ta.eq_1 @ta.eq_1;unfold SW at h;simp only[ZC,ta,qd];obtain⟨i,h⟩|⟨i,h⟩:=aq h
 ·obtain⟨q,l,h⟩:=af h;obtain⟨s,m,h⟩:=af h;obtain⟨t,p,h⟩:=af h;have f:=ZA i (ZA (aW l) m);refine ZF f ?_;refine ZSG f (w_dt _ _ _ p) ?_;obtain⟨j,h⟩|⟨j,h⟩:=aq h
  ·cases h;exact ZL (ZA f j) e
  ·cases h;exact ZL (ZA f j) e
 ·cases h;exact ZL i e
theorem w_gy(b:ah)(j:List ByteArray)(k:List aA)(l:Int)(a:List ah){r:List ByteArray×List aA×Int×List ah×List ah}(h:UT b j k l a=some r):OkM Tryz.prog 261 [.pt 1000000000 0 0,.agg [.i ((b).Start),.lst .m 1 (((b).Fibers).map AV.i)]] [(1000000000,.var (.agg [.lst .m 1 (j.map AV.z),.lst .m 4 (k.map (ai .m)),.i l,.sl 1000000001 0 a.length])),(1000000001,.arr 2 (a.map (ay .u)))] (.tup []) ([(49,.arr 2 (r.2.2.2.1.map (ay .m))),(1000000000,.var (.agg [.lst .m 1 (r.1.map AV.z),.lst .m 4 (r.2.1.map (ai .m)),.i r.2.2.1,.sl 49 0 r.2.2.2.1.length])),(1000000001,.arr 2 (r.2.2.2.2.map (ay .u)))]):=by
 refine aZ (lr:=[49,1000000000,1000000001]) be Uv rfl rfl ?_;unfold UT at h;simp only[ZC,HN,ce];obtain⟨p,d1,h⟩:=af h;try refine ZF trivial ?_
 refine aF (bi (aI (w_bi b j k l a) d1 ?_)) ?_
 ·exact ZK (ZA @ta.eq_1 @ta.eq_1)
 ·simp only[ZC,ta,tZ];obtain⟨w1,g1,h⟩:=af h;obtain⟨q,i1,h⟩:=aU h;have j1:sub (a.map (ay .u)) 0 (Int.toNat p)=q.map (ay .u):=by rw[bQ,i1]
  obtain⟨y1,k1,h⟩:=af h;obtain⟨s,c,h⟩:=aU h;have l1:Row.arr 2 [(.agg [.i ((b).Start),.lst .m 1 (((b).Fibers).map AV.i)]:AV)]=Row.arr 2 (s.map (ay .m)):=by rw[<-c];rfl
  have w:s.length=1:=by rw[<-c];rfl
  obtain⟨z1,m1,h⟩:=af h;have x:=aW m1;obtain⟨d,g,h⟩:=aU h;have p1:q.map (ay .m)++s.map (ay .m)=d.map (ay .m):=by rw[<-g,List.map_append]
  have y:q.length+1=d.length:=by simp[<-c,<-g]<;>omega
  rw[y] at x;obtain⟨a2,q1,h⟩:=af h;obtain⟨t,s1,h⟩:=aU h;have t1:sub (a.map (ay .u)) (Int.toNat p) (a.length-(Int.toNat p))=t.map (ay .u):=by rw[bQ,s1]
  obtain⟨b2,u1,h⟩:=af h;have a1:=aW u1;obtain⟨b1,v,h⟩:=aU h;have v1:d.map (ay .m)++t.map (ay .m)=b1.map (ay .m):=by rw[<-v,List.map_append]
  have c1:d.length+t.length=b1.length:=by simp[<-c,<-g,<-v]<;>omega
  rw[c1] at a1;cases h;exact ZL (ZA (aW g1) (ZA j1 (ZA (aW k1) (ZA l1 (ZA w (ZA x (ZA p1 (ZA y (ZA (aW q1) (ZA t1 (ZA a1 (ZA v1 c1)))))))))))) (ZA @ce.eq_1 (ZA c.symm (ZA g.symm (ZA v.symm w))))
def S_r(a:ah)(c:List ByteArray)(d:List aA)(g:Int)(b:List ah)(v:Int):St:=⟨[(0,.pt 1000000000 0 0),(3,.pt 3 0 0),(4,.i v)],[(3,.var (.agg [.i ((a).Start),.lst .m 1 (((a).Fibers).map AV.i)])),(1000000000,.var (.agg [.lst .m 1 (c.map AV.z),.lst .m 4 (d.map (ai .m)),.i g,.sl 1000000001 0 b.length])),(1000000001,.arr 2 (b.map (ay .m)))]⟩
theorem w_r(a:ah)(b:List ByteArray)(c:List aA)(g:Int)(d:List ah)(k:Int)(o:Int⊕Int)(h:M_r a b c d k=some o):AWP (OkS Tryz.prog) qx (qL [0,3,4] [3,1000000000,1000000001] (S_r a b c g d) (qX 0 [0,3,4] [3,1000000000,1000000001] (S_r a b c g d)) o) (S_r a b c g d k):=by
 have e:=ZA @S_r.eq_1 @S_r.eq_1;unfold M_r at h;simp only[ZC,S_r,qx];obtain⟨i,h⟩|⟨i,h⟩:=aq h
 ·obtain⟨q,l,h⟩:=af h;obtain⟨s,m,h⟩:=af h;obtain⟨t,p,h⟩:=af h;have f:=ZA i (ZA (aW l) m);refine ZF f ?_;refine ZSG f (w_dt _ _ _ p) ?_;obtain⟨j,h⟩|⟨j,h⟩:=aq h
  ·cases h;exact ZL (ZA f j) e
  ·cases h;exact ZL (ZA f j) e
 ·cases h;exact ZL i e
theorem w_dg(b:ah)(j:List ByteArray)(k:List aA)(l:Int)(a:List ah){r:List ByteArray×List aA×Int×List ah×List ah}(h:yX b j k l a=some r):OkM Tryz.prog 261 [.pt 1000000000 0 0,.agg [.i ((b).Start),.lst .m 1 (((b).Fibers).map AV.i)]] [(1000000000,.var (.agg [.lst .m 1 (j.map AV.z),.lst .m 4 (k.map (ai .m)),.i l,.sl 1000000001 0 a.length])),(1000000001,.arr 2 (a.map (ay .m)))] (.tup []) ([(49,.arr 2 (r.2.2.2.1.map (ay .m))),(1000000000,.var (.agg [.lst .m 1 (r.1.map AV.z),.lst .m 4 (r.2.1.map (ai .m)),.i r.2.2.1,.sl 49 0 r.2.2.2.1.length])),(1000000001,.arr 2 (r.2.2.2.2.map (ay .m)))]):=by
 refine aZ (lr:=[49,1000000000,1000000001]) be UK rfl rfl ?_;unfold yX at h;simp only[ZC,Gx,ce];obtain⟨p,c1,h⟩:=af h;try refine ZF trivial ?_
 refine aF (bi (aI (w_r b j k l a) c1 ?_)) ?_
 ·exact ZK (ZA @S_r.eq_1 @S_r.eq_1)
 ·simp only[ZC,S_r,wj];obtain⟨v1,d1,h⟩:=af h;obtain⟨q,g1,h⟩:=aU h;have i1:sub (a.map (ay .m)) 0 (Int.toNat p)=q.map (ay .m):=by rw[bQ,g1]
  obtain⟨w1,j1,h⟩:=af h;obtain⟨s,c,h⟩:=aU h;have k1:Row.arr 2 [(.agg [.i ((b).Start),.lst .m 1 (((b).Fibers).map AV.i)]:AV)]=Row.arr 2 (s.map (ay .m)):=by rw[<-c];rfl
  have v:s.length=1:=by rw[<-c];rfl
  obtain⟨y1,l1,h⟩:=af h;have w:=aW l1;obtain⟨d,g,h⟩:=aU h;have m1:q.map (ay .m)++s.map (ay .m)=d.map (ay .m):=by rw[<-g,List.map_append]
  have x:q.length+1=d.length:=by simp[<-c,<-g]<;>omega
  rw[x] at w;obtain⟨z1,p1,h⟩:=af h;obtain⟨t,q1,h⟩:=aU h;have s1:sub (a.map (ay .m)) (Int.toNat p) (a.length-(Int.toNat p))=t.map (ay .m):=by rw[bQ,q1]
  obtain⟨a2,t1,h⟩:=af h;have y:=aW t1;obtain⟨a1,u,h⟩:=aU h;have u1:d.map (ay .m)++t.map (ay .m)=a1.map (ay .m):=by rw[<-u,List.map_append]
  have b1:d.length+t.length=a1.length:=by simp[<-c,<-g,<-u]<;>omega
  rw[b1] at y;cases h;exact ZL (ZA (aW d1) (ZA i1 (ZA (aW j1) (ZA k1 (ZA v (ZA w (ZA m1 (ZA x (ZA (aW p1) (ZA s1 (ZA y (ZA u1 b1)))))))))))) (ZA @ce.eq_1 (ZA c.symm (ZA g.symm (ZA u.symm v))))
def S_t(b:Int)(c:List Int)(a:List Int)(d:Int)(v:Int×List ByteArray×List aA×Int×List ah):St:=⟨[(0,.pt 1000000000 0 0),(2,.sl 1000000003 0 a.length),(4,.pt 4 0 0),(6,.i d),(7,.i v.1)],[(4,.var (.agg [.i b,.lst .m 1 (c.map AV.i)])),(470000003,.arr 2 (v.2.2.2.2.map (ay .m))),(1000000000,.var (.agg [.lst .m 1 (v.2.1.map AV.z),.lst .m 4 (v.2.2.1.map (ai .m)),.i v.2.2.2.1,.sl 470000003 0 v.2.2.2.2.length])),(1000000003,.arr 1 (a.map AV.i))]⟩
def Pq(a:List Int)(v:List ByteArray×List aA×Int×List ah):St:=⟨[],[(470000003,.arr 2 (v.2.2.2.map (ay .m))),(1000000000,.var (.agg [.lst .m 1 (v.1.map AV.z),.lst .m 4 (v.2.1.map (ai .m)),.i v.2.2.1,.sl 470000003 0 v.2.2.2.length])),(1000000003,.arr 1 (a.map AV.i))]⟩
theorem w_t(j:Int)(u:List ByteArray)(w:List aA)(x:Int)(p:List ah)(d:List Int)(c:List Int)(i1:Int->List ByteArray->List aA->Int->List ah->List Int->List Int->Option (List ByteArray×List aA×Int×List ah×List Int))(k:Int)(y1:∀(j:Int)(u:List ByteArray)(w:List aA)(x:Int)(p:List ah)(d:List Int)(c:List Int){r:List ByteArray×List aA×Int×List ah×List Int},i1 j u w x p d c=some r->OkM Tryz.prog 240 [.pt 1000000000 0 0,.agg [.i j,.sl 1000000002 0 d.length],.sl 1000000003 0 c.length] [(1000000000,.var (.agg [.lst .m 1 (u.map AV.z),.lst .m 4 (w.map (ai .m)),.i x,.sl 1000000001 0 p.length])),(1000000001,.arr 2 (p.map (ay .m))),(1000000002,.arr 1 (d.map AV.i)),(1000000003,.arr 1 (c.map AV.i))] (.tup []) ([(470000003,.arr 2 (r.2.2.2.1.map (ay .m))),(1000000000,.var (.agg [.lst .m 1 (r.1.map AV.z),.lst .m 4 (r.2.1.map (ai .m)),.i r.2.2.1,.sl 470000003 0 r.2.2.2.1.length])),(1000000003,.arr 1 (r.2.2.2.2.map AV.i))]))(a:Int×List ByteArray×List aA×Int×List ah)(o:(Int×List ByteArray×List aA×Int×List ah)⊕(List ByteArray×List aA×Int×List ah))(h:M_t j d c i1 k a=some o):AWP (OkS Tryz.prog) mO (qL [0,2,4,6,7] [4,470000003,1000000000,1000000003] (S_t j d c k) (qX 0 [] [470000003,1000000000,1000000003] (Pq c)) o) (S_t j d c k a):=by
 have e:=ZA @S_t.eq_1 @Pq.eq_1;unfold M_t at h;simp only[ZC,S_t,mO];obtain⟨z1,a2,h⟩:=af h;try refine ZF trivial ?_
 refine aF (sh:=(fun v=>⟨[(0,.pt 1000000000 0 0),(2,.sl 1000000003 0 c.length),(4,.pt 4 0 0),(6,.i k),(7,.i a.1),(39,.b v)],[(4,.var (.agg [.i j,.lst .m 1 (d.map AV.i)])),(470000003,.arr 2 (a.2.2.2.2.map (ay .m))),(1000000000,.var (.agg [.lst .m 1 (a.2.1.map AV.z),.lst .m 4 (a.2.2.1.map (ai .m)),.i a.2.2.2.1,.sl 470000003 0 a.2.2.2.2.length])),(1000000003,.arr 1 (c.map AV.i))]⟩)) (s:=z1) ?_ ?_
 ·replace h:=a2;obtain⟨y,h⟩|⟨y,h⟩:=aq h
  ·cases h;exact ZL y trivial
  ·cases h;exact ZL y trivial
 ·simp only[ZC,rJ];obtain⟨g,h⟩|⟨g,h⟩:=aq h
  ·obtain⟨j1,b2,h⟩:=af h;refine ZF g ?_;refine ZSG g (HL _ _ _ b2) ?_;obtain⟨c2,d2,h⟩:=af h;try refine ZF g ?_
   refine aF (sh:=(fun v=>⟨[(0,.pt 1000000000 0 0),(2,.sl 1000000003 0 c.length),(4,.pt 4 0 0),(6,.i k),(7,.i a.1),(8,.i j1),(56,.b v)],[(4,.var (.agg [.i j,.lst .m 1 (d.map AV.i)])),(470000003,.arr 2 (a.2.2.2.2.map (ay .m))),(1000000000,.var (.agg [.lst .m 1 (a.2.1.map AV.z),.lst .m 4 (a.2.2.1.map (ai .m)),.i a.2.2.2.1,.sl 470000003 0 a.2.2.2.2.length])),(1000000003,.arr 1 (c.map AV.i))]⟩)) (s:=c2) ?_ ?_
   ·replace h:=d2;obtain⟨a1,h⟩|⟨a1,h⟩:=aq h
    ·obtain⟨u2,g2,h⟩:=af h;have f:=ZA g a1;refine ZF f ?_;refine ZSG f (Da _ _ g2) ?_;cases h;exact ZL f trivial
    ·cases h;exact ZL (ZA g a1) trivial
   ·simp only[ZC,rD];obtain⟨b1,h⟩|⟨b1,h⟩:=aq h
    ·obtain⟨k1,i2,h⟩:=af h;have f:=ZA g b1;refine ZF f ?_;refine ZUG f (w_p _ i2) ?_;obtain⟨c1,l,h⟩:=aU h;have j2:Row.arr 1 [(.i a.1:AV)]=Row.arr 1 (c1.map AV.i):=by rw[<-l];rfl
     have l1:c1.length=1:=by rw[<-l];rfl
     obtain⟨v2,k2,h⟩:=af h;have m1:=aW k2;obtain⟨p1,q,h⟩:=aU h;have l2:k1.map AV.i++c1.map AV.i=p1.map AV.i:=by rw[<-q,List.map_append]
     have q1:k1.length+1=p1.length:=by simp[<-l,<-q]<;>omega
     rw[q1] at m1;obtain⟨s1,m2,h⟩:=af h;have f:=ZA f (ZA j2 (ZA l1 (ZA m1 (ZA l2 q1))));refine ZF f ?_;refine ZUG f (w_p _ m2) ?_;obtain⟨d1,t,h⟩:=aU h;have p2:Row.arr 1 [(.i j1:AV)]=Row.arr 1 (d1.map AV.i):=by rw[<-t];rfl
     have t1:d1.length=1:=by rw[<-t];rfl
     obtain⟨w2,q2,h⟩:=af h;have u1:=aW q2;obtain⟨v1,g1,h⟩:=aU h;have s2:s1.map AV.i++d1.map AV.i=v1.map AV.i:=by rw[<-g1,List.map_append]
     have w1:s1.length+1=v1.length:=by simp[<-l,<-q,<-t,<-g1]<;>omega
     rw[w1] at u1;obtain⟨x2,t2,h⟩:=af h;have f:=ZA f (ZA p2 (ZA t1 (ZA u1 (ZA s2 w1))));refine ZF f ?_;refine ZWG f (y1 _ _ _ _ _ _ _ t2) [470000003,1000000000,1000000003] [477300003] ?_;cases h;exact ZL f (ZA e (ZA l.symm (ZA q.symm (ZA t.symm (ZA g1.symm (ZA l1 t1))))))
    ·cases h;exact ZL (ZA g b1) e
  ·cases h;exact ZL g e
theorem Wn(l:Int->List ByteArray->List aA->Int->List ah->List Int->List Int->Option (List ByteArray×List aA×Int×List ah×List Int))(q:∀(d:Int)(g:List ByteArray)(j:List aA)(k:Int)(a:List ah)(b:List Int)(c:List Int){r:List ByteArray×List aA×Int×List ah×List Int},l d g j k a b c=some r->OkM Tryz.prog 240 [.pt 1000000000 0 0,.agg [.i d,.sl 1000000002 0 b.length],.sl 1000000003 0 c.length] [(1000000000,.var (.agg [.lst .m 1 (g.map AV.z),.lst .m 4 (j.map (ai .m)),.i k,.sl 1000000001 0 a.length])),(1000000001,.arr 2 (a.map (ay .m))),(1000000002,.arr 1 (b.map AV.i)),(1000000003,.arr 1 (c.map AV.i))] (.tup []) ([(470000003,.arr 2 (r.2.2.2.1.map (ay .m))),(1000000000,.var (.agg [.lst .m 1 (r.1.map AV.z),.lst .m 4 (r.2.1.map (ai .m)),.i r.2.2.1,.sl 470000003 0 r.2.2.2.1.length])),(1000000003,.arr 1 (r.2.2.2.2.map AV.i))]))(d:Int)(g:List ByteArray)(j:List aA)(k:Int)(a:List ah)(b:List Int)(c:List Int){r:List ByteArray×List aA×Int×List ah×List Int}(h:tD l d g j k a b c=some r):OkM Tryz.prog 240 [.pt 1000000000 0 0,.agg [.i d,.sl 1000000002 0 b.length],.sl 1000000003 0 c.length] [(1000000000,.var (.agg [.lst .m 1 (g.map AV.z),.lst .m 4 (j.map (ai .m)),.i k,.sl 1000000001 0 a.length])),(1000000001,.arr 2 (a.map (ay .m))),(1000000002,.arr 1 (b.map AV.i)),(1000000003,.arr 1 (c.map AV.i))] (.tup []) ([(470000003,.arr 2 (r.2.2.2.1.map (ay .m))),(1000000000,.var (.agg [.lst .m 1 (r.1.map AV.z),.lst .m 4 (r.2.1.map (ai .m)),.i r.2.2.1,.sl 470000003 0 r.2.2.2.1.length])),(1000000003,.arr 1 (r.2.2.2.2.map AV.i))]):=by
 refine aZ (lr:=[470000003,1000000000,1000000003]) be Ra rfl rfl ?_;unfold tD at h;simp only[ZC,Au,ce];obtain⟨y,s,h⟩:=af h;obtain⟨t,u,h⟩:=af h;obtain⟨p,h⟩|⟨p,h⟩:=aq h
 ·obtain⟨a1,x,h⟩:=af h;have f:=ZA (aW s) (ZA u p);refine ZF f ?_;refine ZWG f (w_dg _ _ _ _ _ x) [49,1000000000,1000000001] [2400049] ?_;cases h;exact ZL f @ce.eq_1
 ·obtain⟨b1,v,h⟩:=af h;try refine ZF (ZA (aW s) (ZA u p)) ?_
  first|refine dG (bi (aI (w_t d g j k a b c l t q) v ?_)) (fun τ w=>?_)|refine eR (aI (w_t d g j k a b c l t q) v ?_) (fun τ w=>?_)
  ·exact ZK (ZA @S_t.eq_1 @Pq.eq_1)
  ·cases h;refine jE w (by decide) ?_ rfl;exact ZK (ZA @ce.eq_1 @Pq.eq_1)
theorem w_bj:∀(n:Nat)(d:Int)(g:List ByteArray)(j:List aA)(k:Int)(a:List ah)(b:List Int)(c:List Int){r:List ByteArray×List aA×Int×List ah×List Int}(_:qZ n d g j k a b c=some r),OkM Tryz.prog 240 [.pt 1000000000 0 0,.agg [.i d,.sl 1000000002 0 b.length],.sl 1000000003 0 c.length] [(1000000000,.var (.agg [.lst .m 1 (g.map AV.z),.lst .m 4 (j.map (ai .m)),.i k,.sl 1000000001 0 a.length])),(1000000001,.arr 2 (a.map (ay .m))),(1000000002,.arr 1 (b.map AV.i)),(1000000003,.arr 1 (c.map AV.i))] ((fun(r:List ByteArray×List aA×Int×List ah×List Int)=>.tup []) r) ((fun(r:List ByteArray×List aA×Int×List ah×List Int)=>[(470000003,.arr 2 (r.2.2.2.1.map (ay .m))),(1000000000,.var (.agg [.lst .m 1 (r.1.map AV.z),.lst .m 4 (r.2.1.map (ai .m)),.i r.2.2.1,.sl 470000003 0 r.2.2.2.1.length])),(1000000003,.arr 1 (r.2.2.2.2.map AV.i))]) r)
 |0,d,g,j,k,a,b,c,_,h=>by cases h
 |n+1,d,g,j,k,a,b,c,_,h=>Wn (qZ n) (w_bj n) d g j k a b c h
def GU(b:Int)(a:List Int)(c:Int)(v:Int×List ByteArray×List aA×Int×List ah):St:=⟨[(0,.pt 1000000000 0 0),(2,.sl 1000000001 0 a.length),(4,.pt 4 0 0),(6,.i c),(7,.i v.1)],[(4,.var (.agg [.i b,.lst .m 1 []])),(470000003,.arr 2 (v.2.2.2.2.map (ay .m))),(1000000000,.var (.agg [.lst .m 1 (v.2.1.map AV.z),.lst .m 4 (v.2.2.1.map (ai .m)),.i v.2.2.2.1,.sl 470000003 0 v.2.2.2.2.length])),(1000000001,.arr 1 (a.map AV.i))]⟩
def zT(a:List Int)(v:List ByteArray×List aA×Int×List ah):St:=⟨[],[(470000003,.arr 2 (v.2.2.2.map (ay .m))),(1000000000,.var (.agg [.lst .m 1 (v.1.map AV.z),.lst .m 4 (v.2.1.map (ai .m)),.i v.2.2.1,.sl 470000003 0 v.2.2.2.length])),(1000000001,.arr 1 (a.map AV.i))]⟩
theorem w_az(g:Int)(d:List Int)(j:Int)(a:Int×List ByteArray×List aA×Int×List ah)(o:(Int×List ByteArray×List aA×Int×List ah)⊕(List ByteArray×List aA×Int×List ah))(h:TT g d j a=some o):AWP (OkS Tryz.prog) qh (qL [0,2,4,6,7] [4,470000003,1000000000,1000000001] (GU g d j) (qX 0 [] [470000003,1000000000,1000000001] (zT d)) o) (GU g d j a):=by
 have e:=ZA @GU.eq_1 @zT.eq_1;unfold TT at h;simp only[ZC,GU,qh];obtain⟨q1,s1,h⟩:=af h;try refine ZF trivial ?_
 refine aF (sh:=(fun v=>⟨[(0,.pt 1000000000 0 0),(2,.sl 1000000001 0 d.length),(4,.pt 4 0 0),(6,.i j),(7,.i a.1),(39,.b v)],[(4,.var (.agg [.i g,.lst .m 1 []])),(470000003,.arr 2 (a.2.2.2.2.map (ay .m))),(1000000000,.var (.agg [.lst .m 1 (a.2.1.map AV.z),.lst .m 4 (a.2.2.1.map (ai .m)),.i a.2.2.2.1,.sl 470000003 0 a.2.2.2.2.length])),(1000000001,.arr 1 (d.map AV.i))]⟩)) (s:=q1) ?_ ?_
 ·replace h:=s1;obtain⟨q,h⟩|⟨q,h⟩:=aq h
  ·cases h;exact ZL q trivial
  ·cases h;exact ZL q trivial
 ·simp only[ZC,uW];obtain⟨c,h⟩|⟨c,h⟩:=aq h
  ·obtain⟨a1,t1,h⟩:=af h;refine ZF c ?_;refine ZSG c (HL _ _ _ t1) ?_;obtain⟨u1,v1,h⟩:=af h;try refine ZF c ?_
   refine aF (sh:=(fun v=>⟨[(0,.pt 1000000000 0 0),(2,.sl 1000000001 0 d.length),(4,.pt 4 0 0),(6,.i j),(7,.i a.1),(8,.i a1),(56,.b v)],[(4,.var (.agg [.i g,.lst .m 1 []])),(470000003,.arr 2 (a.2.2.2.2.map (ay .m))),(1000000000,.var (.agg [.lst .m 1 (a.2.1.map AV.z),.lst .m 4 (a.2.2.1.map (ai .m)),.i a.2.2.2.1,.sl 470000003 0 a.2.2.2.2.length])),(1000000001,.arr 1 (d.map AV.i))]⟩)) (s:=u1) ?_ ?_
   ·replace h:=v1;obtain⟨t,h⟩|⟨t,h⟩:=aq h
    ·obtain⟨k2,w1,h⟩:=af h;have f:=ZA c t;refine ZF f ?_;refine ZSG f (Da _ _ w1) ?_;cases h;exact ZL f trivial
    ·cases h;exact ZL (ZA c t) trivial
   ·simp only[ZC,ud];obtain⟨u,h⟩|⟨u,h⟩:=aq h
    ·obtain⟨b1,y1,h⟩:=af h;have f:=ZA c u;refine ZF f ?_;refine ZUG f (w_p _ y1) ?_;obtain⟨w,k,h⟩:=aU h;have z1:Row.arr 1 [(.i a.1:AV)]=Row.arr 1 (w.map AV.i):=by rw[<-k];rfl
     have c1:w.length=1:=by rw[<-k];rfl
     obtain⟨l2,a2,h⟩:=af h;have d1:=aW a2;obtain⟨g1,l,h⟩:=aU h;have b2:b1.map AV.i++w.map AV.i=g1.map AV.i:=by rw[<-l,List.map_append]
     have i1:b1.length+1=g1.length:=by simp[<-k,<-l]<;>omega
     rw[i1] at d1;obtain⟨j1,c2,h⟩:=af h;have f:=ZA f (ZA z1 (ZA c1 (ZA d1 (ZA b2 i1))));refine ZF f ?_;refine ZUG f (w_p _ c2) ?_;obtain⟨x,p,h⟩:=aU h;have d2:Row.arr 1 [(.i a1:AV)]=Row.arr 1 (x.map AV.i):=by rw[<-p];rfl
     have k1:x.length=1:=by rw[<-p];rfl
     obtain⟨m2,g2,h⟩:=af h;have l1:=aW g2;obtain⟨m1,y,h⟩:=aU h;have i2:j1.map AV.i++x.map AV.i=m1.map AV.i:=by rw[<-y,List.map_append]
     have p1:j1.length+1=m1.length:=by simp[<-k,<-l,<-p,<-y]<;>omega
     rw[p1] at l1;obtain⟨p2,j2,h⟩:=af h;have f:=ZA f (ZA d2 (ZA k1 (ZA l1 (ZA i2 p1))));refine ZF f ?_;refine ZWG f (w_bj N0 _ _ _ _ _ _ _ j2) [470000003,1000000000,1000000003] [477300003] ?_;cases h;exact ZL f (ZA e (ZA k.symm (ZA l.symm (ZA p.symm (ZA y.symm (ZA c1 k1))))))
    ·cases h;exact ZL (ZA c u) e
  ·cases h;exact ZL c e
theorem w_fj(b:Int)(d:List ByteArray)(g:List aA)(j:Int)(a:List Int){r:List ByteArray×List aA×Int×List ah×List Int}(h:Mb b d g j a=some r):OkM Tryz.prog 240 [.pt 1000000000 0 0,.agg [.i b,.lst .u 1 []],.sl 1000000001 0 a.length] [(1000000000,.var (.agg [.lst .m 1 (d.map AV.z),.lst .m 4 (g.map (ai .m)),.i j,.lst .u 2 []])),(1000000001,.arr 1 (a.map AV.i))] (.tup []) ([(470000003,.arr 2 (r.2.2.2.1.map (ay .m))),(1000000000,.var (.agg [.lst .m 1 (r.1.map AV.z),.lst .m 4 (r.2.1.map (ai .m)),.i r.2.2.1,.sl 470000003 0 r.2.2.2.1.length])),(1000000001,.arr 1 (r.2.2.2.2.map AV.i))]):=by
 refine aZ (lr:=[470000003,1000000000,1000000001]) be Vm rfl rfl ?_;unfold Mb at h;simp only[ZC,LE,ce];obtain⟨v,k,h⟩:=af h;obtain⟨l,p,h⟩:=af h;obtain⟨c,h⟩|⟨c,h⟩:=aq h
 ·obtain⟨w,t,h⟩:=af h;have f:=ZA (aW k) (ZA p c);refine ZF f ?_;refine ZWG f (w_gy _ _ _ _ _ t) [49,1000000000,1000000001] [2400049] ?_;cases h;exact ZL f @ce.eq_1
 ·obtain⟨x,q,h⟩:=af h;try refine ZF (ZA (aW k) (ZA p c)) ?_
  first|refine dG (bi (aI (w_az b a l) q ?_)) (fun τ s=>?_)|refine eR (aI (w_az b a l) q ?_) (fun τ s=>?_)
  ·exact ZK (ZA @GU.eq_1 @zT.eq_1)
  ·cases h;refine jE s (by decide) ?_ rfl;exact ZK (ZA @ce.eq_1 @zT.eq_1)
theorem w_cz(c:ae)(d:Int)(k:Int){r:Bool×List ah}(h:uI c d k=some r):OkM Tryz.prog 218 [.agg [.lst .m 1 (((c).Nodes).map AV.z),.lst .m 4 (((c).Fibers).map (ai .m))],.i d,.i k] [] (.tup [.sl 6 0 r.2.length,.b r.1]) ([(6,.arr 2 (r.2.map (ay .m)))]):=by
 refine aZ (lr:=[6]) be UX rfl rfl ?_;unfold uI at h;simp only[ZC,Me,eB];obtain⟨l,a,h⟩:=aU h;have p:Row.arr 1 [(.i d:AV)]=Row.arr 1 (l.map AV.i):=by rw[<-a];rfl
 have g:l.length=1:=by rw[<-a];rfl
 obtain⟨t,q,h⟩:=af h;have f:=ZA p g;refine ZF f ?_;refine ZWG f (w_fj _ _ _ _ _ q) [470000003,1000000000,1000000001] [471900003] ?_;obtain⟨j,h⟩|⟨j,h⟩:=aq h
 ·cases h;exact ZL (ZA f j) (ZA @eB.eq_1 (ZA a.symm g))
 ·obtain⟨u,s,h⟩:=af h;cases h;exact ZL (ZA f (ZA j (aW s))) (ZA @eB.eq_1 (ZA a.symm g))
def S_q(b:ae)(d:Nat)(g:Nat)(a:aK)(j:List az)(c:Bool×List ah)(v:Int×List ah×List Int):St:=⟨[(1,.sl 1000000000 d g),(3,.pt 3 0 0),(5,.pt 5 0 0),(9,.sl 9 0 v.2.1.length),(10,.sl 10 0 v.2.2.length),(11,.sl 11 0 c.2.length),(13,.i v.1)],[(3,.var (.agg [.lst .m 1 (((b).Nodes).map AV.z),.lst .m 4 (((b).Fibers).map (ai .m))])),(5,.var (.agg [.i ((a).From),.i ((a).To),.i ((a).Rate),.i ((a).Class)])),(9,.arr 2 (v.2.1.map (ay .m))),(10,.arr 1 (v.2.2.map AV.i)),(11,.arr 2 (c.2.map (ay .m))),(1000000000,.arr 2 (j.map (au .u)))]⟩
def Pv(a:List az)(v:List ah×List Int):St:=⟨[(9,.sl 9 0 v.1.length),(10,.sl 10 0 v.2.length)],[(9,.arr 2 (v.1.map (ay .m))),(10,.arr 1 (v.2.map AV.i)),(1000000000,.arr 2 (a.map (au .u)))]⟩
theorem w_q(l:ae)(d:Nat)(g:Nat)(p:aK)(b:List az)(q:Bool×List ah)(a:Int×List ah×List Int)(o:(Int×List ah×List Int)⊕(List ah×List Int))(h:M_q l d g p b q a=some o):AWP (OkS Tryz.prog) pz (qL [1,3,5,9,10,11,13] [3,5,9,10,11,1000000000] (S_q l d g p b q) (qX 0 [9,10] [9,10,1000000000] (Pv b)) o) (S_q l d g p b q a):=by
 have e:=ZA @S_q.eq_1 @Pv.eq_1;unfold M_q at h;simp only[ZC,S_q,pz];obtain⟨s,h⟩|⟨s,h⟩:=aq h
 ·obtain⟨c2,k1,h⟩:=af h;obtain⟨y,l1,h⟩:=af h;obtain⟨d2,m1,h⟩:=af h;have f:=ZA s (ZA (aW k1) l1);refine ZF f ?_;refine ZSG f (Kk _ _ m1) ?_;obtain⟨p1,q1,h⟩:=aU h;have s1:sub (b.map (au .u)) d g=p1.map (au .u):=by rw[bQ,q1]
  obtain⟨t1,u1,h⟩:=af h;have f:=ZA f s1;refine ZF f ?_;refine ZSG f (UD _ _ _ u1) ?_;obtain⟨t,h⟩|⟨t,h⟩:=aq h
  ·obtain⟨v,c,h⟩:=aU h;have v1:Row.arr 2 [(.agg [.i y.Start,.lst .m 1 (y.Fibers.map AV.i)]:AV)]=Row.arr 2 (v.map (ay .m)):=by rw[<-c];rfl
   have z:v.length=1:=by rw[<-c];rfl
   obtain⟨g2,w1,h⟩:=af h;have a1:=aW w1;obtain⟨b1,j,h⟩:=aU h;have y1:a.2.1.map (ay .m)++v.map (ay .m)=b1.map (ay .m):=by rw[<-j,List.map_append]
   have c1:a.2.1.length+1=b1.length:=by simp[<-c,<-j]<;>omega
   rw[c1] at a1;obtain⟨w,k,h⟩:=aU h;have z1:Row.arr 1 [(.i t1:AV)]=Row.arr 1 (w.map AV.i):=by rw[<-k];rfl
   have d1:w.length=1:=by rw[<-k];rfl
   obtain⟨i2,a2,h⟩:=af h;have g1:=aW a2;obtain⟨i1,x,h⟩:=aU h;have b2:a.2.2.map AV.i++w.map AV.i=i1.map AV.i:=by rw[<-x,List.map_append]
   have j1:a.2.2.length+1=i1.length:=by simp[<-c,<-j,<-k,<-x]<;>omega
   rw[j1] at g1;cases h;exact ZL (ZA f (ZA t (ZA v1 (ZA z (ZA a1 (ZA y1 (ZA c1 (ZA z1 (ZA d1 (ZA g1 (ZA b2 j1))))))))))) (ZA e (ZA c.symm (ZA j.symm (ZA k.symm (ZA x.symm (ZA z d1))))))
  ·cases h;exact ZL (ZA f t) e
 ·cases h;exact ZL s e
theorem w_ei(c:ae)(g:Nat)(j:Nat)(a:aK)(k:List az){r:Bool×List ah×List Int×List az}(h:BS c g j a k=some r):OkM Tryz.prog 184 [.agg [.lst .m 1 (((c).Nodes).map AV.z),.lst .m 4 (((c).Fibers).map (ai .m))],.sl 1000000000 g j,.agg [.i ((a).From),.i ((a).To),.i ((a).Rate),.i ((a).Class)]] [(1000000000,.arr 2 (k.map (au .u)))] (.tup [.sl 6 0 r.2.1.length,.sl 7 0 r.2.2.1.length,.b r.1]) ([(6,.arr 2 (r.2.1.map (ay .m))),(7,.arr 1 (r.2.2.1.map AV.i)),(1000000000,.arr 2 (r.2.2.2.map (au .u)))]):=by
 refine aZ (lr:=[6,7,1000000000]) be Vz rfl rfl ?_;unfold BS at h;simp only[ZC,GK,jT];obtain⟨l,p,h⟩:=af h;refine ZF trivial ?_;refine ZWG trivial (w_cz _ _ _ p) [6] [2400006] ?_;obtain⟨d,h⟩|⟨d,h⟩:=aq h
 ·cases h;exact ZL d @jT.eq_1
 ·obtain⟨s,q,h⟩:=af h;try refine ZF d ?_
  refine aF (bi (aI (w_q c g j a k l) q ?_)) ?_
  ·exact ZK (ZA @S_q.eq_1 @Pv.eq_1)
  ·simp only[ZC,Pv,wa];cases h;exact ZL d @jT.eq_1
theorem w_cp(c:ae)(g:Nat)(j:Nat)(a:aK)(k:List az){r:Bool×List ah×List Int×List az}(h:uJ c g j a k=some r):OkM Tryz.prog 121 [.agg [.lst .m 1 (((c).Nodes).map AV.z),.lst .m 4 (((c).Fibers).map (ai .m))],.sl 1000000000 g j,.agg [.i ((a).From),.i ((a).To),.i ((a).Rate),.i ((a).Class)]] [(1000000000,.arr 2 (k.map (au .u)))] (.tup [.sl 6 0 r.2.1.length,.sl 7 0 r.2.2.1.length,.b r.1]) ([(6,.arr 2 (r.2.1.map (ay .m))),(7,.arr 1 (r.2.2.1.map AV.i)),(1000000000,.arr 2 (r.2.2.2.map (au .u)))]):=by
 refine aZ (lr:=[6,7,1000000000]) be UF rfl rfl ?_;unfold uJ at h;simp only[ZC,Gp,jT];obtain⟨q,t,h⟩:=af h;try refine ZF trivial ?_
 refine aF (sh:=(fun v=>⟨[(1,.sl 1000000000 g j),(3,.pt 3 0 0),(5,.pt 5 0 0),(22,.b v)],[(3,.var (.agg [.lst .m 1 (((c).Nodes).map AV.z),.lst .m 4 (((c).Fibers).map (ai .m))])),(5,.var (.agg [.i ((a).From),.i ((a).To),.i ((a).Rate),.i ((a).Class)])),(1000000000,.arr 2 (k.map (au .u)))]⟩)) (s:=q) ?_ ?_
 ·replace h:=t;obtain⟨g1,w,h⟩:=af h;refine ZF trivial ?_;refine ZSG trivial (NC _ w) ?_;obtain⟨l,h⟩|⟨l,h⟩:=aq h
  ·cases h;exact ZL l trivial
  ·obtain⟨x,y,h⟩:=aU h;have a1:sub (k.map (au .u)) g j=x.map (au .u):=by rw[bQ,y]
   obtain⟨i1,b1,h⟩:=af h;have f:=ZA l a1;refine ZF f ?_;refine ZSG f (w_ds _ b1) ?_;obtain⟨p,h⟩|⟨p,h⟩:=aq h
   ·cases h;exact ZL (ZA f p) trivial
   ·obtain⟨j1,c1,h⟩:=af h;have f:=ZA f p;refine ZF f ?_;refine ZSG f (w_dc _ _ c1) ?_;cases h;exact ZL f trivial
 ·simp only[ZC,vQ];obtain⟨d,h⟩|⟨d,h⟩:=aq h
  ·cases h;exact ZL d @jT.eq_1
  ·obtain⟨k1,d1,h⟩:=af h;refine ZF d ?_;refine ZWG d (w_ei _ _ _ _ _ d1) [6,7,1000000000] [2900006,2900007] ?_;cases h;exact ZL d @jT.eq_1
theorem w_co(d:ae)(j:Nat)(k:Nat)(c:aK)(l:List az){r:ah×ah×Bool×List az}(h:tf d j k c l=some r):OkM Tryz.prog 44 [.agg [.lst .m 1 (((d).Nodes).map AV.z),.lst .m 4 (((d).Fibers).map (ai .m))],.sl 1000000000 j k,.agg [.i ((c).From),.i ((c).To),.i ((c).Rate),.i ((c).Class)]] [(1000000000,.arr 2 (l.map (au .u)))] (.tup [.agg [.i ((r.1).Start),.lst .m 1 (((r.1).Fibers).map AV.i)],.agg [.i ((r.2.1).Start),.lst .m 1 (((r.2.1).Fibers).map AV.i)],.b r.2.2.1]) ([(1000000000,.arr 2 (r.2.2.2.map (au .u)))]):=by
 refine aZ (lr:=[1000000000]) be VU rfl rfl ?_;unfold tf at h;simp only[ZC,Rx,mU];obtain⟨x,p,h⟩:=af h;refine ZF trivial ?_;refine ZWG trivial (w_cp _ _ _ _ _ p) [6,7,1000000000] [1900006,1900007] ?_;obtain⟨a,h⟩|⟨a,h⟩:=aq h
 ·cases h;exact ZL a @mU.eq_1
 ·obtain⟨y,q,h⟩:=af h;refine ZF a ?_;refine ZUG a (w_dv _ _ _ q) ?_;obtain⟨g,h⟩|⟨g,h⟩:=aq h
  ·cases h;exact ZL (ZA a g) @mU.eq_1
  ·obtain⟨a1,s,h⟩:=af h;obtain⟨b1,t,h⟩:=af h;obtain⟨c1,v,h⟩:=af h;obtain⟨d1,w,h⟩:=af h;cases h;exact ZL (ZA a (ZA g (ZA (aW s) (ZA t (ZA (aW v) w))))) @mU.eq_1
theorem w_ek(a:ah){r:ah}(h:Ho a=some r):Ok Tryz.prog 214 [.agg [.i a.Start,.lst .o 1 (a.Fibers.map AV.i)]] (.agg [.i r.Start,.lst .u 1 (r.Fibers.map AV.i)]):=by
 refine aB be m214 rfl ?_;unfold Ho at h;simp only[ZC,A214,dz,aL];obtain⟨c,b,h⟩:=af h;refine ZF trivial ?_;refine ZUG trivial (w_p _ b) ?_;cases h;exact ZL trivial @dz.eq_1
theorem UH(a:aj){r:aj}(h:xE a=some r):Ok Tryz.prog 167 [.agg [.i a.Id,.i a.Class,.i a.Work.Start,.lst .o 1 (a.Work.Fibers.map AV.i),.i a.WorkBlock.First,.i a.WorkBlock.Count,.i a.Spare.Start,.lst .o 1 (a.Spare.Fibers.map AV.i),.i a.SpareBlock.First,.i a.SpareBlock.Count]] (.agg [.i r.Id,.i r.Class,.i r.Work.Start,.lst .u 1 (r.Work.Fibers.map AV.i),.i r.WorkBlock.First,.i r.WorkBlock.Count,.i r.Spare.Start,.lst .u 1 (r.Spare.Fibers.map AV.i),.i r.SpareBlock.First,.i r.SpareBlock.Count]):=by
 refine aB be m167 rfl ?_;unfold xE at h;simp only[ZC,A167,Vh,aL];obtain⟨d,b,h⟩:=af h;refine ZF trivial ?_;refine ZUG trivial (w_ek _ b) ?_;obtain⟨g,c,h⟩:=af h;refine ZF trivial ?_;refine ZUG trivial (w_ek _ c) ?_;cases h;exact ZL trivial @Vh.eq_1
def td(b:List aj)(a:aj)(v:Int×List aj):St:=⟨[(0,.lst .o 10 (b.map (aw .o))),(3,.pt 3 0 0),(5,.sl 5 0 v.2.length),(6,.i v.1)],[(3,.var (.agg [.i a.Id,.i a.Class,.i a.Work.Start,.lst .o 1 (a.Work.Fibers.map AV.i),.i a.WorkBlock.First,.i a.WorkBlock.Count,.i a.Spare.Start,.lst .o 1 (a.Spare.Fibers.map AV.i),.i a.SpareBlock.First,.i a.SpareBlock.Count])),(5,.arr 10 (v.2.map (aw .u)))]⟩
theorem w_ba(g:List aj)(a:aj)(d:Int×List aj)(o:(Int×List aj)⊕(Int×List aj))(h:KJ g a d=some o):AWP (OkS Tryz.prog) Ii (qL [0,3,5,6] [3,5] (td g a) (qX 0 [0,3,5,6] [3,5] (td g a)) o) (td g a d):=by
 have e:=ZA @td.eq_1 @td.eq_1;unfold KJ at h;simp only[ZC,td,Ii];obtain⟨y,z,h⟩:=af h;try refine ZF trivial ?_
 refine aF (sh:=(fun v=>⟨[(0,.lst .o 10 (g.map (aw .o))),(3,.pt 3 0 0),(5,.sl 5 0 d.2.length),(6,.i d.1),(21,.b v)],[(3,.var (.agg [.i a.Id,.i a.Class,.i a.Work.Start,.lst .o 1 (a.Work.Fibers.map AV.i),.i a.WorkBlock.First,.i a.WorkBlock.Count,.i a.Spare.Start,.lst .o 1 (a.Spare.Fibers.map AV.i),.i a.SpareBlock.First,.i a.SpareBlock.Count])),(5,.arr 10 (d.2.map (aw .u)))]⟩)) (s:=y) ?_ ?_
 ·replace h:=z;obtain⟨k,h⟩|⟨k,h⟩:=aq h
  ·obtain⟨j1,a1,h⟩:=af h;cases h;exact ZL (ZA k (aV a1)) trivial
  ·cases h;exact ZL k trivial
 ·simp only[ZC,RJ];obtain⟨l,h⟩|⟨l,h⟩:=aq h
  ·obtain⟨k1,b1,h⟩:=af h;obtain⟨c,c1,h⟩:=af h;have f:=ZA l (aV b1);refine ZF f ?_;refine ZUG f (UH _ c1) ?_;obtain⟨m,j,h⟩:=aU h;have d1:Row.arr 10 [(.agg [.i c.Id,.i c.Class,.i c.Work.Start,.lst .u 1 (c.Work.Fibers.map AV.i),.i c.WorkBlock.First,.i c.WorkBlock.Count,.i c.Spare.Start,.lst .u 1 (c.Spare.Fibers.map AV.i),.i c.SpareBlock.First,.i c.SpareBlock.Count]:AV)]=Row.arr 10 (m.map (aw .u)):=by rw[<-j];rfl
   have q:m.length=1:=by rw[<-j];rfl
   obtain⟨l1,g1,h⟩:=af h;have t:=aW g1;obtain⟨w,p,h⟩:=aU h;have i1:d.2.map (aw .u)++m.map (aw .u)=w.map (aw .u):=by rw[<-p,List.map_append]
   have x:d.2.length+1=w.length:=by simp[<-j,<-p]<;>omega
   rw[x] at t;cases h;exact ZL (ZA f (ZA d1 (ZA q (ZA t (ZA i1 x))))) (ZA e (ZA j.symm (ZA p.symm q)))
  ·cases h;exact ZL l e
def HG(a:List aj)(v:Int×List aj):St:=⟨[(0,.lst .o 10 (a.map (aw .o))),(5,.sl 5 0 v.2.length),(6,.i v.1)],[(5,.arr 10 (v.2.map (aw .u)))]⟩
def zd(v:List aj):St:=⟨[(5,.sl 5 0 v.length)],[(5,.arr 10 (v.map (aw .u)))]⟩
theorem w_at(d:List aj)(b:Int×List aj)(o:(Int×List aj)⊕(List aj))(h:GD d b=some o):AWP (OkS Tryz.prog) Hc (qL [0,5,6] [5] (HG d) (qX 2 [5] [5] (zd)) o) (HG d b):=by
 have e:=ZA @HG.eq_1 @zd.eq_1;unfold GD at h;simp only[ZC,HG,Hc];obtain⟨g,h⟩|⟨g,h⟩:=aq h
 ·obtain⟨y,s,h⟩:=af h;obtain⟨a,t,h⟩:=af h;have f:=ZA g (aV s);refine ZF f ?_;refine ZUG f (UH _ t) ?_;obtain⟨j,c,h⟩:=aU h;have v:Row.arr 10 [(.agg [.i a.Id,.i a.Class,.i a.Work.Start,.lst .u 1 (a.Work.Fibers.map AV.i),.i a.WorkBlock.First,.i a.WorkBlock.Count,.i a.Spare.Start,.lst .u 1 (a.Spare.Fibers.map AV.i),.i a.SpareBlock.First,.i a.SpareBlock.Count]:AV)]=Row.arr 10 (j.map (aw .u)):=by rw[<-c];rfl
  have l:j.length=1:=by rw[<-c];rfl
  obtain⟨z,w,h⟩:=af h;have m:=aW w;obtain⟨p,k,h⟩:=aU h;have x:b.2.map (aw .u)++j.map (aw .u)=p.map (aw .u):=by rw[<-k,List.map_append]
  have q:b.2.length+1=p.length:=by simp[<-c,<-k]<;>omega
  rw[q] at m;cases h;exact ZL (ZA f (ZA v (ZA l (ZA m (ZA x q))))) (ZA e (ZA c.symm (ZA k.symm l)))
 ·cases h;exact ZL g e
theorem w_fk(c:List aj)(a:aj){r:List aj}(h:KT c a=some r):Ok Tryz.prog 93 [.lst .o 10 (c.map (aw .o)),.agg [.i a.Id,.i a.Class,.i a.Work.Start,.lst .o 1 (a.Work.Fibers.map AV.i),.i a.WorkBlock.First,.i a.WorkBlock.Count,.i a.Spare.Start,.lst .o 1 (a.Spare.Fibers.map AV.i),.i a.SpareBlock.First,.i a.SpareBlock.Count]] (.lst .u 10 (r.map (aw .u))):=by
 refine aB be m93 rfl ?_;unfold KT at h;simp only[ZC,A93,aC,aL];obtain⟨l,s,h⟩:=af h;try refine ZF trivial ?_
 refine aF (bi (aI (w_ba c a) s ?_)) ?_
 ·exact ZK (ZA @td.eq_1 @td.eq_1)
 ·simp only[ZC,td,Rr];obtain⟨b,t,h⟩:=af h;refine ZF trivial ?_;refine ZUG trivial (UH _ t) ?_;obtain⟨g,d,h⟩:=aU h;have v:Row.arr 10 [(.agg [.i b.Id,.i b.Class,.i b.Work.Start,.lst .u 1 (b.Work.Fibers.map AV.i),.i b.WorkBlock.First,.i b.WorkBlock.Count,.i b.Spare.Start,.lst .u 1 (b.Spare.Fibers.map AV.i),.i b.SpareBlock.First,.i b.SpareBlock.Count]:AV)]=Row.arr 10 (g.map (aw .u)):=by rw[<-d];rfl
  have j:g.length=1:=by rw[<-d];rfl
  obtain⟨z,w,h⟩:=af h;have m:=aW w;obtain⟨p,k,h⟩:=aU h;have x:l.2.map (aw .u)++g.map (aw .u)=p.map (aw .u):=by rw[<-k,List.map_append]
  have q:l.2.length+1=p.length:=by simp[<-d,<-k]<;>omega
  rw[q] at m;obtain⟨a1,y,h⟩:=af h;have f:=ZA v (ZA j (ZA m (ZA x q)));try refine ZF f ?_
  refine aF (bi (aI (w_at c) y ?_)) ?_
  ·exact ZK (ZA @HG.eq_1 (ZA @zd.eq_1 (ZA d.symm (ZA k.symm j))))
  ·simp only[ZC,zd,RC];cases h;exact ZL f (ZA @aC.eq_1 j)
theorem w_ev(j:ae)(d:ax){r:aK×ax}(h:Gs j d=some r):OkM Tryz.prog 84 [.pt 1000000000 0 0,.agg [.lst .m 1 (((j).Nodes).map AV.z),.lst .m 4 (((j).Fibers).map (ai .m))]] [(1000000000,.var (.agg [.lst .o 1 (((d).code).map AV.u8),.i ((d).atF),.sc (.int .u64 ((d).seed))]))] (.agg [.i ((r.1).From),.i ((r.1).To),.i ((r.1).Rate),.i ((r.1).Class)]) ([(1000000000,.var (.agg [.lst .o 1 (((r.2).code).map AV.u8),.i ((r.2).atF),.sc (.int .u64 ((r.2).seed))]))]):=by
 have e:=@rF.eq_1;refine aZ (lr:=[1000000000]) be VV rfl rfl ?_;unfold Gs at h;simp only[ZC,Sm,rF];obtain⟨m1,w,h⟩:=af h;refine ZF trivial ?_;refine ZWG trivial (w_a _ _ w) [1000000000] [] ?_;obtain⟨p1,x,h⟩:=af h;refine ZF trivial ?_;refine ZWG trivial (w_a _ _ x) [1000000000] [] ?_;obtain⟨q1,y,h⟩:=af h;obtain⟨q,a,h⟩:=aU h;have a1:Row.arr 1 [(.i 10:AV),(.i 20:AV),(.i 40:AV),(.i 50:AV),(.i 90:AV),(.i 120:AV)]=Row.arr 1 (q.map AV.i):=by rw[<-a];rfl
 have b:q.length=6:=by rw[<-a];rfl
 obtain⟨s1,b1,h⟩:=af h;have f:=ZA (aW y) (ZA a1 b);refine ZF f ?_;refine ZWG f (w_e _ _ b1) [1000000000,1000000001] [] ?_;obtain⟨t1,c1,h⟩:=af h;refine ZF f ?_;refine ZWG f (w_a _ _ c1) [1000000000] [] ?_;obtain⟨u1,d1,h⟩:=af h;refine ZF f ?_;refine ZWG f (w_a _ _ d1) [1000000000] [] ?_;obtain⟨c,h⟩|⟨c,h⟩:=aq h
 ·obtain⟨v1,g1,h⟩:=af h;have f:=ZA f c;refine ZF f ?_;refine ZWG f (w_a _ _ g1) [1000000000] [] ?_;cases h;exact ZL f (ZA e (ZA a.symm b))
 ·obtain⟨g,h⟩|⟨g,h⟩:=aq h
  ·obtain⟨s,k,h⟩:=aU h;have i1:Row.arr 1 [(.i 0:AV),(.i 1:AV),(.i 1000:AV),(.i 1001:AV)]=Row.arr 1 (s.map AV.i):=by rw[<-k];rfl
   have t:s.length=4:=by rw[<-k];rfl
   obtain⟨w1,j1,h⟩:=af h;have f:=ZA f (ZA c (ZA g (ZA i1 t)));refine ZF f ?_;refine ZWG f (w_e _ _ j1) [1000000000,1000000001] [] ?_;cases h;exact ZL f (ZA e (ZA a.symm (ZA k.symm (ZA b t))))
  ·obtain⟨l,h⟩|⟨l,h⟩:=aq h
   ·obtain⟨u,p,h⟩:=aU h;have k1:Row.arr 1 [(.i (-1):AV),(.i 3:AV)]=Row.arr 1 (u.map AV.i):=by rw[<-p];rfl
    have v:u.length=2:=by rw[<-p];rfl
    obtain⟨y1,l1,h⟩:=af h;have f:=ZA f (ZA c (ZA g (ZA l (ZA k1 v))));refine ZF f ?_;refine ZWG f (w_e _ _ l1) [1000000000,1000000001] [] ?_;cases h;exact ZL f (ZA e (ZA a.symm (ZA p.symm (ZA b v))))
   ·cases h;exact ZL (ZA f (ZA c (ZA g l))) (ZA e (ZA a.symm b))
theorem w_fl(d:ae)(k:Nat)(l:Nat)(a:aK)(p:List az){r:ah×Int×Bool×List az}(h:Gl d k l a p=some r):OkM Tryz.prog 89 [.agg [.lst .m 1 (((d).Nodes).map AV.z),.lst .m 4 (((d).Fibers).map (ai .m))],.sl 1000000000 k l,.agg [.i ((a).From),.i ((a).To),.i ((a).Rate),.i ((a).Class)]] [(1000000000,.arr 2 (p.map (au .u)))] (.tup [.agg [.i ((r.1).Start),.lst .m 1 (((r.1).Fibers).map AV.i)],.i r.2.1,.b r.2.2.1]) ([(1000000000,.arr 2 (r.2.2.2.map (au .u)))]):=by
 refine aZ (lr:=[1000000000]) be VP rfl rfl ?_;unfold Gl at h;simp only[ZC,Sl,AC];obtain⟨c,q,h⟩:=af h;refine ZF trivial ?_;refine ZWG trivial (w_cp _ _ _ _ _ q) [6,7,1000000000] [1800006,1800007] ?_;obtain⟨t,w,h⟩:=af h;refine ZF trivial ?_;refine ZSG trivial (w_fi _ _ w) ?_;obtain⟨x,y,h⟩:=af h;try refine ZF trivial ?_
 refine aF (sh:=(fun v=>⟨[(6,.pt 6 0 0),(9,.sl 9 0 c.2.1.length),(10,.sl 10 0 c.2.2.1.length),(12,.i t),(29,.b v)],[(6,.var (.agg [.i 0,.lst .u 1 []])),(9,.arr 2 (c.2.1.map (ay .m))),(10,.arr 1 (c.2.2.1.map AV.i)),(1000000000,.arr 2 (c.2.2.2.map (au .u)))]⟩)) (s:=x) ?_ ?_
 ·replace h:=y;obtain⟨g,h⟩|⟨g,h⟩:=aq h
  ·cases h;exact ZL g trivial
  ·cases h;exact ZL g trivial
 ·simp only[ZC,Aq];obtain⟨j,h⟩|⟨j,h⟩:=aq h
  ·cases h;exact ZL j @AC.eq_1
  ·obtain⟨g1,a1,h⟩:=af h;obtain⟨i1,b1,h⟩:=af h;obtain⟨j1,c1,h⟩:=af h;obtain⟨k1,d1,h⟩:=af h;cases h;exact ZL (ZA j (ZA (aW a1) (ZA b1 (ZA (aW c1) d1)))) @AC.eq_1
def FF(b:ae)(c:Nat)(d:Nat)(a:aj)(g:Int)(j:Int)(k:List aj)(v:Int×aj):St:=⟨[(1,.sl 1000000000 c d),(3,.i g),(4,.i j),(5,.pt 5 0 0),(7,.pt 7 0 0),(10,.pt 10 0 0),(12,.pt 12 0 0),(13,.i v.1)],[(5,.var (.agg [.lst .m 1 (((b).Nodes).map AV.z),.lst .m 4 (((b).Fibers).map (ai .m))])),(7,.var (.agg [.i ((a).Id),.i ((a).Class),.i (((a).Work).Start),.lst .m 1 ((((a).Work).Fibers).map AV.i),.i (((a).WorkBlock).First),.i (((a).WorkBlock).Count),.i (((a).Spare).Start),.lst .m 1 ((((a).Spare).Fibers).map AV.i),.i (((a).SpareBlock).First),.i (((a).SpareBlock).Count)])),(10,.var (.agg [.i 0,.i 0,.i 0,.lst .u 1 [],.i 0,.i 0,.i 0,.lst .u 1 [],.i 0,.i 0])),(12,.var (.agg [.i ((v.2).Id),.i ((v.2).Class),.i (((v.2).Work).Start),.lst .m 1 ((((v.2).Work).Fibers).map AV.i),.i (((v.2).WorkBlock).First),.i (((v.2).WorkBlock).Count),.i (((v.2).Spare).Start),.lst .u 1 ((((v.2).Spare).Fibers).map AV.i),.i (((v.2).SpareBlock).First),.i (((v.2).SpareBlock).Count)])),(1000000000,.arr 10 (k.map (aw .u)))]⟩
def AE(b:ae)(c:Nat)(d:Nat)(a:aj)(g:Int)(j:List aj)(v:aj):St:=⟨[(1,.sl 1000000000 c d),(4,.i g),(5,.pt 5 0 0),(7,.pt 7 0 0),(10,.pt 10 0 0),(12,.pt 12 0 0)],[(5,.var (.agg [.lst .m 1 (((b).Nodes).map AV.z),.lst .m 4 (((b).Fibers).map (ai .m))])),(7,.var (.agg [.i ((a).Id),.i ((a).Class),.i (((a).Work).Start),.lst .m 1 ((((a).Work).Fibers).map AV.i),.i (((a).WorkBlock).First),.i (((a).WorkBlock).Count),.i (((a).Spare).Start),.lst .m 1 ((((a).Spare).Fibers).map AV.i),.i (((a).SpareBlock).First),.i (((a).SpareBlock).Count)])),(10,.var (.agg [.i 0,.i 0,.i 0,.lst .u 1 [],.i 0,.i 0,.i 0,.lst .u 1 [],.i 0,.i 0])),(12,.var (.agg [.i ((v).Id),.i ((v).Class),.i (((v).Work).Start),.lst .m 1 ((((v).Work).Fibers).map AV.i),.i (((v).WorkBlock).First),.i (((v).WorkBlock).Count),.i (((v).Spare).Start),.lst .u 1 ((((v).Spare).Fibers).map AV.i),.i (((v).SpareBlock).First),.i (((v).SpareBlock).Count)])),(1000000000,.arr 10 (j.map (aw .u)))]⟩
theorem w_au(g:ae)(a:Nat)(c:Nat)(j:aj)(k:Int)(l:Int)(d:List aj)(s:Int×aj)(o:(Int×aj)⊕(aj⊕(aj×Bool×List aj)))(h:KU g a c j k d s=some o):AWP (OkS Tryz.prog) sv (qL [1,3,4,5,7,10,12,13] [5,7,10,12,1000000000] (FF g a c j k l d) (qS (qX 0 [1,4,5,7,10,12] [5,7,10,12,1000000000] (AE g a c j l d)) (qM nh [1000000000] (fun(r:aj×Bool×List aj)=>.tup [.agg [.i ((r.1).Id),.i ((r.1).Class),.i (((r.1).Work).Start),.lst .m 1 ((((r.1).Work).Fibers).map AV.i),.i (((r.1).WorkBlock).First),.i (((r.1).WorkBlock).Count),.i (((r.1).Spare).Start),.lst .m 1 ((((r.1).Spare).Fibers).map AV.i),.i (((r.1).SpareBlock).First),.i (((r.1).SpareBlock).Count)],.b r.2.1]) (fun(r:aj×Bool×List aj)=>[(1000000000,.arr 10 (r.2.2.map (aw .u)))]))) o) (FF g a c j k l d s):=by
 have e:=ZA @FF.eq_1 @AE.eq_1;unfold KU at h;simp only[ZC,FF,sv];obtain⟨p,h⟩|⟨p,h⟩:=aq h
 ·cases h;exact ZL p @nh.eq_1
 ·obtain⟨t,v,h⟩:=aU h;have w:sub (d.map (aw .u)) a c=t.map (aw .u):=by rw[bQ,v]
  obtain⟨y,x,h⟩:=af h;have f:=ZA p w;refine ZF f ?_;refine ZSG f (w_dw _ _ _ x) ?_;obtain⟨q,h⟩|⟨q,h⟩:=aq h
  ·cases h;exact ZL (ZA f q) e
  ·cases h;exact ZL (ZA f q) e
def EQ(a:ae)(b:Nat)(c:Nat)(d:Int)(g:List aj)(v:Int×aj):St:=⟨[(1,.sl 1000000000 b c),(4,.i d),(5,.pt 5 0 0),(7,.pt 7 0 0),(10,.pt 10 0 0),(14,.i v.1)],[(5,.var (.agg [.lst .m 1 (((a).Nodes).map AV.z),.lst .m 4 (((a).Fibers).map (ai .m))])),(7,.var (.agg [.i ((v.2).Id),.i ((v.2).Class),.i (((v.2).Work).Start),.lst .m 1 ((((v.2).Work).Fibers).map AV.i),.i (((v.2).WorkBlock).First),.i (((v.2).WorkBlock).Count),.i (((v.2).Spare).Start),.lst .m 1 ((((v.2).Spare).Fibers).map AV.i),.i (((v.2).SpareBlock).First),.i (((v.2).SpareBlock).Count)])),(10,.var (.agg [.i 0,.i 0,.i 0,.lst .u 1 [],.i 0,.i 0,.i 0,.lst .u 1 [],.i 0,.i 0])),(1000000000,.arr 10 (g.map (aw .u)))]⟩
def zH(a:List aj)(v:aj):St:=⟨[(7,.pt 7 0 0),(10,.pt 10 0 0)],[(7,.var (.agg [.i ((v).Id),.i ((v).Class),.i (((v).Work).Start),.lst .m 1 ((((v).Work).Fibers).map AV.i),.i (((v).WorkBlock).First),.i (((v).WorkBlock).Count),.i (((v).Spare).Start),.lst .m 1 ((((v).Spare).Fibers).map AV.i),.i (((v).SpareBlock).First),.i (((v).SpareBlock).Count)])),(10,.var (.agg [.i 0,.i 0,.i 0,.lst .u 1 [],.i 0,.i 0,.i 0,.lst .u 1 [],.i 0,.i 0])),(1000000000,.arr 10 (a.map (aw .u)))]⟩
theorem w_av(g:ae)(c:Nat)(d:Nat)(j:Int)(a:List aj)(p:Int×aj)(o:(Int×aj)⊕(aj⊕(aj×Bool×List aj)))(h:Gm g c d j a p=some o):AWP (OkS Tryz.prog) tH (qL [1,4,5,7,10,14] [5,7,10,1000000000] (EQ g c d j a) (qS (qX 2 [7,10] [7,10,1000000000] (zH a)) (qM nh [1000000000] (fun(r:aj×Bool×List aj)=>.tup [.agg [.i ((r.1).Id),.i ((r.1).Class),.i (((r.1).Work).Start),.lst .m 1 ((((r.1).Work).Fibers).map AV.i),.i (((r.1).WorkBlock).First),.i (((r.1).WorkBlock).Count),.i (((r.1).Spare).Start),.lst .m 1 ((((r.1).Spare).Fibers).map AV.i),.i (((r.1).SpareBlock).First),.i (((r.1).SpareBlock).Count)],.b r.2.1]) (fun(r:aj×Bool×List aj)=>[(1000000000,.arr 10 (r.2.2.map (aw .u)))]))) o) (EQ g c d j a p):=by
 have e:=ZA @EQ.eq_1 @zH.eq_1;unfold Gm at h;simp only[ZC,EQ,tH];obtain⟨k,h⟩|⟨k,h⟩:=aq h
 ·obtain⟨q,s,h⟩:=aU h;have t:sub (a.map (aw .u)) c d=q.map (aw .u):=by rw[bQ,s]
  obtain⟨w,v,h⟩:=af h;have f:=ZA k t;refine ZF f ?_;refine ZSG f (w_dw _ _ _ v) ?_;obtain⟨l,h⟩|⟨l,h⟩:=aq h
  ·cases h;exact ZL (ZA f l) @nh.eq_1
  ·cases h;exact ZL (ZA f l) e
 ·cases h;exact ZL k e
theorem w_fm(c:ae)(d:Nat)(g:Nat)(a:aj)(p:Int)(j:Int)(k:List aj){r:aj×Bool×List aj}(h:GT c d g a p j k=some r):OkM Tryz.prog 92 [.agg [.lst .m 1 (((c).Nodes).map AV.z),.lst .m 4 (((c).Fibers).map (ai .m))],.sl 1000000000 d g,.agg [.i ((a).Id),.i ((a).Class),.i (((a).Work).Start),.lst .m 1 ((((a).Work).Fibers).map AV.i),.i (((a).WorkBlock).First),.i (((a).WorkBlock).Count),.i (((a).Spare).Start),.lst .m 1 ((((a).Spare).Fibers).map AV.i),.i (((a).SpareBlock).First),.i (((a).SpareBlock).Count)],.i p,.i j] [(1000000000,.arr 10 (k.map (aw .u)))] (.tup [.agg [.i ((r.1).Id),.i ((r.1).Class),.i (((r.1).Work).Start),.lst .m 1 ((((r.1).Work).Fibers).map AV.i),.i (((r.1).WorkBlock).First),.i (((r.1).WorkBlock).Count),.i (((r.1).Spare).Start),.lst .m 1 ((((r.1).Spare).Fibers).map AV.i),.i (((r.1).SpareBlock).First),.i (((r.1).SpareBlock).Count)],.b r.2.1]) ([(1000000000,.arr 10 (r.2.2.map (aw .u)))]):=by
 refine aZ (lr:=[1000000000]) be VK rfl rfl ?_;unfold GT at h;simp only[ZC,RU,nh];obtain⟨q,s,h⟩:=af h;try refine ZF trivial ?_
 refine bq (o:=q) (bA vN (aI (w_au c d g a p j k) s ?_)) (fun y hv=>?_) (fun a1 hv e τ hne hq=>?_)
 ·exact ZK (ZA @FF.eq_1 @AE.eq_1)
 ·subst hv;simp only[] at h;simp only[ZC,AE,zx];obtain⟨l,h⟩|⟨l,h⟩:=aq h
  ·cases h;exact ZL l @nh.eq_1
  ·obtain⟨t,v,h⟩:=af h;try refine ZF l ?_
   refine bq (o:=t) (bA vN (aI (w_av c d g j k) v ?_)) (fun b1 hv=>?_) (fun c1 hv e τ hne hq=>?_)
   ·exact ZK (ZA @EQ.eq_1 @zH.eq_1)
   ·subst hv;simp only[] at h;simp only[ZC,zH,Av];cases h;exact ZL l @nh.eq_1
   ·subst hv;simp only[] at h;obtain⟨rfl,w⟩:=hq;cases h;exact w
 ·subst hv;simp only[] at h;obtain⟨rfl,x⟩:=hq;cases h;exact x
def Mf(b:ae)(c:Nat)(d:Nat)(g:Nat)(j:Nat)(a:aK)(k:List az)(l:List aj)(v:Int×aj):St:=⟨[(1,.sl 1000000000 c d),(2,.sl 1000000001 g j),(4,.pt 4 0 0),(7,.pt 7 0 0),(11,.sl 11 0 0),(12,.pt 12 0 0),(13,.i v.1)],[(4,.var (.agg [.lst .m 1 (((b).Nodes).map AV.z),.lst .m 4 (((b).Fibers).map (ai .m))])),(7,.var (.agg [.i ((a).From),.i ((a).To),.i ((a).Rate),.i ((a).Class)])),(11,.arr 10 []),(12,.var (.agg [.i ((v.2).Id),.i ((v.2).Class),.i (((v.2).Work).Start),.lst .m 1 ((((v.2).Work).Fibers).map AV.i),.i (((v.2).WorkBlock).First),.i (((v.2).WorkBlock).Count),.i (((v.2).Spare).Start),.lst .m 1 ((((v.2).Spare).Fibers).map AV.i),.i (((v.2).SpareBlock).First),.i (((v.2).SpareBlock).Count)])),(1000000000,.arr 2 (k.map (au .u))),(1000000001,.arr 10 (l.map (aw .u)))]⟩
def zZ(b:ae)(c:Nat)(d:Nat)(g:Nat)(j:Nat)(a:aK)(k:List az)(l:List aj)(v:aj):St:=⟨[(1,.sl 1000000000 c d),(2,.sl 1000000001 g j),(4,.pt 4 0 0),(7,.pt 7 0 0),(11,.sl 11 0 0),(12,.pt 12 0 0)],[(4,.var (.agg [.lst .m 1 (((b).Nodes).map AV.z),.lst .m 4 (((b).Fibers).map (ai .m))])),(7,.var (.agg [.i ((a).From),.i ((a).To),.i ((a).Rate),.i ((a).Class)])),(11,.arr 10 []),(12,.var (.agg [.i ((v).Id),.i ((v).Class),.i (((v).Work).Start),.lst .m 1 ((((v).Work).Fibers).map AV.i),.i (((v).WorkBlock).First),.i (((v).WorkBlock).Count),.i (((v).Spare).Start),.lst .m 1 ((((v).Spare).Fibers).map AV.i),.i (((v).SpareBlock).First),.i (((v).SpareBlock).Count)])),(1000000000,.arr 2 (k.map (au .u))),(1000000001,.arr 10 (l.map (aw .u)))]⟩
theorem w_aw(d:ae)(l:Nat)(p:Nat)(g:Nat)(j:Nat)(c:aK)(q:List az)(k:List aj)(a:Int×aj)(o:(Int×aj)⊕aj)(h:LP g j k a=some o):AWP (OkS Tryz.prog) tF (qL [1,2,4,7,11,12,13] [4,7,11,12,1000000000,1000000001] (Mf d l p g j c q k) (qX 0 [1,2,4,7,11,12] [4,7,11,12,1000000000,1000000001] (zZ d l p g j c q k)) o) (Mf d l p g j c q k a):=by
 have e:=ZA @Mf.eq_1 @zZ.eq_1;unfold LP at h;simp only[ZC,Mf,tF];obtain⟨x,y,h⟩:=af h;try refine ZF trivial ?_
 refine aF (sh:=(fun v=>⟨[(1,.sl 1000000000 l p),(2,.sl 1000000001 g j),(4,.pt 4 0 0),(7,.pt 7 0 0),(11,.sl 11 0 0),(12,.pt 12 0 0),(13,.i a.1),(50,.b v)],[(4,.var (.agg [.lst .m 1 (((d).Nodes).map AV.z),.lst .m 4 (((d).Fibers).map (ai .m))])),(7,.var (.agg [.i ((c).From),.i ((c).To),.i ((c).Rate),.i ((c).Class)])),(11,.arr 10 []),(12,.var (.agg [.i ((a.2).Id),.i ((a.2).Class),.i (((a.2).Work).Start),.lst .m 1 ((((a.2).Work).Fibers).map AV.i),.i (((a.2).WorkBlock).First),.i (((a.2).WorkBlock).Count),.i (((a.2).Spare).Start),.lst .m 1 ((((a.2).Spare).Fibers).map AV.i),.i (((a.2).SpareBlock).First),.i (((a.2).SpareBlock).Count)])),(1000000000,.arr 2 (q.map (au .u))),(1000000001,.arr 10 (k.map (aw .u)))]⟩)) (s:=x) ?_ ?_
 ·replace h:=y;obtain⟨t,h⟩|⟨t,h⟩:=aq h
  ·obtain⟨c1,a1,h⟩:=af h;obtain⟨d1,b1,h⟩:=af h;cases h;exact ZL (ZA t (ZA (aW a1) b1)) trivial
  ·cases h;exact ZL t trivial
 ·simp only[ZC,AH];obtain⟨w,h⟩|⟨w,h⟩:=aq h
  ·cases h;exact ZL w e
  ·cases h;exact ZL w e
theorem w_fn(d:ae)(j:Nat)(k:Nat)(l:Nat)(p:Nat)(a:aK)(t:List az)(q:List aj){r:Int×Bool×List aj×List az×List aj}(h:KW d j k l p a t q=some r):OkM Tryz.prog 23 [.agg [.lst .m 1 (((d).Nodes).map AV.z),.lst .m 4 (((d).Fibers).map (ai .m))],.sl 1000000000 j k,.sl 1000000001 l p,.agg [.i ((a).From),.i ((a).To),.i ((a).Rate),.i ((a).Class)]] [(1000000000,.arr 2 (t.map (au .u))),(1000000001,.arr 10 (q.map (aw .u)))] (.tup [.sl 8 0 r.2.2.1.length,.i r.1,.b r.2.1]) ([(8,.arr 10 (r.2.2.1.map (aw .u))),(1000000000,.arr 2 (r.2.2.2.1.map (au .u))),(1000000001,.arr 10 (r.2.2.2.2.map (aw .u)))]):=by
 have e:=@Jq.eq_1;refine aZ (lr:=[8,1000000000,1000000001]) be VE rfl rfl ?_;unfold KW at h;simp only[ZC,RX,Jq];obtain⟨d1,g1,h⟩:=af h;try refine ZF trivial ?_
 refine aF (sh:=(fun v=>⟨[(1,.sl 1000000000 j k),(2,.sl 1000000001 l p),(4,.pt 4 0 0),(7,.pt 7 0 0),(11,.sl 11 0 0),(32,.b v)],[(4,.var (.agg [.lst .m 1 (((d).Nodes).map AV.z),.lst .m 4 (((d).Fibers).map (ai .m))])),(7,.var (.agg [.i ((a).From),.i ((a).To),.i ((a).Rate),.i ((a).Class)])),(11,.arr 10 []),(1000000000,.arr 2 (t.map (au .u))),(1000000001,.arr 10 (q.map (aw .u)))]⟩)) (s:=d1) ?_ ?_
 ·replace h:=g1;obtain⟨i1,j1,h⟩:=aU h;have w:sub (q.map (aw .u)) l p=i1.map (aw .u):=by rw[bQ,j1]
  obtain⟨q2,k1,h⟩:=af h;refine ZF w ?_;refine ZSG w (w_fh _ _ k1) ?_;obtain⟨x,h⟩|⟨x,h⟩:=aq h
  ·cases h;exact ZL (ZA w x) trivial
  ·cases h;exact ZL (ZA w x) trivial
 ·simp only[ZC,za];obtain⟨g,h⟩|⟨g,h⟩:=aq h
  ·cases h;exact ZL g e
  ·obtain⟨s2,l1,h⟩:=af h;try refine ZF g ?_
   refine aF (bi (aI (w_aw d j k l p a t q) l1 ?_)) ?_
   ·exact ZK (ZA @Mf.eq_1 @zZ.eq_1)
   ·simp only[ZC,zZ,Aw];obtain⟨t2,m1,h⟩:=af h;refine ZF g ?_;refine ZWG g (w_fl _ _ _ _ _ m1) [1000000000] [] ?_;obtain⟨c,p1,h⟩:=af h;try refine ZF g ?_
    refine aF (sh:=(fun v=>⟨[(1,.sl 1000000000 j k),(2,.sl 1000000001 l p),(4,.pt 4 0 0),(7,.pt 7 0 0),(11,.sl 11 0 0),(12,.pt 12 0 0),(14,.pt 14 0 0),(16,.b v.1),(17,.i 0)],[(4,.var (.agg [.lst .m 1 (((d).Nodes).map AV.z),.lst .m 4 (((d).Fibers).map (ai .m))])),(7,.var (.agg [.i ((a).From),.i ((a).To),.i ((a).Rate),.i ((a).Class)])),(11,.arr 10 []),(12,.var (.agg [.i ((v.2.1).Id),.i ((v.2.1).Class),.i (((v.2.1).Work).Start),.lst .m 1 ((((v.2.1).Work).Fibers).map AV.i),.i (((v.2.1).WorkBlock).First),.i (((v.2.1).WorkBlock).Count),.i (((v.2.1).Spare).Start),.lst .m 1 ((((v.2.1).Spare).Fibers).map AV.i),.i (((v.2.1).SpareBlock).First),.i (((v.2.1).SpareBlock).Count)])),(14,.var (.agg [.i ((v.2.2.1).Start),.lst .m 1 (((v.2.2.1).Fibers).map AV.i)])),(1000000000,.arr 2 (v.2.2.2.map (au .u))),(1000000001,.arr 10 (q.map (aw .u)))]⟩)) (s:=c) ?_ ?_
    ·replace h:=p1;obtain⟨y,h⟩|⟨y,h⟩:=aq h
     ·obtain⟨u2,q1,h⟩:=af h;have f:=ZA g y;refine ZF f ?_;refine ZWG f (w_co _ _ _ _ _ q1) [1000000000] [] ?_;cases h;exact ZL f trivial
     ·cases h;exact ZL (ZA g y) trivial
    ·simp only[ZC,zL];obtain⟨a1,h⟩|⟨a1,h⟩:=aq h
     ·cases h;exact ZL (ZA g a1) e
     ·obtain⟨s1,t1,h⟩:=af h;have f:=ZA g a1;try refine ZF f ?_
      refine aF (sh:=(fun v=>⟨[(1,.sl 1000000000 j k),(2,.sl 1000000001 l p),(4,.pt 4 0 0),(7,.pt 7 0 0),(11,.sl 11 0 0),(12,.pt 12 0 0),(14,.pt 14 0 0),(17,.i v)],[(4,.var (.agg [.lst .m 1 (((d).Nodes).map AV.z),.lst .m 4 (((d).Fibers).map (ai .m))])),(7,.var (.agg [.i ((a).From),.i ((a).To),.i ((a).Rate),.i ((a).Class)])),(11,.arr 10 []),(12,.var (.agg [.i ((c.2.1).Id),.i ((c.2.1).Class),.i (((c.2.1).Work).Start),.lst .m 1 ((((c.2.1).Work).Fibers).map AV.i),.i (((c.2.1).WorkBlock).First),.i (((c.2.1).WorkBlock).Count),.i (((c.2.1).Spare).Start),.lst .m 1 ((((c.2.1).Spare).Fibers).map AV.i),.i (((c.2.1).SpareBlock).First),.i (((c.2.1).SpareBlock).Count)])),(14,.var (.agg [.i ((c.2.2.1).Start),.lst .m 1 (((c.2.2.1).Fibers).map AV.i)])),(1000000000,.arr 2 (c.2.2.2.map (au .u))),(1000000001,.arr 10 (q.map (aw .u)))]⟩)) (s:=s1) ?_ ?_
      ·replace h:=t1;obtain⟨b1,h⟩|⟨b1,h⟩:=aq h
       ·obtain⟨v2,u1,h⟩:=af h;have f:=ZA f b1;refine ZF f ?_;refine ZSG f (Kk _ _ u1) ?_;obtain⟨v1,w1,h⟩:=aU h;have y1:sub (c.2.2.2.map (au .u)) j k=v1.map (au .u):=by rw[bQ,w1]
        obtain⟨w2,z1,h⟩:=af h;have f:=ZA f y1;refine ZF f ?_;refine ZSG f (UD _ _ _ z1) ?_;cases h;exact ZL f trivial
       ·cases h;exact ZL (ZA f b1) trivial
      ·simp only[ZC,zF];obtain⟨x2,a2,h⟩:=af h;refine ZF f ?_;refine ZSG f (Kk _ _ a2) ?_;obtain⟨b2,c2,h⟩:=aU h;have d2:sub (c.2.2.2.map (au .u)) j k=b2.map (au .u):=by rw[bQ,c2]
       obtain⟨y2,g2,h⟩:=af h;have f:=ZA f d2;refine ZF f ?_;refine ZSG f (UD _ _ _ g2) ?_;obtain⟨i2,j2,h⟩:=af h;refine ZF f ?_;refine ZWG f (w_fm _ _ _ _ _ _ _ j2) [1000000000] [] ?_;obtain⟨c1,h⟩|⟨c1,h⟩:=aq h
       ·cases h;exact ZL (ZA f c1) e
       ·obtain⟨k2,l2,h⟩:=aU h;have m2:sub (i2.2.2.map (aw .u)) l p=k2.map (aw .u):=by rw[bQ,l2]
        obtain⟨z2,p2,h⟩:=af h;have f:=ZA f (ZA c1 m2);refine ZF f ?_;refine ZUG f (w_fk _ _ p2) ?_;cases h;exact ZL f e
def JB(a:Nat×Nat×List ByteArray×List aA×ax)(b:List ByteArray)(v:Nat×Nat×Int×List aj×List az×ax):St:=⟨[(0,.pt 1000000000 0 0),(2,.pt 2 0 0),(4,.pt 4 0 0),(5,.sl 5 0 v.1),(6,.sl 6 0 v.2.1),(7,.i v.2.2.1)],[(2,.var (.agg [.lst .u 1 [],.lst .u 4 []])),(4,.var (.agg [.lst .m 1 (b.map AV.z),.lst .m 4 (a.2.2.2.1.map (ai .m))])),(5,.arr 10 (v.2.2.2.1.map (aw .u))),(6,.arr 2 (v.2.2.2.2.1.map (au .u))),(1000000000,.var (.agg [.lst .o 1 (((v.2.2.2.2.2).code).map AV.u8),.i ((v.2.2.2.2.2).atF),.sc (.int .u64 ((v.2.2.2.2.2).seed))]))]⟩
def Ar(a:Nat×Nat×List ByteArray×List aA×ax)(b:List ByteArray)(v:Nat×List aj×ax):St:=⟨[(2,.pt 2 0 0),(4,.pt 4 0 0),(5,.sl 5 0 v.1)],[(2,.var (.agg [.lst .u 1 [],.lst .u 4 []])),(4,.var (.agg [.lst .m 1 (b.map AV.z),.lst .m 4 (a.2.2.2.1.map (ai .m))])),(5,.arr 10 (v.2.1.map (aw .u))),(1000000000,.var (.agg [.lst .o 1 (((v.2.2).code).map AV.u8),.i ((v.2.2).atF),.sc (.int .u64 ((v.2.2).seed))]))]⟩
theorem w_aq(b:Nat×Nat×List ByteArray×List aA×ax)(c:List ByteArray)(g:Nat×Nat×Int×List aj×List az×ax)(o:(Nat×Nat×Int×List aj×List az×ax)⊕(Nat×List aj×ax))(h:JF b c g=some o):AWP (OkS Tryz.prog) oC (qL [0,2,4,5,6,7] [2,4,5,6,1000000000] (JB b c) (qX 0 [2,4,5] [2,4,5,1000000000] (Ar b c)) o) (JB b c g):=by
 have e:=ZA @JB.eq_1 @Ar.eq_1;unfold JF at h;simp only[ZC,JB,oC];obtain⟨a,h⟩|⟨a,h⟩:=aq h
 ·obtain⟨k,i,h⟩:=af h;refine ZF a ?_;refine ZWG a (w_ev _ _ i) [1000000000] [] ?_;obtain⟨l,j,h⟩:=af h;refine ZF a ?_;refine ZWG a (w_fn _ _ _ _ _ _ _ _ j) [8,1000000000,1000000001] [3100008] ?_;obtain⟨d,h⟩|⟨d,h⟩:=aq h
  ·cases h;exact ZL (ZA a d) e
  ·cases h;exact ZL (ZA a d) e
 ·cases h;exact ZL a e
theorem w_ew(a:ax){r:ae×Nat×Nat×List aj×ax}(h:Lh a=some r):OkM Tryz.prog 150 [.pt 1000000000 0 0] [(1000000000,.var (.agg [.lst .o 1 (((a).code).map AV.u8),.i ((a).atF),.sc (.int .u64 ((a).seed))]))] (.tup [.agg [.lst .m 1 (((r.1).Nodes).map AV.z),.lst .m 4 (((r.1).Fibers).map (ai .m))],.sl 3 r.2.1 r.2.2.1]) ([(3,.arr 10 (r.2.2.2.1.map (aw .u))),(1000000000,.var (.agg [.lst .o 1 (((r.2.2.2.2).code).map AV.u8),.i ((r.2.2.2.2).atF),.sc (.int .u64 ((r.2.2.2.2).seed))]))]):=by
 refine aZ (lr:=[3,1000000000]) be SD rfl rfl ?_;unfold Lh at h;simp only[ZC,KS,kT];obtain⟨b,k,h⟩:=af h;refine ZF trivial ?_;refine ZWG trivial (w_eu _ k) [500000128,500000129,1000000000] [501300128,501300129] ?_;obtain⟨g,l,h⟩:=aU h;have p:sub (b.2.2.1.map AV.z) b.1 b.2.1=g.map AV.z:=by rw[bQ,l]
 obtain⟨j,c,h⟩:=aU h;have q:Row.arr 2 [(.agg [.i 3000,.i 10]:AV),(.agg [.i 900,.i 20]:AV)]=Row.arr 2 (j.map (au .u)):=by rw[<-c];rfl
 have d:j.length=2:=by rw[<-c];rfl
 obtain⟨v,s,h⟩:=af h;have f:=ZA p (ZA q d);refine ZF f ?_;refine ZWG f (w_a _ _ s) [1000000000] [] ?_;obtain⟨w,t,h⟩:=af h;try refine ZF f ?_
 refine aF (bi (aI (w_aq b g) t ?_)) ?_
 ·exact ZK (ZA @JB.eq_1 (ZA @Ar.eq_1 (ZA c.symm d)))
 ·simp only[ZC,Ar,wm];cases h;exact ZL f (ZA @kT.eq_1 d)
def JU(b:ae)(c:Int×ax)(a:Int×List Int×List Int×ax)(v:Int×List Int):St:=⟨[(0,.pt 1000000000 0 0),(3,.pt 3 0 0),(4,.pt 4 0 0),(6,.pt 6 0 0),(7,.sl 7 0 a.2.1.length),(8,.i a.1),(9,.sl 9 0 v.2.length),(10,.i v.1)],[(3,.var (.agg [.lst .m 1 (((b).Nodes).map AV.z),.lst .m 4 (((b).Fibers).map (ai .m))])),(4,.var (.agg [.i 0,.lst .u 1 []])),(6,.var (.agg [.i c.1,.sl 500000385 0 a.2.2.1.length])),(7,.arr 1 (a.2.1.map AV.i)),(9,.arr 1 (v.2.map AV.i)),(500000385,.arr 1 (a.2.2.1.map AV.i)),(1000000000,.var (.agg [.lst .o 1 (((a.2.2.2).code).map AV.u8),.i ((a.2.2.2).atF),.sc (.int .u64 ((a.2.2.2).seed))]))]⟩
def zM(b:ae)(c:Int×ax)(a:Int×List Int×List Int×ax)(v:List Int):St:=⟨[(0,.pt 1000000000 0 0),(3,.pt 3 0 0),(4,.pt 4 0 0),(6,.pt 6 0 0),(7,.sl 7 0 a.2.1.length),(8,.i a.1),(9,.sl 9 0 v.length)],[(3,.var (.agg [.lst .m 1 (((b).Nodes).map AV.z),.lst .m 4 (((b).Fibers).map (ai .m))])),(4,.var (.agg [.i 0,.lst .u 1 []])),(6,.var (.agg [.i c.1,.sl 500000385 0 a.2.2.1.length])),(7,.arr 1 (a.2.1.map AV.i)),(9,.arr 1 (v.map AV.i)),(500000385,.arr 1 (a.2.2.1.map AV.i)),(1000000000,.var (.agg [.lst .o 1 (((a.2.2.2).code).map AV.u8),.i ((a.2.2.2).atF),.sc (.int .u64 ((a.2.2.2).seed))]))]⟩
theorem w_ah(d:ae)(g:Int×ax)(a:Int×List Int×List Int×ax)(c:Int×List Int)(o:(Int×List Int)⊕(List Int))(h:Er d a c=some o):AWP (OkS Tryz.prog) pY (qL [0,3,4,6,7,8,9,10] [3,4,6,7,9,500000385,1000000000] (JU d g a) (qX 2 [0,3,4,6,7,8,9] [3,4,6,7,9,500000385,1000000000] (zM d g a)) o) (JU d g a c):=by
 have e:=ZA @JU.eq_1 @zM.eq_1;unfold Er at h;simp only[ZC,JU,pY];obtain⟨k,h⟩|⟨k,h⟩:=aq h
 ·obtain⟨p1,b1,h⟩:=af h;obtain⟨q1,c1,h⟩:=af h;obtain⟨s1,d1,h⟩:=af h;have f:=ZA k (ZA (aW b1) c1);refine ZF f ?_;refine ZSG f (HL _ _ _ d1) ?_;obtain⟨g1,i1,h⟩:=af h;try refine ZF f ?_
  refine aF (sh:=(fun v=>⟨[(0,.pt 1000000000 0 0),(3,.pt 3 0 0),(4,.pt 4 0 0),(6,.pt 6 0 0),(7,.sl 7 0 a.2.1.length),(8,.i a.1),(9,.sl 9 0 c.2.length),(10,.i c.1),(53,.b v)],[(3,.var (.agg [.lst .m 1 (((d).Nodes).map AV.z),.lst .m 4 (((d).Fibers).map (ai .m))])),(4,.var (.agg [.i 0,.lst .u 1 []])),(6,.var (.agg [.i g.1,.sl 500000385 0 a.2.2.1.length])),(7,.arr 1 (a.2.1.map AV.i)),(9,.arr 1 (c.2.map AV.i)),(500000385,.arr 1 (a.2.2.1.map AV.i)),(1000000000,.var (.agg [.lst .o 1 (((a.2.2.2).code).map AV.u8),.i ((a.2.2.2).atF),.sc (.int .u64 ((a.2.2.2).seed))]))]⟩)) (s:=g1) ?_ ?_
  ·replace h:=i1;obtain⟨l,h⟩|⟨l,h⟩:=aq h
   ·obtain⟨t1,j1,h⟩:=af h;have f:=ZA f l;refine ZF f ?_;refine ZSG f (Da _ _ j1) ?_;cases h;exact ZL f trivial
   ·cases h;exact ZL (ZA f l) trivial
  ·simp only[ZC,vE];obtain⟨p,h⟩|⟨p,h⟩:=aq h
   ·obtain⟨q,j,h⟩:=aU h;have k1:Row.arr 1 [(.i c.1:AV)]=Row.arr 1 (q.map AV.i):=by rw[<-j];rfl
    have w:q.length=1:=by rw[<-j];rfl
    obtain⟨u1,l1,h⟩:=af h;have x:=aW l1;obtain⟨y,t,h⟩:=aU h;have m1:c.2.map AV.i++q.map AV.i=y.map AV.i:=by rw[<-t,List.map_append]
    have a1:c.2.length+1=y.length:=by simp[<-j,<-t]<;>omega
    rw[a1] at x;cases h;exact ZL (ZA f (ZA p (ZA k1 (ZA w (ZA x (ZA m1 a1)))))) (ZA e (ZA j.symm (ZA t.symm w)))
   ·cases h;exact ZL (ZA f p) e
 ·cases h;exact ZL k e
end Vs

