/-
  Part of the proof that FnExactCheapestPair returns true at every input.
-/
import Derived.Test.YtfmhphgpijjejaaGreatEa
set_option linter.defProp false
set_option linter.unusedSimpArgs false
set_option linter.unusedVariables false
set_option maxHeartbeats 1000000
set_option maxRecDepth 8000
namespace Vs
open Go Go.Proofs
attribute [local irreducible] AWP dU eff rI fS callM
theorem VT1:(∀(f:Fl)(x:ax),ai f x=.agg [.i x.A,.i x.B,.i x.N,.i x.F])/\
 (∀(f:Fl)(x:ae),aP f x=.agg [.lst f 1 (x.N.map AV.z),.lst f 4 (x.F.map (ai f))])/\
 (∀(f:Fl)(x:au),ay f x=.agg [.i x.N,.i x.F])/\
 (∀(f:Fl)(x:aI),aK f x=.agg [.i x.N,.i x.L,.i x.F,.i x.P])/\
 (∀(f:Fl)(x:ah),aw f x=.agg [.i x.N,.lst f 1 (x.F.map AV.i)])/\
 (∀(f:Fl)(x:bC),aL f x=.agg [.lst f 1 (x.n.N.map AV.z),.lst f 4 (x.n.F.map (ai f)),.i x.N,.lst f 2 (x.F.map (aw f))])/\
 (∀(f:Fl)(x:aA),aR f x=.agg [.i x.F.N,.lst f 1 (x.F.F.map AV.i),.i x.N])/\
 (∀(f:Fl)(x:List Int),cd f x=.lst f 1 (x.map AV.i))/\
 (∀(x:Value)(f:Nat)(cs:List AV),setPart (.sc x) 0 (.fn f cs)=some (.fn f cs)):=⟨fun _ _=>rfl,fun _ _=>rfl,fun _ _=>rfl,fun _ _=>rfl,fun _ _=>rfl,fun _ _=>rfl,fun _ _=>rfl,fun _ _=>rfl,fun _ _ _=>rfl⟩
theorem nM(f:Fl)(x:ah)(v:Value)(w:World)(S:Nat->Prop)(B:Nat)(fp:List Nat)(h:aQ w S B v (aw f x) fp)(hk:v.cells.size=2):shK 2 v:=CJ h hk
theorem VT2:(∀(f:Fl)(x:ax),(ai f x).nrm=ai .o x)/\
 (∀(f:Fl)(xs:List ax),(xs.map (ai f)).map AV.nrm=xs.map (ai .o))/\
 (∀(f:Fl)(x:ax),(ai f x).als=ai f.als x)/\
 (∀(f:Fl)(xs:List ax),(xs.map (ai f)).map AV.als=xs.map (ai f.als))/\
 (∀(f:Fl),AV.als∘ai f=ai f.als)/\
 (∀(f:Fl)(x:ax),(ai f x).fix=ai f.fix x)/\
 (∀(f:Fl)(xs:List ax),(xs.map (ai f)).map AV.fix=xs.map (ai f.fix))/\
 (∀(f:Fl)(x:ae),(aP f x).nrm=aP .o x)/\
 (∀(f:Fl)(xs:List ae),(xs.map (aP f)).map AV.nrm=xs.map (aP .o))/\
 (∀(f:Fl)(x:ae),(aP f x).als=aP f.als x)/\
 (∀(f:Fl)(xs:List ae),(xs.map (aP f)).map AV.als=xs.map (aP f.als))/\
 (∀(f:Fl),AV.als∘aP f=aP f.als)/\
 (∀(f:Fl)(x:ae),(aP f x).fix=aP f.fix x)/\
 (∀(f:Fl)(xs:List ae),(xs.map (aP f)).map AV.fix=xs.map (aP f.fix))/\
 (∀(f:Fl)(x:au),(ay f x).nrm=ay .o x)/\
 (∀(f:Fl)(xs:List au),(xs.map (ay f)).map AV.nrm=xs.map (ay .o))/\
 (∀(f:Fl)(x:au),(ay f x).als=ay f.als x)/\
 (∀(f:Fl)(xs:List au),(xs.map (ay f)).map AV.als=xs.map (ay f.als))/\
 (∀(f:Fl),AV.als∘ay f=ay f.als)/\
 (∀(f:Fl)(x:au),(ay f x).fix=ay f.fix x)/\
 (∀(f:Fl)(xs:List au),(xs.map (ay f)).map AV.fix=xs.map (ay f.fix))/\
 (∀(f:Fl)(x:aI),(aK f x).nrm=aK .o x)/\
 (∀(f:Fl)(xs:List aI),(xs.map (aK f)).map AV.nrm=xs.map (aK .o))/\
 (∀(f:Fl)(x:aI),(aK f x).als=aK f.als x)/\
 (∀(f:Fl)(xs:List aI),(xs.map (aK f)).map AV.als=xs.map (aK f.als))/\
 (∀(f:Fl),AV.als∘aK f=aK f.als)/\
 (∀(f:Fl)(x:aI),(aK f x).fix=aK f.fix x)/\
 (∀(f:Fl)(xs:List aI),(xs.map (aK f)).map AV.fix=xs.map (aK f.fix))/\
 (∀(f:Fl)(x:ah),(aw f x).nrm=aw .o x)/\
 (∀(f:Fl)(xs:List ah),(xs.map (aw f)).map AV.nrm=xs.map (aw .o))/\
 (∀(f:Fl)(x:ah),(aw f x).als=aw f.als x)/\
 (∀(f:Fl)(xs:List ah),(xs.map (aw f)).map AV.als=xs.map (aw f.als))/\
 (∀(f:Fl),AV.als∘aw f=aw f.als)/\
 (∀(f:Fl)(x:ah),(aw f x).fix=aw f.fix x)/\
 (∀(f:Fl)(xs:List ah),(xs.map (aw f)).map AV.fix=xs.map (aw f.fix))/\
 (∀(f:Fl)(x:bC),(aL f x).nrm=aL .o x)/\
 (∀(f:Fl)(xs:List bC),(xs.map (aL f)).map AV.nrm=xs.map (aL .o))/\
 (∀(f:Fl)(x:bC),(aL f x).als=aL f.als x)/\
 (∀(f:Fl)(xs:List bC),(xs.map (aL f)).map AV.als=xs.map (aL f.als))/\
 (∀(f:Fl),AV.als∘aL f=aL f.als)/\
 (∀(f:Fl)(x:bC),(aL f x).fix=aL f.fix x)/\
 (∀(f:Fl)(xs:List bC),(xs.map (aL f)).map AV.fix=xs.map (aL f.fix))/\
 (∀(f:Fl)(x:aA),(aR f x).nrm=aR .o x)/\
 (∀(f:Fl)(xs:List aA),(xs.map (aR f)).map AV.nrm=xs.map (aR .o))/\
 (∀(f:Fl)(x:aA),(aR f x).als=aR f.als x)/\
 (∀(f:Fl)(xs:List aA),(xs.map (aR f)).map AV.als=xs.map (aR f.als))/\
 (∀(f:Fl),AV.als∘aR f=aR f.als)/\
 (∀(f:Fl)(x:aA),(aR f x).fix=aR f.fix x)/\
 (∀(f:Fl)(xs:List aA),(xs.map (aR f)).map AV.fix=xs.map (aR f.fix))/\
 (∀(f:Fl)(x:List Int),(cd f x).nrm=cd .o x)/\
 (∀(f:Fl)(xs:List (List Int)),(xs.map (cd f)).map AV.nrm=xs.map (cd .o))/\
 (∀(f:Fl)(x:List Int),(cd f x).als=cd f.als x)/\
 (∀(f:Fl)(xs:List (List Int)),(xs.map (cd f)).map AV.als=xs.map (cd f.als))/\
 (∀(f:Fl),AV.als∘cd f=cd f.als)/\
 (∀(f:Fl)(x:List Int),(cd f x).fix=cd f.fix x)/\
 (∀(f:Fl)(xs:List (List Int)),(xs.map (cd f)).map AV.fix=xs.map (cd f.fix))/\
 (∀{H:World->Prop}(f:Fl)(x:bA H),aY f x=.agg [.i x.N,.sc x.F.v])/\
 (∀{H:World->Prop}(f:Fl)(x:bA H),(aY f x).nrm=aY .o x)/\
 (∀{H:World->Prop}(f:Fl)(xs:List (bA H)),(xs.map (aY f)).map AV.nrm=xs.map (aY .o))/\
 (∀{H:World->Prop}(f:Fl)(x:bA H),(aY f x).als=aY (f.als) x)/\
 (∀{H:World->Prop}(f:Fl)(xs:List (bA H)),(xs.map (aY f)).map AV.als=xs.map (aY (f.als)))/\
 (∀{H:World->Prop}(f:Fl)(x:bA H),(aY f x).fix=aY (f.fix) x)/\
 (∀{H:World->Prop}(f:Fl)(xs:List (bA H)),(xs.map (aY f)).map AV.fix=xs.map (aY (f.fix)))/\
 (∀{H:World->Prop}(f:Fl),AV.als∘(aY (H:=H) f)=aY f.als)/\
 (∀{H:World->Prop}(f:Fl)(x:ar H),aM f x=.agg [.i x.F.N,.sc x.F.F.v,.i x.N])/\
 (∀{H:World->Prop}(f:Fl)(x:ar H),(aM f x).nrm=aM .o x)/\
 (∀{H:World->Prop}(f:Fl)(xs:List (ar H)),(xs.map (aM f)).map AV.nrm=xs.map (aM .o))/\
 (∀{H:World->Prop}(f:Fl)(x:ar H),(aM f x).als=aM (f.als) x)/\
 (∀{H:World->Prop}(f:Fl)(xs:List (ar H)),(xs.map (aM f)).map AV.als=xs.map (aM (f.als)))/\
 (∀{H:World->Prop}(f:Fl)(x:ar H),(aM f x).fix=aM (f.fix) x)/\
 (∀{H:World->Prop}(f:Fl)(xs:List (ar H)),(xs.map (aM f)).map AV.fix=xs.map (aM (f.fix)))/\
 (∀{H:World->Prop}(f:Fl),AV.als∘(aM (H:=H) f)=aM f.als)/\
 (∀{H:World->Prop},(Raw.none (H:=H)).v=.slice .none 0 0)/\
 (∀(H:World->Prop)(P:Program),(OkT H P).p=OkR H P)/\
 (∀(H:World->Prop)(P:Program),(OkT H P).m=JE H P)/\
 (∀{P:Program}{A:aq}{V:List RV}{n:Nat}{res:AV}(τ:St),JJ P A V n res .ret τ=fin V res .ret τ)/\
 (∀{H:World->Prop}{V:List RV}{res:AV}(ts:List (Raw H))(σ:St),Cu V ts res .ret σ=opt (RVs.val σ V) fun xs=>(aF xs).Nodup/\∃is,Sb ts (lift σ.row 3 (dG xs)) res is/\is.Nodup):=
 ⟨@gh,@qy,@eO,@qu,@qd,@eN,@kC,@jN,@nf,@gD,@na,@nr,@gt,@iY,@kF,@og,@gX,@pA,@ot,@gZ,@jp,@kv,@oE,@hX,@po,@nZ,@gY,@ji,@fW,@qq,@gc,@pX,@pY,@fY,@kx,@ja,@mo,@fN,@mE,@mD,@fP,@iu,@ky,@nV,@gV,@oB,@oX,@gW,@jI,@tE,@Bd,@oL,@BP,@BW,@oU,@rn,@rV,@kz,@nX,@hU,@pL,@kA,@oy,@pP,@qt,@jE,@nk,@gn,@no,@jL,@ni,@nh,@Raw.none_v,@Rx,@Sn,@Jc,@Ip⟩
theorem VF1:(∀(f:Fl)(x:ax),(ai f x).fix=ai f.fix x)/\
 (∀(f:Fl)(xs:List ax),(xs.map (ai f)).map AV.fix=xs.map (ai f.fix))/\
 (∀(f:Fl)(x:ae),(aP f x).fix=aP f.fix x)/\
 (∀(f:Fl)(xs:List ae),(xs.map (aP f)).map AV.fix=xs.map (aP f.fix))/\
 (∀(f:Fl)(x:au),(ay f x).fix=ay f.fix x)/\
 (∀(f:Fl)(xs:List au),(xs.map (ay f)).map AV.fix=xs.map (ay f.fix))/\
 (∀(f:Fl)(x:aI),(aK f x).fix=aK f.fix x)/\
 (∀(f:Fl)(xs:List aI),(xs.map (aK f)).map AV.fix=xs.map (aK f.fix))/\
 (∀(f:Fl)(x:ah),(aw f x).fix=aw f.fix x)/\
 (∀(f:Fl)(xs:List ah),(xs.map (aw f)).map AV.fix=xs.map (aw f.fix))/\
 (∀(f:Fl)(x:bC),(aL f x).fix=aL f.fix x)/\
 (∀(f:Fl)(xs:List bC),(xs.map (aL f)).map AV.fix=xs.map (aL f.fix))/\
 (∀(f:Fl)(x:aA),(aR f x).fix=aR f.fix x)/\
 (∀(f:Fl)(xs:List aA),(xs.map (aR f)).map AV.fix=xs.map (aR f.fix))/\
 (∀(f:Fl)(x:List Int),(cd f x).fix=cd f.fix x)/\
 (∀(f:Fl)(xs:List (List Int)),(xs.map (cd f)).map AV.fix=xs.map (cd f.fix)):=
 ⟨@eN,@kC,@gt,@iY,@gZ,@jp,@gY,@ji,@fY,@kx,@fP,@iu,@gW,@jI,@oU,@rn⟩
theorem VQq1:(∀(x:ax),(ai .o x).fz=true)/\
 (∀(xs:List ax),fzL (xs.map (ai .o))=true)/\
 (∀(x:ax),(ai .u x).ouB=true)/\
 (∀(xs:List ax),df (xs.map (ai .u))=true)/\
 (∀(x:ae),(aP .o x).fz=true)/\
 (∀(xs:List ae),fzL (xs.map (aP .o))=true)/\
 (∀(x:ae),(aP .u x).ouB=true)/\
 (∀(xs:List ae),df (xs.map (aP .u))=true)/\
 (∀(x:au),(ay .o x).fz=true)/\
 (∀(xs:List au),fzL (xs.map (ay .o))=true)/\
 (∀(x:au),(ay .u x).ouB=true)/\
 (∀(xs:List au),df (xs.map (ay .u))=true)/\
 (∀(x:aI),(aK .o x).fz=true)/\
 (∀(xs:List aI),fzL (xs.map (aK .o))=true)/\
 (∀(x:aI),(aK .u x).ouB=true)/\
 (∀(xs:List aI),df (xs.map (aK .u))=true)/\
 (∀(x:ah),(aw .o x).fz=true)/\
 (∀(xs:List ah),fzL (xs.map (aw .o))=true)/\
 (∀(x:ah),(aw .u x).ouB=true)/\
 (∀(xs:List ah),df (xs.map (aw .u))=true)/\
 (∀(x:bC),(aL .o x).fz=true)/\
 (∀(xs:List bC),fzL (xs.map (aL .o))=true)/\
 (∀(x:bC),(aL .u x).ouB=true)/\
 (∀(xs:List bC),df (xs.map (aL .u))=true)/\
 (∀(x:aA),(aR .o x).fz=true)/\
 (∀(xs:List aA),fzL (xs.map (aR .o))=true)/\
 (∀(x:aA),(aR .u x).ouB=true)/\
 (∀(xs:List aA),df (xs.map (aR .u))=true)/\
 (∀(x:List Int),(cd .o x).fz=true)/\
 (∀(xs:List (List Int)),fzL (xs.map (cd .o))=true)/\
 (∀(x:List Int),(cd .u x).ouB=true)/\
 (∀(xs:List (List Int)),df (xs.map (cd .u))=true):=
 ⟨@mL,@eY,@mY,@eU,@kD,@pu,@kB,@oC,@ma,@qr,@lL,@qf,@lw,@qh,@lP,@pZ,@mH,@iC,@mP,@iE,@jr,@nw,@jn,@nt,@lS,@qe,@lu,@qi,@ze,@JD,@yz,@Hp⟩
theorem VE1:ai .o=ai .u/\ai .m=ai .u/\ai .s=ai .u/\ay .o=ay .u/\ay .m=ay .u/\ay .s=ay .u/\aK .o=aK .u/\aK .m=aK .u/\aK .s=aK .u:=⟨rfl,rfl,rfl,rfl,rfl,rfl,rfl,rfl,rfl⟩
theorem Zr{α:Type}(n:Nat)(a:α):(List.replicate n a).length=n:=List.length_replicate
theorem ZA{A B:Prop}(a:A)(b:B):A/\B:=⟨a,b⟩
theorem ZF{A:Prop}(a:A){P Q:Prop}(k:Q)(e:A->P=Q:=by intro a;simp only[VS1,VS2,VS3,VS4,VS5,VS6,VT1,VT2,bJ,bK,decide_true,decide_false,List.nodup_nil,List.nodup_cons,fg,fd,ff,ne_eq,not_false_eq_true,Int.reduceEq,Int.reduceNe,true_and,false_and,Nat.reduceSub,Nat.reduceMul,↓reduceIte,reduceCtorEq,Nat.reduceEqDiff,Nat.reduceAdd,Nat.reduceLeDiff,Int.reduceLE,a];exact Eq.refl _):P:=(e a).mpr k
theorem ZG{P Q:Prop}(k:Q)(e:P=Q:=by simp only[VA,VF1,↓reduceIte,Nat.reduceEqDiff,Nat.reduceAdd,Nat.reduceMul,Nat.reduceSub,Nat.reduceLeDiff];exact Eq.refl _):P:=e.mpr k
theorem ZL{A:Prop}(a:A){B:Prop}(b:B){P:Prop}(e:A->B->P:=by intro a b;(try simp only[VS1,VS2,VS3,VS4,VS5,VS6,VT1,VT2,bJ,bK,decide_true,decide_false,List.nodup_nil,List.nodup_cons,fg,fd,ff,ne_eq,not_false_eq_true,Int.reduceEq,Int.reduceNe,true_and,false_and,Nat.reduceSub,Nat.reduceMul,↓reduceIte,reduceCtorEq,Nat.reduceEqDiff,Nat.reduceAdd,Nat.reduceLeDiff,Int.reduceLE,a]);all_goals first|(simp[qL,qJ,qJ0,qS,qX,qR,qM,Shp,sub,dG,bJ,bK,VS1,VS2,VS3,VS4,VS5,VS6,VT1,VT2,b];done)|simp[qL,qJ,qJ0,qS,qX,qR,qM,Shp,sub,dG,bJ,bK,VS1,VS2,VS3,VS4,VS5,VS6,VT1,VT2,VE1,b]):P:=e a b
theorem ZK{B:Prop}(b:B){P:Prop}(e:B->P:=by intro b;simp[qL,qJ,qJ0,qS,qX,qR,qM,Shp,sub,dG,bJ,bK,VS1,VS2,VS3,VS4,VS5,VS6,VT1,VT2,b]):P:=e b
theorem ZS{A:Prop}(a:A){W:Prop}(w:W){ok:Oks}{ρ:Nat->Option Row}{d f:Nat}{args:List AV}{K:AV->List (Nat×Row)->Prop}{v:Value}(hk:K (.sc v) [])
 (e:A->W->ok.p f (args.map (snp ρ 4)) (.sc v):=by intro a w;simp only[VS1,VS2,VS3,VS4,VS5,VS6,VT1,VT2,bJ,bK,decide_true,decide_false,List.nodup_nil,List.nodup_cons,fg,fd,ff,ne_eq,not_false_eq_true,Int.reduceEq,Int.reduceNe,true_and,false_and,Nat.reduceSub,Nat.reduceMul,↓reduceIte,reduceCtorEq,Nat.reduceEqDiff,Nat.reduceAdd,Nat.reduceLeDiff,Int.reduceLE,a];first|exact w|exact rH _ w|exact lf w (by repeat' first|exact trivial|exact sF _|exact nH _|refine rJ ?_|refine⟨?_,?_⟩)):fS ok ρ d f args K:=IU (e a w) hk
theorem ZU{A:Prop}(a:A){W:Prop}(w:W){ok:Oks}{ρ:Nat->Option Row}{d f:Nat}{args:List AV}{K:AV->List (Nat×Row)->Prop}{res:AV}(hk:K (adopt 4 d res).1 (adopt 4 d res).2.1)
 (e:A->W->ok.p f (args.map (snp ρ 4)) res:=by intro a w;simp only[VS1,VS2,VS3,VS4,VS5,VS6,VT1,VT2,bJ,bK,decide_true,decide_false,List.nodup_nil,List.nodup_cons,fg,fd,ff,ne_eq,not_false_eq_true,Int.reduceEq,Int.reduceNe,true_and,false_and,Nat.reduceSub,Nat.reduceMul,↓reduceIte,reduceCtorEq,Nat.reduceEqDiff,Nat.reduceAdd,Nat.reduceLeDiff,Int.reduceLE,a];first|exact w|exact rH _ w|exact lf w (by repeat' first|exact trivial|exact sF _|exact nH _|refine rJ ?_|refine⟨?_,?_⟩)) (hu:res.allU:=by simp[AV.allU,jt,qE,VT1,VT2]) (hn:∀p∈(adopt 4 d res).2.1,ρ p.1=none/\p.1<1000000000:=by simp only[VS1,VS2,VS3,VS4,VS5,VS6,VT1,VT2,bJ,bK,decide_true,decide_false,List.nodup_nil,List.nodup_cons,fg,fd,ff,ne_eq,not_false_eq_true,Int.reduceEq,Int.reduceNe,true_and,false_and,Nat.reduceSub,Nat.reduceMul,↓reduceIte,reduceCtorEq,Nat.reduceEqDiff,Nat.reduceAdd,Nat.reduceLeDiff,Int.reduceLE,Nat.reduceLT]):fS ok ρ d f args K:=ES (e a w) hu hn hk
theorem ZQ{P:Prop}(e:P:=by simp[VS1,VS2,VS3,VS4,VS5,VS6,VT1,VT2]):P:=e
theorem ZW{A:Prop}(a:A){W:Prop}(w:W){ok:Oks}{ρ:Nat->Option Row}{d f:Nat}{args:List AV}{rs:List Nat}{K:AV->List (Nat×Row)->Prop}{res:AV}{outs:List (Nat×Row)}
 (e:A->W->ok.m f (args.map (AV.rg (cnm rs))) (rs.map (gM ρ rs)) res outs:=by intro a w;simp only[VS1,VS2,VS3,VS4,VS5,VS6,VT1,VT2,bJ,bK,decide_true,decide_false,List.nodup_nil,List.nodup_cons,fg,fd,ff,ne_eq,not_false_eq_true,Int.reduceEq,Int.reduceNe,true_and,false_and,Nat.reduceSub,Nat.reduceMul,↓reduceIte,reduceCtorEq,Nat.reduceEqDiff,Nat.reduceAdd,Nat.reduceLeDiff,Int.reduceLE,a];first|exact w|(simp only[VS1,VS2,VS3,VS4,VS5,VS6,VT1,VT2,bJ,bK,decide_true,decide_false,List.nodup_nil,List.nodup_cons,fg,fd,ff,ne_eq,not_false_eq_true,Int.reduceEq,Int.reduceNe,true_and,false_and,Nat.reduceSub,Nat.reduceMul,↓reduceIte,reduceCtorEq,Nat.reduceEqDiff,Nat.reduceAdd,Nat.reduceLeDiff,Int.reduceLE,a] at w;exact w))
 (h1:rs.Nodup/\(∀r∈rs,cD (ρ r))/\(∀r∈rs,∀q∈mz (ρ r),q∈rs)/\(∀r∈aF args,r∈rs):=by simp[VS1,VS2,VS3,VS4,VS5,VS6,VT1,VT2])
 (h2:(outs.map fun p=>bkn d rs p.1).Nodup/\(∀p∈outs,1000000000<=p.1->p.1-1000000000<rs.length)/\(∀p∈outs,p.1<1000000000->ρ (bkn d rs p.1)=none/\bkn d rs p.1<1000000000))
 (hk:K (res.rg (bkn d rs)) (bX rs++outs.map (fi d rs))):callM ok ρ d f args rs K:=vA (e a w) h1 h2 hk
def S_k(a:List ByteArray)(v:Int×Int):St:=⟨[(0,.lst .o 1 (a.map AV.z)),(1,.i v.1),(5,.i v.2)],[]⟩
def tR(v:Int):St:=⟨[(1,.i v)],[]⟩
def NmK(ns ks:List Nat)(P:Prop):Prop:=P
theorem nmK{ns ks:List Nat}{P:Prop}(p:P):NmK ns ks P:=p
theorem ZSG{A:Prop}(a:A){W:Prop}(w:W){ok:Oks}{ρ:Nat->Option Row}{d f:Nat}{args:List AV}{K:AV->List (Nat×Row)->Prop}{v:Value}{Q:Prop}(k:Q)
 (e:A->W->ok.p f (args.map (snp ρ 4)) (.sc v):=by intro a w;simp only[VS1,VS2,VS3,VS4,VS5,VS6,VT1,VT2,bJ,bK,decide_true,decide_false,List.nodup_nil,List.nodup_cons,fg,fd,ff,ne_eq,not_false_eq_true,Int.reduceEq,Int.reduceNe,true_and,false_and,Nat.reduceSub,Nat.reduceMul,↓reduceIte,reduceCtorEq,Nat.reduceEqDiff,Nat.reduceAdd,Nat.reduceLeDiff,Int.reduceLE,a];first|exact w|exact rH _ w|exact lf w (by repeat' first|exact trivial|exact sF _|exact nH _|refine rJ ?_|refine⟨?_,?_⟩)) (g:K (.sc v) []=Q:=by simp only[VA,VF1,↓reduceIte,Nat.reduceEqDiff,Nat.reduceAdd,Nat.reduceMul,Nat.reduceSub,Nat.reduceLeDiff];exact Eq.refl _):fS ok ρ d f args K:=IU (e a w) (g.mpr k)
theorem ZUG{A:Prop}(a:A){W:Prop}(w:W){ok:Oks}{ρ:Nat->Option Row}{d f:Nat}{args:List AV}{K:AV->List (Nat×Row)->Prop}{res:AV}{Q:Prop}(k:Q)
 (e:A->W->ok.p f (args.map (snp ρ 4)) res:=by intro a w;simp only[VS1,VS2,VS3,VS4,VS5,VS6,VT1,VT2,bJ,bK,decide_true,decide_false,List.nodup_nil,List.nodup_cons,fg,fd,ff,ne_eq,not_false_eq_true,Int.reduceEq,Int.reduceNe,true_and,false_and,Nat.reduceSub,Nat.reduceMul,↓reduceIte,reduceCtorEq,Nat.reduceEqDiff,Nat.reduceAdd,Nat.reduceLeDiff,Int.reduceLE,a];first|exact w|exact rH _ w|exact lf w (by repeat' first|exact trivial|exact sF _|exact nH _|refine rJ ?_|refine⟨?_,?_⟩)) (hu:res.allU:=by simp[AV.allU,jt,qE,VT1,VT2]) (hn:∀p∈(adopt 4 d res).2.1,ρ p.1=none/\p.1<1000000000:=by simp only[VS1,VS2,VS3,VS4,VS5,VS6,VT1,VT2,bJ,bK,decide_true,decide_false,List.nodup_nil,List.nodup_cons,fg,fd,ff,ne_eq,not_false_eq_true,Int.reduceEq,Int.reduceNe,true_and,false_and,Nat.reduceSub,Nat.reduceMul,↓reduceIte,reduceCtorEq,Nat.reduceEqDiff,Nat.reduceAdd,Nat.reduceLeDiff,Int.reduceLE,Nat.reduceLT]) (g:K (adopt 4 d res).1 (adopt 4 d res).2.1=Q:=by simp only[VA,VF1,↓reduceIte,Nat.reduceEqDiff,Nat.reduceAdd,Nat.reduceMul,Nat.reduceSub,Nat.reduceLeDiff];exact Eq.refl _):fS ok ρ d f args K:=ES (e a w) hu hn (g.mpr k)
theorem NM1{ρ:Nat->Option Row}{d:Nat}{rs:List Nat}{outs:List (Nat×Row)}{ns ks:List Nat}(hn:outs.map (·.1)=ns)(h:PT rs ns=true):
 NmK ns ks ((outs.map fun p=>bkn d rs p.1).Nodup/\(∀p∈outs,1000000000<=p.1->p.1-1000000000<rs.length)/\(∀p∈outs,p.1<1000000000->ρ (bkn d rs p.1)=none/\bkn d rs p.1<1000000000)):=OT ns hn h
theorem NM2{ρ:Nat->Option Row}{d:Nat}{rs:List Nat}{outs:List (Nat×Row)}{ns ks:List Nat}(hn:outs.map (·.1)=ns)(h:Gl d rs ns ks=true)(hk:∀q∈ks,ρ q=none):
 NmK ns ks ((outs.map fun p=>bkn d rs p.1).Nodup/\(∀p∈outs,1000000000<=p.1->p.1-1000000000<rs.length)/\(∀p∈outs,p.1<1000000000->ρ (bkn d rs p.1)=none/\bkn d rs p.1<1000000000)):=Ry ns ks hn h hk
theorem ZWG{A:Prop}(a:A){W:Prop}(w:W)(ns ks:List Nat){Q:Prop}(k:Q){ok:Oks}{ρ:Nat->Option Row}{d f:Nat}{args:List AV}{rs:List Nat}{K:AV->List (Nat×Row)->Prop}{res:AV}{outs:List (Nat×Row)}
 (e:A->W->ok.m f (args.map (AV.rg (cnm rs))) (rs.map (gM ρ rs)) res outs:=by intro a w;simp only[VS1,VS2,VS3,VS4,VS5,VS6,VT1,VT2,bJ,bK,decide_true,decide_false,List.nodup_nil,List.nodup_cons,fg,fd,ff,ne_eq,not_false_eq_true,Int.reduceEq,Int.reduceNe,true_and,false_and,Nat.reduceSub,Nat.reduceMul,↓reduceIte,reduceCtorEq,Nat.reduceEqDiff,Nat.reduceAdd,Nat.reduceLeDiff,Int.reduceLE,a];first|exact w|(simp only[VS1,VS2,VS3,VS4,VS5,VS6,VT1,VT2,bJ,bK,decide_true,decide_false,List.nodup_nil,List.nodup_cons,fg,fd,ff,ne_eq,not_false_eq_true,Int.reduceEq,Int.reduceNe,true_and,false_and,Nat.reduceSub,Nat.reduceMul,↓reduceIte,reduceCtorEq,Nat.reduceEqDiff,Nat.reduceAdd,Nat.reduceLeDiff,Int.reduceLE,a] at w;exact w))
 (h1:rs.Nodup/\(∀r∈rs,cD (ρ r))/\(∀r∈rs,∀q∈mz (ρ r),q∈rs)/\(∀r∈aF args,r∈rs):=by simp[VS1,VS2,VS3,VS4,VS5,VS6,VT1,VT2])
 (h2:NmK ns ks ((outs.map fun p=>bkn d rs p.1).Nodup/\(∀p∈outs,1000000000<=p.1->p.1-1000000000<rs.length)/\(∀p∈outs,p.1<1000000000->ρ (bkn d rs p.1)=none/\bkn d rs p.1<1000000000)):=by first|exact NM1 rfl (by decide+kernel)|exact NM2 rfl (by decide+kernel) ZQ|exact nmK ZQ)
 (g:K (res.rg (bkn d rs)) (bX rs++outs.map (fi d rs))=Q:=by simp only[VA,VF1,↓reduceIte,Nat.reduceEqDiff,Nat.reduceAdd,Nat.reduceMul,Nat.reduceSub,Nat.reduceLeDiff];exact Eq.refl _):callM ok ρ d f args rs K:=vA (e a w) h1 h2 (g.mpr k)
theorem w_k(b:List ByteArray)(d:Int×Int)(o:(Int×Int)⊕(Int⊕Int))(h:M_k b d=some o):AWP (OkS Tryz.prog) vS (qL [0,1,5] [] (S_k b) (qS (qX 0 [1] [] (tR)) (qR aN (fun r=>.i r))) o) (S_k b d):=by
 have e:=ZA @S_k.eq_1 @tR.eq_1;unfold M_k at h;simp only[ZC,S_k,vS];obtain⟨a,h⟩|⟨a,h⟩:=aj h
 ·obtain⟨j,g,h⟩:=af h;obtain⟨c,h⟩|⟨c,h⟩:=aj h
  ·cases h;exact ZL (ZA a (ZA (aO g) c)) @aN.eq_1
  ·cases h;exact ZL (ZA a (ZA (aO g) c)) e
 ·cases h;exact ZL a e
theorem w_di(b:List ByteArray)(c:Int){r:Int}(h:FO b c=some r):Ok Tryz.prog 103 [.lst .o 1 (b.map AV.z),.i c] (.i r):=by
 refine az ba m103 rfl ?_;unfold FO at h;simp only[ZC,A103,aN,aJ];obtain⟨a,h⟩|⟨a,h⟩:=aj h
 ·cases h;exact ZL a @aN.eq_1
 ·obtain⟨d,g,h⟩:=af h;try refine ZF a ?_
  refine bj (o:=d) (bz de (aD (w_k b) g ?_)) (fun k hv=>?_) (fun l hv e τ hne hq=>?_)
  ·exact ZK (ZA @S_k.eq_1 @tR.eq_1)
  ·subst hv;simp only[] at h;simp only[ZC,tR,FU];cases h;exact ZL a @aN.eq_1
  ·subst hv;simp only[] at h;obtain⟨rfl,j⟩:=hq;cases h;exact j
theorem w_dj(b:List ax)(c:Int){r:Int}(h:Ft b c=some r):Ok Tryz.prog 104 [.lst .o 4 (b.map (ai .o)),.i c] (.i r):=by
 refine az ba m104 rfl ?_;unfold Ft at h;simp only[ZC,A104,aN,aJ];obtain⟨a,h⟩|⟨a,h⟩:=aj h
 ·cases h;exact ZL a @aN.eq_1
 ·cases h;exact ZL a @aN.eq_1
theorem w_dk(b:ae)(d:Int){r:Int}(h:Gn b d=some r):Ok Tryz.prog 29 [.agg [.lst .o 1 (b.N.map AV.z),.lst .o 4 (b.F.map (ai .o))],.i d] (.i r):=by
 refine az ba m29 rfl ?_;unfold Gn at h;simp only[ZC,A29,aN,aJ];obtain⟨k,g,h⟩:=af h;refine ZF trivial ?_;refine ZSG trivial (w_di _ _ g) ?_;obtain⟨a,h⟩|⟨a,h⟩:=aj h
 ·cases h;exact ZL a @aN.eq_1
 ·obtain⟨l,j,h⟩:=af h;refine ZF a ?_;refine ZSG a (w_dj _ _ j) ?_;obtain⟨c,h⟩|⟨c,h⟩:=aj h
  ·cases h;exact ZL (ZA a c) @aN.eq_1
  ·cases h;exact ZL (ZA a c) @aN.eq_1
theorem w_dl(b:List au)(c:Int){r:Int}(h:Hq b c=some r):Ok Tryz.prog 43 [.lst .o 2 (b.map (ay .o)),.i c] (.i r):=by
 refine az ba m43 rfl ?_;unfold Hq at h;simp only[ZC,A43,aN,aJ];obtain⟨a,h⟩|⟨a,h⟩:=aj h
 ·cases h;exact ZL a @aN.eq_1
 ·cases h;exact ZL a @aN.eq_1
def S_y(a:List ByteArray)(v:Int×List ByteArray):St:=⟨[(0,.lst .o 1 (a.map AV.z)),(3,.sl 3 0 v.2.length),(4,.i v.1)],[(3,.arr 1 (v.2.map AV.z))]⟩
def NK(v:List ByteArray):St:=⟨[(3,.sl 3 0 v.length)],[(3,.arr 1 (v.map AV.z))]⟩
theorem w_y(b:List ByteArray)(a:Int×List ByteArray)(o:(Int×List ByteArray)⊕(List ByteArray))(h:M_y b a=some o):AWP (OkS Tryz.prog) vM (qL [0,3,4] [3] (S_y b) (qX 0 [3] [3] (NK)) o) (S_y b a):=by
 have e:=ZA @S_y.eq_1 @NK.eq_1;unfold M_y at h;simp only[ZC,S_y,vM];obtain⟨c,h⟩|⟨c,h⟩:=aj h
 ·obtain⟨g,i,h⟩:=af h;obtain⟨p,j,h⟩:=af h;obtain⟨q,k,h⟩:=af h;obtain⟨l,d,h⟩:=bh h;have m:(a.2.map AV.z).set (Int.toNat a.1) (.z g)=l.map AV.z:=by rw[<-d,List.map_set]
  cases h;exact ZL (ZA c (ZA (aO i) (ZA (aZ j) (ZA k m)))) (ZA e d.symm)
 ·cases h;exact ZL c e
theorem w_dm(a:List ByteArray){r:List ByteArray}(h:ED a=some r):Ok Tryz.prog 110 [.lst .o 1 (a.map AV.z)] (.lst .u 1 (r.map AV.z)):=by
 refine az ba m110 rfl ?_;unfold ED at h;simp only[ZC,A110,bq,aJ];obtain⟨j,c,h⟩:=af h;obtain⟨d,b,h⟩:=bh h;have g:List.replicate (Int.toNat (a.length:Int)) (.z (⟨#[]⟩:ByteArray):AV)=d.map AV.z:=by rw[<-b,List.map_replicate]
 obtain⟨k,i,h⟩:=af h;have f:=ZA (aZ c) g;try refine ZF f ?_
 refine aG (bf (aD (w_y a) i ?_)) ?_
 ·exact ZK (ZA @S_y.eq_1 (ZA @NK.eq_1 (ZA b.symm @Zr)))
 ·simp only[ZC,NK,Ee];cases h;exact ZL f @bq.eq_1
theorem w_cv(a:ax){r:ax}(h:AH a=some r):Ok Tryz.prog 174 [.agg [.i a.A,.i a.B,.i a.N,.i a.F]] (.agg [.i r.A,.i r.B,.i r.N,.i r.F]):=by
 refine az ba m174 rfl ?_;unfold AH at h;simp only[ZC,A174,Cq,aJ];cases h;exact ZL trivial @Cq.eq_1
def S_z(a:List ax)(v:Int×List ax):St:=⟨[(0,.lst .o 4 (a.map (ai .o))),(3,.sl 3 0 v.2.length),(4,.i v.1)],[(3,.arr 4 (v.2.map (ai .u)))]⟩
def Od(v:List ax):St:=⟨[(3,.sl 3 0 v.length)],[(3,.arr 4 (v.map (ai .u)))]⟩
theorem w_z(c:List ax)(a:Int×List ax)(o:(Int×List ax)⊕(List ax))(h:M_z c a=some o):AWP (OkS Tryz.prog) xk (qL [0,3,4] [3] (S_z c) (qX 0 [3] [3] (Od)) o) (S_z c a):=by
 have e:=ZA @S_z.eq_1 @Od.eq_1;unfold M_z at h;simp only[ZC,S_z,xk];obtain⟨d,h⟩|⟨d,h⟩:=aj h
 ·obtain⟨s,j,h⟩:=af h;obtain⟨b,k,h⟩:=af h;have f:=ZA d (aO j);refine ZF f ?_;refine ZUG f (w_cv _ k) ?_;obtain⟨t,l,h⟩:=af h;obtain⟨v,m,h⟩:=af h;obtain⟨p,g,h⟩:=bh h;have q:(a.2.map (ai .u)).set (Int.toNat a.1) (.agg [.i b.A,.i b.B,.i b.N,.i b.F])=p.map (ai .u):=by rw[<-g,List.map_set];rfl
  cases h;exact ZL (ZA f (ZA (aZ l) (ZA m q))) (ZA e g.symm)
 ·cases h;exact ZL d e
theorem w_dn(a:List ax){r:List ax}(h:IG a=some r):Ok Tryz.prog 111 [.lst .o 4 (a.map (ai .o))] (.lst .u 4 (r.map (ai .u))):=by
 refine az ba m111 rfl ?_;unfold IG at h;simp only[ZC,A111,bq,aJ];obtain⟨k,c,h⟩:=af h;obtain⟨d,b,h⟩:=bh h;have g:List.replicate (Int.toNat (a.length:Int)) (.agg [.i 0,.i 0,.i 0,.i 0]:AV)=d.map (ai .u):=by rw[<-b,List.map_replicate];rfl
 obtain⟨l,j,h⟩:=af h;have f:=ZA (aZ c) g;try refine ZF f ?_
 refine aG (bf (aD (w_z a) j ?_)) ?_
 ·exact ZK (ZA @S_z.eq_1 (ZA @Od.eq_1 (ZA b.symm @Zr)))
 ·simp only[ZC,Od,FS];cases h;exact ZL f @bq.eq_1
theorem Mo(a:ae){r:ae}(h:tz a=some r):Ok Tryz.prog 32 [.agg [.lst .o 1 (a.N.map AV.z),.lst .o 4 (a.F.map (ai .o))]] (.agg [.lst .u 1 (r.N.map AV.z),.lst .u 4 (r.F.map (ai .u))]):=by
 refine az ba m32 rfl ?_;unfold tz at h;simp only[ZC,A32,V32,aJ];obtain⟨d,b,h⟩:=af h;refine ZF trivial ?_;refine ZUG trivial (w_dm _ b) ?_;obtain⟨g,c,h⟩:=af h;refine ZF trivial ?_;refine ZUG trivial (w_dn _ c) ?_;cases h;exact ZL trivial @V32.eq_1
theorem w_cw(a:au){r:au}(h:zY a=some r):Ok Tryz.prog 123 [.agg [.i a.N,.i a.F]] (.agg [.i r.N,.i r.F]):=by
 refine az ba m123 rfl ?_;unfold zY at h;simp only[ZC,A123,V32,aJ];cases h;exact ZL trivial @V32.eq_1
def HK(a:List au)(v:Int×List au):St:=⟨[(0,.lst .o 2 (a.map (ay .o))),(3,.sl 3 0 v.2.length),(4,.i v.1)],[(3,.arr 2 (v.2.map (ay .u)))]⟩
def yG(v:List au):St:=⟨[(3,.sl 3 0 v.length)],[(3,.arr 2 (v.map (ay .u)))]⟩
theorem w_aa(b:List au)(a:Int×List au)(o:(Int×List au)⊕(List au))(h:AF b a=some o):AWP (OkS Tryz.prog) HC (qL [0,3,4] [3] (HK b) (qX 0 [3] [3] (yG)) o) (HK b a):=by
 have e:=ZA @HK.eq_1 @yG.eq_1;unfold AF at h;simp only[ZC,HK,HC];obtain⟨c,h⟩|⟨c,h⟩:=aj h
 ·obtain⟨s,j,h⟩:=af h;obtain⟨d,k,h⟩:=af h;have f:=ZA c (aO j);refine ZF f ?_;refine ZUG f (w_cw _ k) ?_;obtain⟨t,l,h⟩:=af h;obtain⟨v,m,h⟩:=af h;obtain⟨p,g,h⟩:=bh h;have q:(a.2.map (ay .u)).set (Int.toNat a.1) (.agg [.i d.N,.i d.F])=p.map (ay .u):=by rw[<-g,List.map_set];rfl
  cases h;exact ZL (ZA f (ZA (aZ l) (ZA m q))) (ZA e g.symm)
 ·cases h;exact ZL c e
theorem NR(a:List au){r:List au}(h:ug a=some r):Ok Tryz.prog 45 [.lst .o 2 (a.map (ay .o))] (.lst .u 2 (r.map (ay .u))):=by
 refine az ba m45 rfl ?_;unfold ug at h;simp only[ZC,A45,bq,aJ];obtain⟨k,c,h⟩:=af h;obtain⟨d,b,h⟩:=bh h;have g:List.replicate (Int.toNat (a.length:Int)) (.agg [.i 0,.i 0]:AV)=d.map (ay .u):=by rw[<-b,List.map_replicate];rfl
 obtain⟨l,j,h⟩:=af h;have f:=ZA (aZ c) g;try refine ZF f ?_
 refine aG (bf (aD (w_aa a) j ?_)) ?_
 ·exact ZK (ZA @HK.eq_1 (ZA @yG.eq_1 (ZA b.symm @Zr)))
 ·simp only[ZC,yG,OD];cases h;exact ZL f @bq.eq_1
theorem Pt(a:aI){r:aI}(h:ve a=some r):Ok Tryz.prog 46 [.agg [.i a.N,.i a.L,.i a.F,.i a.P]] (.agg [.i r.N,.i r.L,.i r.F,.i r.P]):=by
 refine az ba m46 rfl ?_;unfold ve at h;simp only[ZC,A46,Cq,aJ];cases h;exact ZL trivial @Cq.eq_1
theorem w_c(c:Int)(d:Int)(g:Int){r:Bool}(h:M_c c d g=some r):Ok Tryz.prog 173 [.i c,.i d,.i g] (.b r):=by
 refine az ba m173 rfl ?_;unfold M_c at h;simp only[ZC,A173,cQ,aJ];obtain⟨a,h⟩|⟨a,h⟩:=aj h
 ·cases h;exact ZL a @cQ.eq_1
 ·cases h;exact ZL a @cQ.eq_1
theorem w_do(i:Int){r:Bool}(h:Dh i=some r):Ok Tryz.prog 226 [.sc (.int .u8 i)] (.b r):=by
 have e:=@bq.eq_1;refine az ba m226 rfl ?_;unfold Dh at h;simp only[ZC,A226,bq,aJ];obtain⟨a,h⟩|⟨a,h⟩:=aj h
 ·obtain⟨c,h⟩|⟨c,h⟩:=aj h
  ·cases h;exact ZL (ZA a c) e
  ·obtain⟨d,h⟩|⟨d,h⟩:=aj h
   ·cases h;exact ZL (ZA a (ZA c d)) e
   ·cases h;exact ZL (ZA a (ZA c d)) e
 ·obtain⟨g,h⟩|⟨g,h⟩:=aj h
  ·cases h;exact ZL (ZA a g) e
  ·cases h;exact ZL (ZA a g) e
def S_a(a:ByteArray)(v:Int):St:=⟨[(0,.z a),(3,.i v)],[]⟩
def cq(v:Unit):St:=⟨[],[]⟩
theorem w_a(a:ByteArray)(g:Int)(o:Int⊕(Unit⊕Bool))(h:M_a a g=some o):AWP (OkS Tryz.prog) xl (qL [0,3] [] (S_a a) (qS (qX 0 [] [] (cq)) (qR bq (fun r=>.b r))) o) (S_a a g):=by
 have e:=ZA @S_a.eq_1 @cq.eq_1;unfold M_a at h;simp only[ZC,S_a,xl];obtain⟨c,h⟩|⟨c,h⟩:=aj h
 ·obtain⟨k,i,h⟩:=af h;obtain⟨l,j,h⟩:=af h;have f:=ZA c (jD i);refine ZF f ?_;refine ZSG f (w_do _ j) ?_;obtain⟨d,h⟩|⟨d,h⟩:=aj h
  ·cases h;exact ZL (ZA f d) @bq.eq_1
  ·cases h;exact ZL (ZA f d) e
 ·cases h;exact ZL c e
theorem w_dp(a:ByteArray){r:Bool}(h:DS a=some r):Ok Tryz.prog 194 [.z a] (.b r):=by
 refine az ba m194 rfl ?_;unfold DS at h;simp only[ZC,A194,bq,aJ];obtain⟨j,k,h⟩:=af h;try refine ZF trivial ?_
 refine aG (sh:=(fun v=>⟨[(0,.z a),(17,.b v)],[]⟩)) (s:=j) ?_ ?_
 ·replace h:=k;obtain⟨t,l,h⟩:=af h;refine ZF trivial ?_;refine ZSG trivial (w_c _ _ _ l) ?_;obtain⟨c,h⟩|⟨c,h⟩:=aj h
  ·cases h;exact ZL c trivial
  ·obtain⟨u,i,h⟩:=af h;obtain⟨g,h⟩|⟨g,h⟩:=aj h
   ·cases h;exact ZL (ZA c (ZA (jD i) g)) trivial
   ·cases h;exact ZL (ZA c (ZA (jD i) g)) trivial
 ·simp only[ZC,Jj];obtain⟨d,h⟩|⟨d,h⟩:=aj h
  ·cases h;exact ZL d @bq.eq_1
  ·obtain⟨m,p,h⟩:=af h;try refine ZF d ?_
   refine bj (o:=m) (bz de (aD (w_a a) p ?_)) (fun w hv=>?_) (fun x hv e τ hne hq=>?_)
   ·exact ZK (ZA @S_a.eq_1 @cq.eq_1)
   ·subst hv;simp only[] at h;simp only[ZC,cq,Jo];cases h;exact ZL d @bq.eq_1
   ·subst hv;simp only[] at h;obtain⟨rfl,q⟩:=hq;cases h;exact q
def HR(a:List ByteArray)(b:ByteArray)(v:Int):St:=⟨[(0,.lst .o 1 (a.map AV.z)),(1,.z b),(5,.i v)],[]⟩
theorem w_be(b:List ByteArray)(c:ByteArray)(g:Int)(o:Int⊕(Unit⊕Int))(h:BA b c g=some o):AWP (OkS Tryz.prog) wE (qL [0,1,5] [] (HR b c) (qS (qX 0 [] [] (cq)) (qR aN (fun r=>.i r))) o) (HR b c g):=by
 have e:=ZA @HR.eq_1 @cq.eq_1;unfold BA at h;simp only[ZC,HR,wE];obtain⟨a,h⟩|⟨a,h⟩:=aj h
 ·obtain⟨k,j,h⟩:=af h;obtain⟨d,h⟩|⟨d,h⟩:=aj h
  ·cases h;exact ZL (ZA a (ZA (aO j) d)) @aN.eq_1
  ·cases h;exact ZL (ZA a (ZA (aO j) d)) e
 ·cases h;exact ZL a e
theorem w_dq(a:List ByteArray)(b:ByteArray){r:Int}(h:Ku a b=some r):Ok Tryz.prog 195 [.lst .o 1 (a.map AV.z),.z b] (.i r):=by
 refine az ba m195 rfl ?_;unfold Ku at h;simp only[ZC,A195,aN,aJ];obtain⟨c,d,h⟩:=af h;try refine ZF trivial ?_
 refine bj (o:=c) (bz de (aD (w_be a b) d ?_)) (fun j hv=>?_) (fun k hv e τ hne hq=>?_)
 ·exact ZK (ZA @HR.eq_1 @cq.eq_1)
 ·subst hv;simp only[] at h;simp only[ZC,cq,GH];cases h;exact ZL trivial @aN.eq_1
 ·subst hv;simp only[] at h;obtain⟨rfl,g⟩:=hq;cases h;exact g
theorem w_dr(c:ax)(j:Int){r:Bool}(h:DN c j=some r):Ok Tryz.prog 196 [.agg [.i c.A,.i c.B,.i c.N,.i c.F],.i j] (.b r):=by
 have e:=@aN.eq_1;refine az ba m196 rfl ?_;unfold DN at h;simp only[ZC,A196,aN,aJ];obtain⟨q,k,h⟩:=af h;refine ZF trivial ?_;refine ZSG trivial (w_c _ _ _ k) ?_;obtain⟨a,h⟩|⟨a,h⟩:=aj h
 ·obtain⟨s,l,h⟩:=af h;refine ZF a ?_;refine ZSG a (w_c _ _ _ l) ?_;obtain⟨d,h⟩|⟨d,h⟩:=aj h
  ·obtain⟨t,m,h⟩:=af h;have f:=ZA a d;refine ZF f ?_;refine ZSG f (w_c _ _ _ m) ?_;obtain⟨g,h⟩|⟨g,h⟩:=aj h
   ·obtain⟨u,p,h⟩:=af h;have f:=ZA f g;refine ZF f ?_;refine ZSG f (w_c _ _ _ p) ?_;cases h;exact ZL f e
   ·cases h;exact ZL (ZA f g) e
  ·cases h;exact ZL (ZA a d) e
 ·cases h;exact ZL a e
theorem w_ds(a:ax)(b:ax){r:Int}(h:Ei a b=some r):Ok Tryz.prog 197 [.agg [.i a.A,.i a.B,.i a.N,.i a.F],.agg [.i b.A,.i b.B,.i b.N,.i b.F]] (.i r):=by
 have e:=@aN.eq_1;refine az ba m197 rfl ?_;unfold Ei at h;simp only[ZC,A197,aN,aJ];obtain⟨c,h⟩|⟨c,h⟩:=aj h
 ·cases h;exact ZL c e
 ·obtain⟨d,h⟩|⟨d,h⟩:=aj h
  ·cases h;exact ZL (ZA c d) e
  ·obtain⟨g,h⟩|⟨g,h⟩:=aj h
   ·cases h;exact ZL (ZA c (ZA d g)) e
   ·cases h;exact ZL (ZA c (ZA d g)) e
def S_d(a:ae)(v:Int):St:=⟨[(1,.pt 1 0 0),(3,.i v)],[(1,.var (.agg [.lst .o 1 (a.N.map AV.z),.lst .o 4 (a.F.map (ai .o))]))]⟩
def kX(a:ae)(v:Unit):St:=⟨[(1,.pt 1 0 0)],[(1,.var (.agg [.lst .o 1 (a.N.map AV.z),.lst .o 4 (a.F.map (ai .o))]))]⟩
theorem w_d(a:ae)(d:Int)(o:Int⊕(Unit⊕Bool))(h:M_d a d=some o):AWP (OkS Tryz.prog) wZ (qL [1,3] [1] (S_d a) (qS (qX 0 [1] [1] (kX a)) (qR bq (fun r=>.b r))) o) (S_d a d):=by
 have e:=ZA @S_d.eq_1 @kX.eq_1;unfold M_d at h;simp only[ZC,S_d,wZ];obtain⟨c,h⟩|⟨c,h⟩:=aj h
 ·obtain⟨k,l,h⟩:=af h;try refine ZF c ?_
  refine aG (sh:=(fun v=>⟨[(1,.pt 1 0 0),(3,.i d),(41,.b v)],[(1,.var (.agg [.lst .o 1 (a.N.map AV.z),.lst .o 4 (a.F.map (ai .o))]))]⟩)) (s:=k) ?_ ?_
  ·replace h:=l;obtain⟨t,m,h⟩:=af h;obtain⟨u,p,h⟩:=af h;have f:=ZA c (aO m);refine ZF f ?_;refine ZSG f (w_dp _ p) ?_;obtain⟨g,h⟩|⟨g,h⟩:=aj h
   ·cases h;exact ZL (ZA f g) trivial
   ·obtain⟨w,q,h⟩:=af h;have f:=ZA f g;refine ZF f ?_;refine ZSG f (w_dq _ _ q) ?_;cases h;exact ZL f trivial
  ·simp only[ZC,IL];obtain⟨j,h⟩|⟨j,h⟩:=aj h
   ·cases h;exact ZL (ZA c j) @bq.eq_1
   ·cases h;exact ZL (ZA c j) e
 ·cases h;exact ZL c e
def Ir(a:ae)(v:Int):St:=⟨[(1,.pt 1 0 0),(4,.i v)],[(1,.var (.agg [.lst .o 1 (a.N.map AV.z),.lst .o 4 (a.F.map (ai .o))]))]⟩
theorem w_bf(c:ae)(g:Int)(o:Int⊕(Unit⊕Bool))(h:Cc c g=some o):AWP (OkS Tryz.prog) vc (qL [1,4] [1] (Ir c) (qS (qX 2 [] [] (cq)) (qR bq (fun r=>.b r))) o) (Ir c g):=by
 have e:=ZA @Ir.eq_1 @cq.eq_1;unfold Cc at h;simp only[ZC,Ir,vc];obtain⟨a,h⟩|⟨a,h⟩:=aj h
 ·obtain⟨l,m,h⟩:=af h;try refine ZF a ?_
  refine aG (sh:=(fun v=>⟨[(1,.pt 1 0 0),(4,.i g),(77,.b v)],[(1,.var (.agg [.lst .o 1 (c.N.map AV.z),.lst .o 4 (c.F.map (ai .o))]))]⟩)) (s:=l) ?_ ?_
  ·replace h:=m;obtain⟨w,p,h⟩:=af h;obtain⟨x,q,h⟩:=af h;have f:=ZA a (aO p);refine ZF f ?_;refine ZSG f (w_dr _ _ q) ?_;obtain⟨d,h⟩|⟨d,h⟩:=aj h
   ·cases h;exact ZL (ZA f d) trivial
   ·obtain⟨j,h⟩|⟨j,h⟩:=aj h
    ·obtain⟨y,t,h⟩:=af h;obtain⟨a1,u,h⟩:=af h;have f:=ZA f (ZA d (ZA j (aO t)));refine ZF f ?_;refine ZSG f (w_ds _ _ u) ?_;cases h;exact ZL f trivial
    ·cases h;exact ZL (ZA f (ZA d j)) trivial
  ·simp only[ZC,CW];obtain⟨k,h⟩|⟨k,h⟩:=aj h
   ·cases h;exact ZL (ZA a k) @bq.eq_1
   ·cases h;exact ZL (ZA a k) e
 ·cases h;exact ZL a e
theorem w_dt(a:ae){r:Bool}(h:FB a=some r):Ok Tryz.prog 131 [.agg [.lst .o 1 (a.N.map AV.z),.lst .o 4 (a.F.map (ai .o))]] (.b r):=by
 refine az ba m131 rfl ?_;unfold FB at h;simp only[ZC,A131,bq,aJ];obtain⟨g,i,h⟩:=af h;try refine ZF trivial ?_
 refine aG (sh:=(fun v=>⟨[(1,.pt 1 0 0),(15,.b v)],[(1,.var (.agg [.lst .o 1 (a.N.map AV.z),.lst .o 4 (a.F.map (ai .o))]))]⟩)) (s:=g) ?_ ?_
 ·replace h:=i;obtain⟨u,j,h⟩:=af h;refine ZF trivial ?_;refine ZSG trivial (w_c _ _ _ j) ?_;obtain⟨d,h⟩|⟨d,h⟩:=aj h
  ·cases h;exact ZL d trivial
  ·cases h;exact ZL d trivial
 ·simp only[ZC,Gs];obtain⟨c,h⟩|⟨c,h⟩:=aj h
  ·cases h;exact ZL c @bq.eq_1
  ·obtain⟨k,l,h⟩:=af h;try refine ZF c ?_
   refine bj (o:=k) (bz de (aD (w_d a) l ?_)) (fun w hv=>?_) (fun x hv e τ hne hq=>?_)
   ·exact ZK (ZA @S_d.eq_1 @kX.eq_1)
   ·subst hv;simp only[] at h;simp only[ZC,kX,GP];obtain⟨m,p,h⟩:=af h;try refine ZF c ?_
    refine bj (o:=m) (bz de (aD (w_bf a) p ?_)) (fun y hv=>?_) (fun a1 hv e τ hne hq=>?_)
    ·exact ZK (ZA @Ir.eq_1 @cq.eq_1)
    ·subst hv;simp only[] at h;simp only[ZC,cq,HB];cases h;exact ZL c @bq.eq_1
    ·subst hv;simp only[] at h;obtain⟨rfl,q⟩:=hq;cases h;exact q
   ·subst hv;simp only[] at h;obtain⟨rfl,t⟩:=hq;cases h;exact t
def S_h(a:List au)(v:Int):St:=⟨[(0,.lst .o 2 (a.map (ay .o))),(3,.i v)],[]⟩
def ql(a:List au)(v:Unit):St:=⟨[(0,.lst .o 2 (a.map (ay .o)))],[]⟩
theorem w_h(a:List au)(g:Int)(o:Int⊕(Unit⊕Bool))(h:M_h a g=some o):AWP (OkS Tryz.prog) vR (qL [0,3] [] (S_h a) (qS (qX 0 [0] [] (ql a)) (qR bq (fun r=>.b r))) o) (S_h a g):=by
 have e:=ZA @S_h.eq_1 @ql.eq_1;unfold M_h at h;simp only[ZC,S_h,vR];obtain⟨t,u,h⟩:=af h;try refine ZF trivial ?_
 refine aG (sh:=(fun v=>⟨[(0,.lst .o 2 (a.map (ay .o))),(3,.i g),(11,.b v)],[]⟩)) (s:=t) ?_ ?_
 ·replace h:=u;obtain⟨k,h⟩|⟨k,h⟩:=aj h
  ·cases h;exact ZL k trivial
  ·cases h;exact ZL k trivial
 ·simp only[ZC,Fv];obtain⟨c,h⟩|⟨c,h⟩:=aj h
  ·obtain⟨w,x,h⟩:=af h;try refine ZF c ?_
   refine aG (sh:=(fun v=>⟨[(0,.lst .o 2 (a.map (ay .o))),(3,.i g),(61,.b v)],[]⟩)) (s:=w) ?_ ?_
   ·replace h:=x;obtain⟨b1,y,h⟩:=af h;obtain⟨c1,z,h⟩:=af h;have f:=ZA c (aO y);refine ZF f ?_;refine ZSG f (w_c _ _ _ z) ?_;obtain⟨l,h⟩|⟨l,h⟩:=aj h
    ·cases h;exact ZL (ZA f l) trivial
    ·obtain⟨d1,a1,h⟩:=af h;have f:=ZA f l;refine ZF f ?_;refine ZSG f (w_c _ _ _ a1) ?_;obtain⟨d,h⟩|⟨d,h⟩:=aj h
     ·cases h;exact ZL (ZA f d) trivial
     ·obtain⟨j,h⟩|⟨j,h⟩:=aj h
      ·obtain⟨g1,q,h⟩:=af h;obtain⟨m,h⟩|⟨m,h⟩:=aj h
       ·cases h;exact ZL (ZA f (ZA d (ZA j (ZA (aO q) m)))) trivial
       ·cases h;exact ZL (ZA f (ZA d (ZA j (ZA (aO q) m)))) trivial
      ·cases h;exact ZL (ZA f (ZA d j)) trivial
   ·simp only[ZC,Jg];obtain⟨p,h⟩|⟨p,h⟩:=aj h
    ·cases h;exact ZL (ZA c p) @bq.eq_1
    ·cases h;exact ZL (ZA c p) e
  ·cases h;exact ZL c e
theorem w_du(a:List au){r:Bool}(h:Kn a=some r):Ok Tryz.prog 182 [.lst .o 2 (a.map (ay .o))] (.b r):=by
 refine az ba m182 rfl ?_;unfold Kn at h;simp only[ZC,A182,bq,aJ];obtain⟨c,d,h⟩:=af h;try refine ZF trivial ?_
 refine bj (o:=c) (bz de (aD (w_h a) d ?_)) (fun j hv=>?_) (fun k hv e τ hne hq=>?_)
 ·exact ZK (ZA @S_h.eq_1 @ql.eq_1)
 ·subst hv;simp only[] at h;simp only[ZC,ql,CX];obtain⟨l,g,h⟩:=af h;refine ZF trivial ?_;refine ZSG trivial (w_c _ _ _ g) ?_;cases h;exact ZL trivial @bq.eq_1
 ·subst hv;simp only[] at h;obtain⟨rfl,i⟩:=hq;cases h;exact i
theorem w_dv(g:ae)(c:aI){r:Bool}(h:Ja g c=some r):Ok Tryz.prog 183 [.agg [.lst .o 1 (g.N.map AV.z),.lst .o 4 (g.F.map (ai .o))],.agg [.i c.N,.i c.L,.i c.F,.i c.P]] (.b r):=by
 have e:=@aN.eq_1;refine az ba m183 rfl ?_;unfold Ja at h;simp only[ZC,A183,aN,aJ];obtain⟨s,l,h⟩:=af h;refine ZF trivial ?_;refine ZSG trivial (w_c _ _ _ l) ?_;obtain⟨a,h⟩|⟨a,h⟩:=aj h
 ·obtain⟨t,m,h⟩:=af h;refine ZF a ?_;refine ZSG a (w_c _ _ _ m) ?_;obtain⟨d,h⟩|⟨d,h⟩:=aj h
  ·obtain⟨j,h⟩|⟨j,h⟩:=aj h
   ·obtain⟨u,p,h⟩:=af h;have f:=ZA a (ZA d j);refine ZF f ?_;refine ZSG f (w_c _ _ _ p) ?_;obtain⟨k,h⟩|⟨k,h⟩:=aj h
    ·obtain⟨v,q,h⟩:=af h;have f:=ZA f k;refine ZF f ?_;refine ZSG f (w_c _ _ _ q) ?_;cases h;exact ZL f e
    ·cases h;exact ZL (ZA f k) e
   ·cases h;exact ZL (ZA a (ZA d j)) e
  ·cases h;exact ZL (ZA a d) e
 ·cases h;exact ZL a e
def S_f(a:ae)(b:ah)(v:Int×Int):St:=⟨[(2,.pt 2 0 0),(3,.pt 3 0 0),(5,.i v.1),(6,.i v.2)],[(2,.var (.agg [.lst .o 1 (a.N.map AV.z),.lst .o 4 (a.F.map (ai .o))])),(3,.var (.agg [.i b.N,.lst .o 1 (b.F.map AV.i)]))]⟩
def nl(v:Int):St:=⟨[(5,.i v)],[]⟩
theorem w_f(a:ae)(b:ah)(d:Int×Int)(o:(Int×Int)⊕Int)(h:M_f a b d=some o):AWP (OkS Tryz.prog) Fo (qL [2,3,5,6] [2,3] (S_f a b) (qX 0 [5] [] (nl)) o) (S_f a b d):=by
 have e:=ZA @S_f.eq_1 @nl.eq_1;unfold M_f at h;simp only[ZC,S_f,Fo];obtain⟨c,h⟩|⟨c,h⟩:=aj h
 ·obtain⟨j,g,h⟩:=af h;obtain⟨k,i,h⟩:=af h;cases h;exact ZL (ZA c (ZA (aO g) (aO i))) e
 ·cases h;exact ZL c e
theorem QJ(a:ae)(b:ah){r:Int}(h:wW a b=some r):Ok Tryz.prog 91 [.agg [.lst .o 1 (a.N.map AV.z),.lst .o 4 (a.F.map (ai .o))],.agg [.i b.N,.lst .o 1 (b.F.map AV.i)]] (.i r):=by
 refine az ba m91 rfl ?_;unfold wW at h;simp only[ZC,A91,aN,aJ];obtain⟨d,c,h⟩:=af h;try refine ZF trivial ?_
 refine aG (bf (aD (w_f a b) c ?_)) ?_
 ·exact ZK (ZA @S_f.eq_1 @nl.eq_1)
 ·simp only[ZC,nl,OO];cases h;exact ZL trivial @aN.eq_1
theorem LW(c:Int){r:Int}(h:tx c=some r):Ok Tryz.prog 278 [.i c] (.i r):=by
 refine az ba m278 rfl ?_;unfold tx at h;simp only[ZC,A278,bq,aJ];obtain⟨a,h⟩|⟨a,h⟩:=aj h
 ·cases h;exact ZL a @bq.eq_1
 ·obtain⟨b,h⟩|⟨b,h⟩:=aj h
  ·cases h;exact ZL (ZA a b) @bq.eq_1
  ·cases h;exact ZL (ZA a b) @bq.eq_1
def Ej(a:ah)(b:ah)(v:Int):St:=⟨[(4,.pt 4 0 0),(5,.pt 5 0 0),(9,.i v)],[(4,.var (.agg [.i a.N,.lst .o 1 (a.F.map AV.i)])),(5,.var (.agg [.i b.N,.lst .o 1 (b.F.map AV.i)]))]⟩
def yg(a:ah)(b:ah)(v:Unit):St:=⟨[(4,.pt 4 0 0),(5,.pt 5 0 0)],[(4,.var (.agg [.i a.N,.lst .o 1 (a.F.map AV.i)])),(5,.var (.agg [.i b.N,.lst .o 1 (b.F.map AV.i)]))]⟩
theorem w_ab(a:ah)(b:ah)(g:Int)(o:Int⊕(Unit⊕Int))(h:AQ a b g=some o):AWP (OkS Tryz.prog) vP (qL [4,5,9] [4,5] (Ej a b) (qS (qX 0 [4,5] [4,5] (yg a b)) (qR cQ (fun r=>.i r))) o) (Ej a b g):=by
 have e:=ZA @Ej.eq_1 @yg.eq_1;unfold AQ at h;simp only[ZC,Ej,vP];obtain⟨c,h⟩|⟨c,h⟩:=aj h
 ·obtain⟨m,j,h⟩:=af h;obtain⟨p,k,h⟩:=af h;obtain⟨d,h⟩|⟨d,h⟩:=aj h
  ·obtain⟨q,l,h⟩:=af h;have f:=ZA c (ZA (aO j) (ZA (aO k) d));refine ZF f ?_;refine ZSG f (LW _ l) ?_;cases h;exact ZL f @cQ.eq_1
  ·cases h;exact ZL (ZA c (ZA (aO j) (ZA (aO k) d))) e
 ·cases h;exact ZL c e
theorem w_cj(d:ae)(b:ah)(c:ah){r:Int}(h:Ah d b c=some r):Ok Tryz.prog 274 [.agg [.lst .o 1 (d.N.map AV.z),.lst .o 4 (d.F.map (ai .o))],.agg [.i b.N,.lst .o 1 (b.F.map AV.i)],.agg [.i c.N,.lst .o 1 (c.F.map AV.i)]] (.i r):=by
 refine az ba m274 rfl ?_;unfold Ah at h;simp only[ZC,A274,cQ,aJ];obtain⟨u,j,h⟩:=af h;refine ZF trivial ?_;refine ZSG trivial (QJ _ _ j) ?_;obtain⟨v,k,h⟩:=af h;refine ZF trivial ?_;refine ZSG trivial (QJ _ _ k) ?_;obtain⟨a,h⟩|⟨a,h⟩:=aj h
 ·obtain⟨w,l,h⟩:=af h;refine ZF a ?_;refine ZSG a (LW _ l) ?_;cases h;exact ZL a @cQ.eq_1
 ·obtain⟨g,h⟩|⟨g,h⟩:=aj h
  ·obtain⟨x,m,h⟩:=af h;have f:=ZA a g;refine ZF f ?_;refine ZSG f (LW _ m) ?_;cases h;exact ZL f @cQ.eq_1
  ·obtain⟨p,q,h⟩:=af h;have f:=ZA a g;try refine ZF f ?_
   refine bj (o:=p) (bz de (aD (w_ab b c) q ?_)) (fun y hv=>?_) (fun a1 hv e τ hne hq=>?_)
   ·exact ZK (ZA @Ej.eq_1 @yg.eq_1)
   ·subst hv;simp only[] at h;simp only[ZC,yg,DF];obtain⟨b1,s,h⟩:=af h;refine ZF f ?_;refine ZSG f (LW _ s) ?_;cases h;exact ZL f @cQ.eq_1
   ·subst hv;simp only[] at h;obtain⟨rfl,t⟩:=hq;cases h;exact t
theorem w_ci(b:ae)(g:Int)(j:Int){r:Int}(h:Ci b g j=some r):Ok Tryz.prog 233 [.agg [.lst .o 1 (b.N.map AV.z),.lst .o 4 (b.F.map (ai .o))],.i g,.i j] (.i r):=by
 refine az ba m233 rfl ?_;unfold Ci at h;simp only[ZC,A233,cQ,aJ];obtain⟨k,c,h⟩:=af h;obtain⟨a,h⟩|⟨a,h⟩:=aj h
 ·cases h;exact ZL (ZA (aO c) a) @cQ.eq_1
 ·obtain⟨d,h⟩|⟨d,h⟩:=aj h
  ·cases h;exact ZL (ZA (aO c) (ZA a d)) @cQ.eq_1
  ·cases h;exact ZL (ZA (aO c) (ZA a d)) @cQ.eq_1
def JI(a:List Int)(b:Int)(v:Int):St:=⟨[(0,.lst .o 1 (a.map AV.i)),(1,.i b),(5,.i v)],[]⟩
theorem w_bc(c:List Int)(d:Int)(i:Int)(o:Int⊕(Unit⊕Bool))(h:Bh c d i=some o):AWP (OkS Tryz.prog) Ew (qL [0,1,5] [] (JI c d) (qS (qX 0 [] [] (cq)) (qR aN (fun r=>.b r))) o) (JI c d i):=by
 have e:=ZA @JI.eq_1 @cq.eq_1;unfold Bh at h;simp only[ZC,JI,Ew];obtain⟨a,h⟩|⟨a,h⟩:=aj h
 ·obtain⟨k,j,h⟩:=af h;obtain⟨g,h⟩|⟨g,h⟩:=aj h
  ·cases h;exact ZL (ZA a (ZA (aO j) g)) @aN.eq_1
  ·cases h;exact ZL (ZA a (ZA (aO j) g)) e
 ·cases h;exact ZL a e
theorem Qe(a:List Int)(c:Int){r:Bool}(h:xf a c=some r):Ok Tryz.prog 74 [.lst .o 1 (a.map AV.i),.i c] (.b r):=by
 refine az ba m74 rfl ?_;unfold xf at h;simp only[ZC,A74,aN,aJ];obtain⟨d,g,h⟩:=af h;try refine ZF trivial ?_
 refine bj (o:=d) (bz de (aD (w_bc a c) g ?_)) (fun k hv=>?_) (fun l hv e τ hne hq=>?_)
 ·exact ZK (ZA @JI.eq_1 @cq.eq_1)
 ·subst hv;simp only[] at h;simp only[ZC,cq,Oz];cases h;exact ZL trivial @aN.eq_1
 ·subst hv;simp only[] at h;obtain⟨rfl,j⟩:=hq;cases h;exact j
theorem Kx(a:List Int){r:List Int}(h:qx a=some r):Ok Tryz.prog 107 [.lst .o 1 (a.map AV.i)] (.lst .u 1 (r.map AV.i)):=by
 refine az ba m107 rfl ?_;unfold qx at h;simp only[ZC,A107,bq,aJ];obtain⟨c,b,h⟩:=af h;cases h;exact ZL (aZ b) @bq.eq_1
def Kg(a:List au)(b:Int)(v:Int×Int):St:=⟨[(0,.lst .o 2 (a.map (ay .o))),(1,.i b),(5,.i v.1),(6,.i v.2)],[]⟩
theorem w_bv(b:List au)(c:Int)(g:Int×Int)(o:(Int×Int)⊕Int)(h:JK b c g=some o):AWP (OkS Tryz.prog) vx (qL [0,1,5,6] [] (Kg b c) (qX 0 [5] [] (nl)) o) (Kg b c g):=by
 have e:=ZA @Kg.eq_1 @nl.eq_1;unfold JK at h;simp only[ZC,Kg,vx];obtain⟨a,h⟩|⟨a,h⟩:=aj h
 ·obtain⟨j,i,h⟩:=af h;obtain⟨d,h⟩|⟨d,h⟩:=aj h
  ·cases h;exact ZL (ZA a (ZA (aO i) d)) e
  ·cases h;exact ZL (ZA a (ZA (aO i) d)) e
 ·cases h;exact ZL a e
theorem w_dw(a:List au)(b:Int){r:Int}(h:En a b=some r):Ok Tryz.prog 165 [.lst .o 2 (a.map (ay .o)),.i b] (.i r):=by
 refine az ba m165 rfl ?_;unfold En at h;simp only[ZC,A165,aN,aJ];obtain⟨d,c,h⟩:=af h;try refine ZF trivial ?_
 refine aG (bf (aD (w_bv a b) c ?_)) ?_
 ·exact ZK (ZA @Kg.eq_1 @nl.eq_1)
 ·simp only[ZC,nl,Dm];cases h;exact ZL trivial @aN.eq_1
theorem w_dx(c:List au)(d:Int)(g:Int){r:Int}(h:Ev c d g=some r):Ok Tryz.prog 90 [.lst .o 2 (c.map (ay .o)),.i d,.i g] (.i r):=by
 refine az ba m90 rfl ?_;unfold Ev at h;simp only[ZC,A90,cQ,aJ];obtain⟨m,l,h⟩:=af h;refine ZF trivial ?_;refine ZSG trivial (w_dw _ _ l) ?_;obtain⟨a,h⟩|⟨a,h⟩:=aj h
 ·cases h;exact ZL a @cQ.eq_1
 ·obtain⟨p,j,h⟩:=af h;obtain⟨q,k,h⟩:=af h;obtain⟨b,h⟩|⟨b,h⟩:=aj h
  ·cases h;exact ZL (ZA a (ZA (aO j) (ZA (aZ k) b))) @cQ.eq_1
  ·cases h;exact ZL (ZA a (ZA (aO j) (ZA (aZ k) b))) @cQ.eq_1
def S_g(a:ae)(b:Int)(v:Int×List Int):St:=⟨[(1,.i b),(2,.pt 2 0 0),(5,.sl 5 0 v.2.length),(6,.i v.1)],[(2,.var (.agg [.lst .o 1 (a.N.map AV.z),.lst .o 4 (a.F.map (ai .o))])),(5,.arr 1 (v.2.map AV.i))]⟩
def ng(v:List Int):St:=⟨[(5,.sl 5 0 v.length)],[(5,.arr 1 (v.map AV.i))]⟩
theorem w_g(d:ae)(g:Int)(a:Int×List Int)(o:(Int×List Int)⊕(List Int))(h:M_g d g a=some o):AWP (OkS Tryz.prog) vu (qL [1,2,5,6] [2,5] (S_g d g) (qX 0 [5] [5] (ng)) o) (S_g d g a):=by
 have e:=ZA @S_g.eq_1 @ng.eq_1;unfold M_g at h;simp only[ZC,S_g,vu];obtain⟨b,h⟩|⟨b,h⟩:=aj h
 ·obtain⟨y,m,h⟩:=af h;obtain⟨z,p,h⟩:=af h;obtain⟨j,h⟩|⟨j,h⟩:=aj h
  ·obtain⟨k,c,h⟩:=bh h;have v:Row.arr 1 [(.i a.1:AV)]=Row.arr 1 (k.map AV.i):=by rw[<-c];rfl
   have q:k.length=1:=by rw[<-c];rfl
   obtain⟨a1,w,h⟩:=af h;have s:=aZ w;obtain⟨t,l,h⟩:=bh h;have x:a.2.map AV.i++k.map AV.i=t.map AV.i:=by rw[<-l,List.map_append]
   have u:a.2.length+1=t.length:=by simp[<-c,<-l]<;>omega
   rw[u] at s;cases h;exact ZL (ZA b (ZA (aO m) (ZA (aO p) (ZA j (ZA v (ZA q (ZA s (ZA x u)))))))) (ZA e (ZA c.symm (ZA l.symm q)))
  ·cases h;exact ZL (ZA b (ZA (aO m) (ZA (aO p) j))) e
 ·cases h;exact ZL b e
theorem w_ck(a:ae)(b:Int){r:List Int}(h:wq a b=some r):Ok Tryz.prog 192 [.agg [.lst .o 1 (a.N.map AV.z),.lst .o 4 (a.F.map (ai .o))],.i b] (.lst .u 1 (r.map AV.i)):=by
 refine az ba m192 rfl ?_;unfold wq at h;simp only[ZC,A192,aN,aJ];obtain⟨q,j,h⟩:=af h;obtain⟨g,h⟩|⟨g,h⟩:=aj h
 ·obtain⟨c,d,h⟩:=bh h;have l:Row.arr 1 [(.i b:AV)]=Row.arr 1 (c.map AV.i):=by rw[<-d];rfl
  have k:c.length=1:=by rw[<-d];rfl
  have m:sub (c.map AV.i) 0 1=c.map AV.i:=kE _ (by simp[<-d]);cases h;exact ZL (ZA (aO j) (ZA g (ZA l (ZA k m)))) (ZA @aN.eq_1 (ZA d.symm k))
 ·obtain⟨s,p,h⟩:=af h;have f:=ZA (aO j) g;try refine ZF f ?_
  refine aG (bf (aD (w_g a b) p ?_)) ?_
  ·exact ZK (ZA @S_g.eq_1 @ng.eq_1)
  ·simp only[ZC,ng,Ix];cases h;exact ZL f @aN.eq_1
def S_p(a:ae)(b:ah)(c:ah)(g:Int)(d:List Int)(v:Int):St:=⟨[(3,.pt 3 0 0),(4,.pt 4 0 0),(5,.pt 5 0 0),(7,.i g),(8,.sl 8 0 d.length),(9,.i v)],[(3,.var (.agg [.lst .o 1 (a.N.map AV.z),.lst .o 4 (a.F.map (ai .o))])),(4,.var (.agg [.i b.N,.lst .o 1 (b.F.map AV.i)])),(5,.var (.agg [.i c.N,.lst .o 1 (c.F.map AV.i)])),(8,.arr 1 (d.map AV.i))]⟩
def MR(a:ae)(b:ah)(c:ah)(d:Int)(v:Unit):St:=⟨[(3,.pt 3 0 0),(4,.pt 4 0 0),(5,.pt 5 0 0),(7,.i d)],[(3,.var (.agg [.lst .o 1 (a.N.map AV.z),.lst .o 4 (a.F.map (ai .o))])),(4,.var (.agg [.i b.N,.lst .o 1 (b.F.map AV.i)])),(5,.var (.agg [.i c.N,.lst .o 1 (c.F.map AV.i)]))]⟩
theorem w_p(c:ae)(d:ah)(a:ah)(g:Int)(i:List Int)(l:Int)(o:Int⊕(Unit⊕Bool))(h:M_p a i l=some o):AWP (OkS Tryz.prog) vr (qL [3,4,5,7,8,9] [3,4,5,8] (S_p c d a g i) (qS (qX 2 [3,4,5,7] [3,4,5] (MR c d a g)) (qR cQ (fun r=>.b r))) o) (S_p c d a g i l):=by
 have e:=ZA @S_p.eq_1 @MR.eq_1;unfold M_p at h;simp only[ZC,S_p,vr];obtain⟨j,h⟩|⟨j,h⟩:=aj h
 ·obtain⟨q,m,h⟩:=af h;obtain⟨s,p,h⟩:=af h;have f:=ZA j (aO m);refine ZF f ?_;refine ZSG f (Qe _ _ p) ?_;obtain⟨k,h⟩|⟨k,h⟩:=aj h
  ·cases h;exact ZL (ZA f k) @cQ.eq_1
  ·cases h;exact ZL (ZA f k) e
 ·cases h;exact ZL j e
def Iq(a:ae)(b:ah)(c:ah)(v:Int):St:=⟨[(3,.pt 3 0 0),(4,.pt 4 0 0),(5,.pt 5 0 0),(7,.i v)],[(3,.var (.agg [.lst .o 1 (a.N.map AV.z),.lst .o 4 (a.F.map (ai .o))])),(4,.var (.agg [.i b.N,.lst .o 1 (b.F.map AV.i)])),(5,.var (.agg [.i c.N,.lst .o 1 (c.F.map AV.i)]))]⟩
theorem w_bg(a:ae)(c:ah)(d:ah)(g:Int)(o:Int⊕(Unit⊕Bool))(h:zG a c d g=some o):AWP (OkS Tryz.prog) xD (qL [3,4,5,7] [3,4,5] (Iq a c d) (qS (qX 0 [] [] (cq)) (qR cQ (fun r=>.b r))) o) (Iq a c d g):=by
 have e:=ZA @Iq.eq_1 @cq.eq_1;unfold zG at h;simp only[ZC,Iq,xD];obtain⟨j,h⟩|⟨j,h⟩:=aj h
 ·obtain⟨u,w,h⟩:=af h;try refine ZF j ?_
  refine bj (sh:=(fun v=>⟨[(3,.pt 3 0 0),(4,.pt 4 0 0),(5,.pt 5 0 0),(7,.i g)],[(3,.var (.agg [.lst .o 1 (a.N.map AV.z),.lst .o 4 (a.F.map (ai .o))])),(4,.var (.agg [.i c.N,.lst .o 1 (c.F.map AV.i)])),(5,.var (.agg [.i d.N,.lst .o 1 (d.F.map AV.i)]))]⟩)) (q:=(qR cQ (fun r=>.b r))) (o:=u) ?_ (fun c1 hv=>?_) (fun d1 hv e τ hne hq=>?_)
  ·replace h:=w;obtain⟨g1,x,h⟩:=af h;obtain⟨k,y,h⟩:=af h;have f:=ZA j (aO x);refine ZF f ?_;refine ZUG f (w_ck _ _ y) ?_;obtain⟨l,m,h⟩:=af h;try refine ZF f ?_
   first|refine mg (o:=l) (bz de (aD (w_p a c d g k) m ?_)) (fun a1 hv τ p=>?_) (fun b1 hv e τ hne hq=>?_)|refine tC (o:=l) de (aD (w_p a c d g k) m ?_) (fun a1 hv τ p=>?_) (fun b1 hv e τ hne hq=>?_)
   ·exact ZK (ZA @S_p.eq_1 @MR.eq_1)
   ·subst hv;simp only[] at h;cases h;try refine ZF trivial ?_
    refine⟨rfl,Shp.sub p (by decide) (by decide) ?_⟩;exact ZK @MR.eq_1
   ·subst hv;simp only[] at h;obtain⟨rfl,s⟩:=hq;cases h;try refine ZF trivial ?_
    first|exact⟨by simp,s⟩|exact⟨by simp,rfl,s⟩
  ·subst hv;simp only[] at h;simp only[ZC,JS];cases h;exact ZL j e
  ·subst hv;simp only[] at h;obtain⟨rfl,t⟩:=hq;cases h;try refine ZF trivial ?_
   first|exact⟨by simp,t⟩|exact⟨by simp,rfl,t⟩
 ·cases h;exact ZL j e
theorem w_cl(a:ae)(c:ah)(d:ah){r:Bool}(h:Bc a c d=some r):Ok Tryz.prog 185 [.agg [.lst .o 1 (a.N.map AV.z),.lst .o 4 (a.F.map (ai .o))],.agg [.i c.N,.lst .o 1 (c.F.map AV.i)],.agg [.i d.N,.lst .o 1 (d.F.map AV.i)]] (.b r):=by
 refine az ba m185 rfl ?_;unfold Bc at h;simp only[ZC,A185,cQ,aJ];obtain⟨g,j,h⟩:=af h;try refine ZF trivial ?_
 refine bj (o:=g) (bz de (aD (w_bg a c d) j ?_)) (fun l hv=>?_) (fun m hv e τ hne hq=>?_)
 ·exact ZK (ZA @Iq.eq_1 @cq.eq_1)
 ·subst hv;simp only[] at h;simp only[ZC,cq,GZ];cases h;exact ZL trivial @cQ.eq_1
 ·subst hv;simp only[] at h;obtain⟨rfl,k⟩:=hq;cases h;exact k
def S_q(a:ae)(b:List ah)(c:List Int)(d:Int×Int×Int×Int)(v:Int×Int×Int×Int):St:=⟨[(1,.lst .o 2 (b.map (aw .o))),(2,.lst .o 1 (c.map AV.i)),(3,.pt 3 0 0),(8,.i v.1),(9,.i v.2.1),(10,.i v.2.2.1),(11,.i d.2.2.2),(12,.i v.2.2.2)],[(3,.var (.agg [.lst .o 1 (a.N.map AV.z),.lst .o 4 (a.F.map (ai .o))]))]⟩
def KH(a:ae)(b:List ah)(c:List Int)(d:Int×Int×Int×Int)(v:Int×Int×Int):St:=⟨[(1,.lst .o 2 (b.map (aw .o))),(2,.lst .o 1 (c.map AV.i)),(3,.pt 3 0 0),(8,.i v.1),(9,.i v.2.1),(10,.i v.2.2),(11,.i d.2.2.2)],[(3,.var (.agg [.lst .o 1 (a.N.map AV.z),.lst .o 4 (a.F.map (ai .o))]))]⟩
theorem w_q(c:ae)(d:List ah)(g:List Int)(j:Int×Int×Int×Int)(a:Int×Int×Int×Int)(o:(Int×Int×Int×Int)⊕(Int×Int×Int))(h:M_q c d g j a=some o):AWP (OkS Tryz.prog) vK (qL [1,2,3,8,9,10,11,12] [3] (S_q c d g j) (qX 2 [1,2,3,8,9,10,11] [3] (KH c d g j)) o) (S_q c d g j a):=by
 have e:=ZA @S_q.eq_1 @KH.eq_1;unfold M_q at h;simp only[ZC,S_q,vK];obtain⟨p,h⟩|⟨p,h⟩:=aj h
 ·obtain⟨x,c1,h⟩:=af h;obtain⟨y,d1,h⟩:=af h;obtain⟨a1,g1,h⟩:=af h;obtain⟨b1,i1,h⟩:=af h;obtain⟨j1,k1,h⟩:=af h;have f:=ZA p (ZA (aO c1) (ZA (aO d1) (ZA (aO g1) (aO i1))));try refine ZF f ?_
  refine aG (sh:=(fun v=>⟨[(1,.lst .o 2 (d.map (aw .o))),(2,.lst .o 1 (g.map AV.i)),(3,.pt 3 0 0),(8,.i a.1),(9,.i a.2.1),(10,.i a.2.2.1),(11,.i j.2.2.2),(12,.i a.2.2.2),(13,.i (IntKind.wrap .i64 (x*(y.F.length:Int)))),(14,.i (IntKind.wrap .i64 (a1*(b1.F.length:Int)))),(79,.b v)],[(3,.var (.agg [.lst .o 1 (c.N.map AV.z),.lst .o 4 (c.F.map (ai .o))]))]⟩)) (s:=j1) ?_ ?_
  ·replace h:=k1;obtain⟨k,h⟩|⟨k,h⟩:=aj h
   ·cases h;exact ZL (ZA f k) trivial
   ·obtain⟨l,h⟩|⟨l,h⟩:=aj h
    ·cases h;exact ZL (ZA f (ZA k l)) trivial
    ·obtain⟨m,h⟩|⟨m,h⟩:=aj h
     ·obtain⟨q,h⟩|⟨q,h⟩:=aj h
      ·cases h;exact ZL (ZA f (ZA k (ZA l (ZA m q)))) trivial
      ·obtain⟨s1,l1,h⟩:=af h;have f:=ZA f (ZA k (ZA l (ZA m q)));refine ZF f ?_;refine ZSG f (w_cl _ _ _ l1) ?_;cases h;exact ZL f trivial
     ·obtain⟨t1,m1,h⟩:=af h;have f:=ZA f (ZA k (ZA l m));refine ZF f ?_;refine ZSG f (w_cl _ _ _ m1) ?_;cases h;exact ZL f trivial
  ·simp only[ZC,Gu];obtain⟨t,h⟩|⟨t,h⟩:=aj h
   ·cases h;exact ZL (ZA f t) e
   ·obtain⟨p1,q1,h⟩:=af h;have f:=ZA f t;try refine ZF f ?_
    refine aG (sh:=(fun v=>⟨[(1,.lst .o 2 (d.map (aw .o))),(2,.lst .o 1 (g.map AV.i)),(3,.pt 3 0 0),(8,.i a.1),(9,.i a.2.1),(10,.i a.2.2.1),(11,.i j.2.2.2),(12,.i a.2.2.2),(13,.i (IntKind.wrap .i64 (x*(y.F.length:Int)))),(14,.i (IntKind.wrap .i64 (a1*(b1.F.length:Int)))),(88,.b v)],[(3,.var (.agg [.lst .o 1 (c.N.map AV.z),.lst .o 4 (c.F.map (ai .o))]))]⟩)) (s:=p1) ?_ ?_
    ·replace h:=q1;obtain⟨u,h⟩|⟨u,h⟩:=aj h
     ·cases h;exact ZL (ZA f u) trivial
     ·cases h;exact ZL (ZA f u) trivial
    ·simp only[ZC,GB];obtain⟨w,h⟩|⟨w,h⟩:=aj h
     ·cases h;exact ZL (ZA f w) e
     ·cases h;exact ZL (ZA f w) e
 ·cases h;exact ZL p e
def GY(a:ae)(b:List ah)(c:List Int)(v:Int×Int×Int×Int):St:=⟨[(1,.lst .o 2 (b.map (aw .o))),(2,.lst .o 1 (c.map AV.i)),(3,.pt 3 0 0),(8,.i v.1),(9,.i v.2.1),(10,.i v.2.2.1),(11,.i v.2.2.2)],[(3,.var (.agg [.lst .o 1 (a.N.map AV.z),.lst .o 4 (a.F.map (ai .o))]))]⟩
def yZ(v:Int×Int):St:=⟨[(8,.i v.1),(9,.i v.2)],[]⟩
theorem w_an(a:ae)(b:List ah)(c:List Int)(d:Int×Int×Int×Int)(o:(Int×Int×Int×Int)⊕(Int×Int))(h:FG a b c d=some o):AWP (OkS Tryz.prog) wm (qL [1,2,3,8,9,10,11] [3] (GY a b c) (qX 0 [8,9] [] (yZ)) o) (GY a b c d):=by
 have e:=ZA @GY.eq_1 @yZ.eq_1;unfold FG at h;simp only[ZC,GY,wm];obtain⟨g,h⟩|⟨g,h⟩:=aj h
 ·obtain⟨l,m,h⟩:=af h;try refine ZF g ?_
  refine aG (sh:=(fun v=>⟨[(1,.lst .o 2 (b.map (aw .o))),(2,.lst .o 1 (c.map AV.i)),(3,.pt 3 0 0),(8,.i v.1),(9,.i v.2.1),(10,.i v.2.2),(11,.i d.2.2.2)],[(3,.var (.agg [.lst .o 1 (a.N.map AV.z),.lst .o 4 (a.F.map (ai .o))]))]⟩)) (s:=l) ?_ ?_
  ·replace h:=m;obtain⟨p,j,h⟩:=af h;try refine ZF g ?_
   first|refine dv (bf (aD (w_q a b c d) j ?_)) (fun τ k=>?_)|refine eJ (aD (w_q a b c d) j ?_) (fun τ k=>?_)
   ·exact ZK (ZA @S_q.eq_1 @KH.eq_1)
   ·cases h;try refine ZF trivial ?_
    refine⟨rfl,Shp.sub k (by decide) (by decide) ?_⟩;exact ZK @KH.eq_1
  ·simp only[ZC,Ds];cases h;exact ZL g e
 ·cases h;exact ZL g e
theorem w_dy(a:ae)(b:List ah)(c:List Int){r:Int×Int}(h:Dw a b c=some r):Ok Tryz.prog 122 [.agg [.lst .o 1 (a.N.map AV.z),.lst .o 4 (a.F.map (ai .o))],.lst .o 2 (b.map (aw .o)),.lst .o 1 (c.map AV.i)] (.tup [.i r.1,.i r.2]):=by
 refine az ba m122 rfl ?_;unfold Dw at h;simp only[ZC,A122,hM,aJ];obtain⟨g,d,h⟩:=af h;try refine ZF trivial ?_
 refine aG (bf (aD (w_an a b c) d ?_)) ?_
 ·exact ZK (ZA @GY.eq_1 @yZ.eq_1)
 ·simp only[ZC,yZ,Ez];cases h;exact ZL trivial @hM.eq_1
def sf(a:ah)(c:List ByteArray)(d:List ax)(g:Int)(b:List ah)(v:Int):St:=⟨[(0,.pt 1000000000 0 0),(3,.pt 3 0 0),(4,.i v)],[(3,.var (.agg [.i ((a).N),.lst .m 1 (((a).F).map AV.i)])),(1000000000,.var (.agg [.lst .m 1 (c.map AV.z),.lst .m 4 (d.map (ai .m)),.i g,.sl 1000000001 0 b.length])),(1000000001,.arr 2 (b.map (aw .u)))]⟩
theorem w_ax(a:ah)(b:List ByteArray)(c:List ax)(g:Int)(d:List ah)(k:Int)(o:Int⊕Int)(h:PE a b c d k=some o):AWP (OkS Tryz.prog) pQ (qL [0,3,4] [3,1000000000,1000000001] (sf a b c g d) (qX 0 [0,3,4] [3,1000000000,1000000001] (sf a b c g d)) o) (sf a b c g d k):=by
 have e:=ZA @sf.eq_1 @sf.eq_1;unfold PE at h;simp only[ZC,sf,pQ];obtain⟨i,h⟩|⟨i,h⟩:=aj h
 ·obtain⟨q,l,h⟩:=af h;obtain⟨s,m,h⟩:=af h;obtain⟨t,p,h⟩:=af h;have f:=ZA i (ZA (aZ l) m);refine ZF f ?_;refine ZSG f (w_cj _ _ _ p) ?_;obtain⟨j,h⟩|⟨j,h⟩:=aj h
  ·cases h;exact ZL (ZA f j) e
  ·cases h;exact ZL (ZA f j) e
 ·cases h;exact ZL i e
theorem w_fq(b:ah)(j:List ByteArray)(k:List ax)(l:Int)(a:List ah){r:List ByteArray×List ax×Int×List ah×List ah}(h:Pw b j k l a=some r):OkM Tryz.prog 261 [.pt 1000000000 0 0,.agg [.i ((b).N),.lst .m 1 (((b).F).map AV.i)]] [(1000000000,.var (.agg [.lst .m 1 (j.map AV.z),.lst .m 4 (k.map (ai .m)),.i l,.sl 1000000001 0 a.length])),(1000000001,.arr 2 (a.map (aw .u)))] (.tup []) ([(49,.arr 2 (r.2.2.2.1.map (aw .m))),(1000000000,.var (.agg [.lst .m 1 (r.1.map AV.z),.lst .m 4 (r.2.1.map (ai .m)),.i r.2.2.1,.sl 49 0 r.2.2.2.1.length])),(1000000001,.arr 2 (r.2.2.2.2.map (aw .u)))]):=by
 refine bw (lr:=[49,1000000000,1000000001]) ba PN rfl rfl ?_;unfold Pw at h;simp only[ZC,DJ,bW];obtain⟨p,d1,h⟩:=af h;try refine ZF trivial ?_
 refine aG (bf (aD (w_ax b j k l a) d1 ?_)) ?_
 ·exact ZK (ZA @sf.eq_1 @sf.eq_1)
 ·simp only[ZC,sf,uo];obtain⟨w1,g1,h⟩:=af h;obtain⟨q,i1,h⟩:=bh h;have j1:sub (a.map (aw .u)) 0 (Int.toNat p)=q.map (aw .u):=by rw[eX,i1]
  obtain⟨y1,k1,h⟩:=af h;obtain⟨s,c,h⟩:=bh h;have l1:Row.arr 2 [(.agg [.i ((b).N),.lst .m 1 (((b).F).map AV.i)]:AV)]=Row.arr 2 (s.map (aw .m)):=by rw[<-c];rfl
  have w:s.length=1:=by rw[<-c];rfl
  obtain⟨z1,m1,h⟩:=af h;have x:=aZ m1;obtain⟨d,g,h⟩:=bh h;have p1:q.map (aw .m)++s.map (aw .m)=d.map (aw .m):=by rw[<-g,List.map_append]
  have y:q.length+1=d.length:=by simp[<-c,<-g]<;>omega
  rw[y] at x;obtain⟨a2,q1,h⟩:=af h;obtain⟨t,s1,h⟩:=bh h;have t1:sub (a.map (aw .u)) (Int.toNat p) (a.length-(Int.toNat p))=t.map (aw .u):=by rw[eX,s1]
  obtain⟨b2,u1,h⟩:=af h;have a1:=aZ u1;obtain⟨b1,v,h⟩:=bh h;have v1:d.map (aw .m)++t.map (aw .m)=b1.map (aw .m):=by rw[<-v,List.map_append]
  have c1:d.length+t.length=b1.length:=by simp[<-c,<-g,<-v]<;>omega
  rw[c1] at a1;cases h;exact ZL (ZA (aZ g1) (ZA j1 (ZA (aZ k1) (ZA l1 (ZA w (ZA x (ZA p1 (ZA y (ZA (aZ q1) (ZA t1 (ZA a1 (ZA v1 c1)))))))))))) (ZA @bW.eq_1 (ZA c.symm (ZA g.symm (ZA v.symm w))))
def sm(a:ah)(c:List ByteArray)(d:List ax)(g:Int)(b:List ah)(v:Int):St:=⟨[(0,.pt 1000000000 0 0),(3,.pt 3 0 0),(4,.i v)],[(3,.var (.agg [.i ((a).N),.lst .m 1 (((a).F).map AV.i)])),(1000000000,.var (.agg [.lst .m 1 (c.map AV.z),.lst .m 4 (d.map (ai .m)),.i g,.sl 1000000001 0 b.length])),(1000000001,.arr 2 (b.map (aw .m)))]⟩
theorem w_ao(a:ah)(b:List ByteArray)(c:List ax)(g:Int)(d:List ah)(k:Int)(o:Int⊕Int)(h:Bu a b c d k=some o):AWP (OkS Tryz.prog) oo (qL [0,3,4] [3,1000000000,1000000001] (sm a b c g d) (qX 0 [0,3,4] [3,1000000000,1000000001] (sm a b c g d)) o) (sm a b c g d k):=by
 have e:=ZA @sm.eq_1 @sm.eq_1;unfold Bu at h;simp only[ZC,sm,oo];obtain⟨i,h⟩|⟨i,h⟩:=aj h
 ·obtain⟨q,l,h⟩:=af h;obtain⟨s,m,h⟩:=af h;obtain⟨t,p,h⟩:=af h;have f:=ZA i (ZA (aZ l) m);refine ZF f ?_;refine ZSG f (w_cj _ _ _ p) ?_;obtain⟨j,h⟩|⟨j,h⟩:=aj h
  ·cases h;exact ZL (ZA f j) e
  ·cases h;exact ZL (ZA f j) e
 ·cases h;exact ZL i e
theorem w_dz(b:ah)(j:List ByteArray)(k:List ax)(l:Int)(a:List ah){r:List ByteArray×List ax×Int×List ah×List ah}(h:Fd b j k l a=some r):OkM Tryz.prog 261 [.pt 1000000000 0 0,.agg [.i ((b).N),.lst .m 1 (((b).F).map AV.i)]] [(1000000000,.var (.agg [.lst .m 1 (j.map AV.z),.lst .m 4 (k.map (ai .m)),.i l,.sl 1000000001 0 a.length])),(1000000001,.arr 2 (a.map (aw .m)))] (.tup []) ([(49,.arr 2 (r.2.2.2.1.map (aw .m))),(1000000000,.var (.agg [.lst .m 1 (r.1.map AV.z),.lst .m 4 (r.2.1.map (ai .m)),.i r.2.2.1,.sl 49 0 r.2.2.2.1.length])),(1000000001,.arr 2 (r.2.2.2.2.map (aw .m)))]):=by
 refine bw (lr:=[49,1000000000,1000000001]) ba QS rfl rfl ?_;unfold Fd at h;simp only[ZC,Fc,bW];obtain⟨p,c1,h⟩:=af h;try refine ZF trivial ?_
 refine aG (bf (aD (w_ao b j k l a) c1 ?_)) ?_
 ·exact ZK (ZA @sm.eq_1 @sm.eq_1)
 ·simp only[ZC,sm,tu];obtain⟨v1,d1,h⟩:=af h;obtain⟨q,g1,h⟩:=bh h;have i1:sub (a.map (aw .m)) 0 (Int.toNat p)=q.map (aw .m):=by rw[eX,g1]
  obtain⟨w1,j1,h⟩:=af h;obtain⟨s,c,h⟩:=bh h;have k1:Row.arr 2 [(.agg [.i ((b).N),.lst .m 1 (((b).F).map AV.i)]:AV)]=Row.arr 2 (s.map (aw .m)):=by rw[<-c];rfl
  have v:s.length=1:=by rw[<-c];rfl
  obtain⟨y1,l1,h⟩:=af h;have w:=aZ l1;obtain⟨d,g,h⟩:=bh h;have m1:q.map (aw .m)++s.map (aw .m)=d.map (aw .m):=by rw[<-g,List.map_append]
  have x:q.length+1=d.length:=by simp[<-c,<-g]<;>omega
  rw[x] at w;obtain⟨z1,p1,h⟩:=af h;obtain⟨t,q1,h⟩:=bh h;have s1:sub (a.map (aw .m)) (Int.toNat p) (a.length-(Int.toNat p))=t.map (aw .m):=by rw[eX,q1]
  obtain⟨a2,t1,h⟩:=af h;have y:=aZ t1;obtain⟨a1,u,h⟩:=bh h;have u1:d.map (aw .m)++t.map (aw .m)=a1.map (aw .m):=by rw[<-u,List.map_append]
  have b1:d.length+t.length=a1.length:=by simp[<-c,<-g,<-u]<;>omega
  rw[b1] at y;cases h;exact ZL (ZA (aZ d1) (ZA i1 (ZA (aZ j1) (ZA k1 (ZA v (ZA w (ZA m1 (ZA x (ZA (aZ p1) (ZA s1 (ZA y (ZA u1 b1)))))))))))) (ZA @bW.eq_1 (ZA c.symm (ZA g.symm (ZA u.symm v))))
def JC(b:Int)(c:List Int)(a:List Int)(d:Int)(v:Int×List ByteArray×List ax×Int×List ah):St:=⟨[(0,.pt 1000000000 0 0),(2,.sl 1000000003 0 a.length),(4,.pt 4 0 0),(6,.i d),(7,.i v.1)],[(4,.var (.agg [.i b,.lst .m 1 (c.map AV.i)])),(470000003,.arr 2 (v.2.2.2.2.map (aw .m))),(1000000000,.var (.agg [.lst .m 1 (v.2.1.map AV.z),.lst .m 4 (v.2.2.1.map (ai .m)),.i v.2.2.2.1,.sl 470000003 0 v.2.2.2.2.length])),(1000000003,.arr 1 (a.map AV.i))]⟩
def xO(a:List Int)(v:List ByteArray×List ax×Int×List ah):St:=⟨[],[(470000003,.arr 2 (v.2.2.2.map (aw .m))),(1000000000,.var (.agg [.lst .m 1 (v.1.map AV.z),.lst .m 4 (v.2.1.map (ai .m)),.i v.2.2.1,.sl 470000003 0 v.2.2.2.length])),(1000000003,.arr 1 (a.map AV.i))]⟩
theorem w_ac(j:Int)(u:List ByteArray)(w:List ax)(x:Int)(p:List ah)(d:List Int)(c:List Int)(i1:Int->List ByteArray->List ax->Int->List ah->List Int->List Int->Option (List ByteArray×List ax×Int×List ah×List Int))(k:Int)(y1:∀(j:Int)(u:List ByteArray)(w:List ax)(x:Int)(p:List ah)(d:List Int)(c:List Int){r:List ByteArray×List ax×Int×List ah×List Int},i1 j u w x p d c=some r->OkM Tryz.prog 240 [.pt 1000000000 0 0,.agg [.i j,.sl 1000000002 0 d.length],.sl 1000000003 0 c.length] [(1000000000,.var (.agg [.lst .m 1 (u.map AV.z),.lst .m 4 (w.map (ai .m)),.i x,.sl 1000000001 0 p.length])),(1000000001,.arr 2 (p.map (aw .m))),(1000000002,.arr 1 (d.map AV.i)),(1000000003,.arr 1 (c.map AV.i))] (.tup []) ([(470000003,.arr 2 (r.2.2.2.1.map (aw .m))),(1000000000,.var (.agg [.lst .m 1 (r.1.map AV.z),.lst .m 4 (r.2.1.map (ai .m)),.i r.2.2.1,.sl 470000003 0 r.2.2.2.1.length])),(1000000003,.arr 1 (r.2.2.2.2.map AV.i))]))(a:Int×List ByteArray×List ax×Int×List ah)(o:(Int×List ByteArray×List ax×Int×List ah)⊕(List ByteArray×List ax×Int×List ah))(h:JQ j d c i1 k a=some o):AWP (OkS Tryz.prog) mC (qL [0,2,4,6,7] [4,470000003,1000000000,1000000003] (JC j d c k) (qX 0 [] [470000003,1000000000,1000000003] (xO c)) o) (JC j d c k a):=by
 have e:=ZA @JC.eq_1 @xO.eq_1;unfold JQ at h;simp only[ZC,JC,mC];obtain⟨z1,a2,h⟩:=af h;try refine ZF trivial ?_
 refine aG (sh:=(fun v=>⟨[(0,.pt 1000000000 0 0),(2,.sl 1000000003 0 c.length),(4,.pt 4 0 0),(6,.i k),(7,.i a.1),(39,.b v)],[(4,.var (.agg [.i j,.lst .m 1 (d.map AV.i)])),(470000003,.arr 2 (a.2.2.2.2.map (aw .m))),(1000000000,.var (.agg [.lst .m 1 (a.2.1.map AV.z),.lst .m 4 (a.2.2.1.map (ai .m)),.i a.2.2.2.1,.sl 470000003 0 a.2.2.2.2.length])),(1000000003,.arr 1 (c.map AV.i))]⟩)) (s:=z1) ?_ ?_
 ·replace h:=a2;obtain⟨y,h⟩|⟨y,h⟩:=aj h
  ·cases h;exact ZL y trivial
  ·cases h;exact ZL y trivial
 ·simp only[ZC,rh];obtain⟨g,h⟩|⟨g,h⟩:=aj h
  ·obtain⟨j1,b2,h⟩:=af h;refine ZF g ?_;refine ZSG g (w_ci _ _ _ b2) ?_;obtain⟨c2,d2,h⟩:=af h;try refine ZF g ?_
   refine aG (sh:=(fun v=>⟨[(0,.pt 1000000000 0 0),(2,.sl 1000000003 0 c.length),(4,.pt 4 0 0),(6,.i k),(7,.i a.1),(8,.i j1),(56,.b v)],[(4,.var (.agg [.i j,.lst .m 1 (d.map AV.i)])),(470000003,.arr 2 (a.2.2.2.2.map (aw .m))),(1000000000,.var (.agg [.lst .m 1 (a.2.1.map AV.z),.lst .m 4 (a.2.2.1.map (ai .m)),.i a.2.2.2.1,.sl 470000003 0 a.2.2.2.2.length])),(1000000003,.arr 1 (c.map AV.i))]⟩)) (s:=c2) ?_ ?_
   ·replace h:=d2;obtain⟨a1,h⟩|⟨a1,h⟩:=aj h
    ·obtain⟨u2,g2,h⟩:=af h;have f:=ZA g a1;refine ZF f ?_;refine ZSG f (Qe _ _ g2) ?_;cases h;exact ZL f trivial
    ·cases h;exact ZL (ZA g a1) trivial
   ·simp only[ZC,ri];obtain⟨b1,h⟩|⟨b1,h⟩:=aj h
    ·obtain⟨k1,i2,h⟩:=af h;have f:=ZA g b1;refine ZF f ?_;refine ZUG f (Kx _ i2) ?_;obtain⟨c1,l,h⟩:=bh h;have j2:Row.arr 1 [(.i a.1:AV)]=Row.arr 1 (c1.map AV.i):=by rw[<-l];rfl
     have l1:c1.length=1:=by rw[<-l];rfl
     obtain⟨v2,k2,h⟩:=af h;have m1:=aZ k2;obtain⟨p1,q,h⟩:=bh h;have l2:k1.map AV.i++c1.map AV.i=p1.map AV.i:=by rw[<-q,List.map_append]
     have q1:k1.length+1=p1.length:=by simp[<-l,<-q]<;>omega
     rw[q1] at m1;obtain⟨s1,m2,h⟩:=af h;have f:=ZA f (ZA j2 (ZA l1 (ZA m1 (ZA l2 q1))));refine ZF f ?_;refine ZUG f (Kx _ m2) ?_;obtain⟨d1,t,h⟩:=bh h;have p2:Row.arr 1 [(.i j1:AV)]=Row.arr 1 (d1.map AV.i):=by rw[<-t];rfl
     have t1:d1.length=1:=by rw[<-t];rfl
     obtain⟨w2,q2,h⟩:=af h;have u1:=aZ q2;obtain⟨v1,g1,h⟩:=bh h;have s2:s1.map AV.i++d1.map AV.i=v1.map AV.i:=by rw[<-g1,List.map_append]
     have w1:s1.length+1=v1.length:=by simp[<-l,<-q,<-t,<-g1]<;>omega
     rw[w1] at u1;obtain⟨x2,t2,h⟩:=af h;have f:=ZA f (ZA p2 (ZA t1 (ZA u1 (ZA s2 w1))));refine ZF f ?_;refine ZWG f (y1 _ _ _ _ _ _ _ t2) [470000003,1000000000,1000000003] [477300003] ?_;cases h;exact ZL f (ZA e (ZA l.symm (ZA q.symm (ZA t.symm (ZA g1.symm (ZA l1 t1))))))
    ·cases h;exact ZL (ZA g b1) e
  ·cases h;exact ZL g e
theorem SA(l:Int->List ByteArray->List ax->Int->List ah->List Int->List Int->Option (List ByteArray×List ax×Int×List ah×List Int))(q:∀(d:Int)(g:List ByteArray)(j:List ax)(k:Int)(a:List ah)(b:List Int)(c:List Int){r:List ByteArray×List ax×Int×List ah×List Int},l d g j k a b c=some r->OkM Tryz.prog 240 [.pt 1000000000 0 0,.agg [.i d,.sl 1000000002 0 b.length],.sl 1000000003 0 c.length] [(1000000000,.var (.agg [.lst .m 1 (g.map AV.z),.lst .m 4 (j.map (ai .m)),.i k,.sl 1000000001 0 a.length])),(1000000001,.arr 2 (a.map (aw .m))),(1000000002,.arr 1 (b.map AV.i)),(1000000003,.arr 1 (c.map AV.i))] (.tup []) ([(470000003,.arr 2 (r.2.2.2.1.map (aw .m))),(1000000000,.var (.agg [.lst .m 1 (r.1.map AV.z),.lst .m 4 (r.2.1.map (ai .m)),.i r.2.2.1,.sl 470000003 0 r.2.2.2.1.length])),(1000000003,.arr 1 (r.2.2.2.2.map AV.i))]))(d:Int)(g:List ByteArray)(j:List ax)(k:Int)(a:List ah)(b:List Int)(c:List Int){r:List ByteArray×List ax×Int×List ah×List Int}(h:Ar l d g j k a b c=some r):OkM Tryz.prog 240 [.pt 1000000000 0 0,.agg [.i d,.sl 1000000002 0 b.length],.sl 1000000003 0 c.length] [(1000000000,.var (.agg [.lst .m 1 (g.map AV.z),.lst .m 4 (j.map (ai .m)),.i k,.sl 1000000001 0 a.length])),(1000000001,.arr 2 (a.map (aw .m))),(1000000002,.arr 1 (b.map AV.i)),(1000000003,.arr 1 (c.map AV.i))] (.tup []) ([(470000003,.arr 2 (r.2.2.2.1.map (aw .m))),(1000000000,.var (.agg [.lst .m 1 (r.1.map AV.z),.lst .m 4 (r.2.1.map (ai .m)),.i r.2.2.1,.sl 470000003 0 r.2.2.2.1.length])),(1000000003,.arr 1 (r.2.2.2.2.map AV.i))]):=by
 refine bw (lr:=[470000003,1000000000,1000000003]) ba KA rfl rfl ?_;unfold Ar at h;simp only[ZC,yW,bW];obtain⟨y,s,h⟩:=af h;obtain⟨t,u,h⟩:=af h;obtain⟨p,h⟩|⟨p,h⟩:=aj h
 ·obtain⟨a1,x,h⟩:=af h;have f:=ZA (aZ s) (ZA u p);refine ZF f ?_;refine ZWG f (w_dz _ _ _ _ _ x) [49,1000000000,1000000001] [2400049] ?_;cases h;exact ZL f @bW.eq_1
 ·obtain⟨b1,v,h⟩:=af h;try refine ZF (ZA (aZ s) (ZA u p)) ?_
  first|refine dv (bf (aD (w_ac d g j k a b c l t q) v ?_)) (fun τ w=>?_)|refine eJ (aD (w_ac d g j k a b c l t q) v ?_) (fun τ w=>?_)
  ·exact ZK (ZA @JC.eq_1 @xO.eq_1)
  ·cases h;refine jm w (by decide) ?_ rfl;exact ZK (ZA @bW.eq_1 @xO.eq_1)
theorem w_by:∀(n:Nat)(d:Int)(g:List ByteArray)(j:List ax)(k:Int)(a:List ah)(b:List Int)(c:List Int){r:List ByteArray×List ax×Int×List ah×List Int}(_:wA n d g j k a b c=some r),OkM Tryz.prog 240 [.pt 1000000000 0 0,.agg [.i d,.sl 1000000002 0 b.length],.sl 1000000003 0 c.length] [(1000000000,.var (.agg [.lst .m 1 (g.map AV.z),.lst .m 4 (j.map (ai .m)),.i k,.sl 1000000001 0 a.length])),(1000000001,.arr 2 (a.map (aw .m))),(1000000002,.arr 1 (b.map AV.i)),(1000000003,.arr 1 (c.map AV.i))] ((fun(r:List ByteArray×List ax×Int×List ah×List Int)=>.tup []) r) ((fun(r:List ByteArray×List ax×Int×List ah×List Int)=>[(470000003,.arr 2 (r.2.2.2.1.map (aw .m))),(1000000000,.var (.agg [.lst .m 1 (r.1.map AV.z),.lst .m 4 (r.2.1.map (ai .m)),.i r.2.2.1,.sl 470000003 0 r.2.2.2.1.length])),(1000000003,.arr 1 (r.2.2.2.2.map AV.i))]) r)
 |0,d,g,j,k,a,b,c,_,h=>by cases h
 |n+1,d,g,j,k,a,b,c,_,h=>SA (wA n) (w_by n) d g j k a b c h
def Hy(b:Int)(a:List Int)(c:Int)(v:Int×List ByteArray×List ax×Int×List ah):St:=⟨[(0,.pt 1000000000 0 0),(2,.sl 1000000001 0 a.length),(4,.pt 4 0 0),(6,.i c),(7,.i v.1)],[(4,.var (.agg [.i b,.lst .m 1 []])),(470000003,.arr 2 (v.2.2.2.2.map (aw .m))),(1000000000,.var (.agg [.lst .m 1 (v.2.1.map AV.z),.lst .m 4 (v.2.2.1.map (ai .m)),.i v.2.2.2.1,.sl 470000003 0 v.2.2.2.2.length])),(1000000001,.arr 1 (a.map AV.i))]⟩
def yc(a:List Int)(v:List ByteArray×List ax×Int×List ah):St:=⟨[],[(470000003,.arr 2 (v.2.2.2.map (aw .m))),(1000000000,.var (.agg [.lst .m 1 (v.1.map AV.z),.lst .m 4 (v.2.1.map (ai .m)),.i v.2.2.1,.sl 470000003 0 v.2.2.2.length])),(1000000001,.arr 1 (a.map AV.i))]⟩
theorem w_ap(g:Int)(d:List Int)(j:Int)(a:Int×List ByteArray×List ax×Int×List ah)(o:(Int×List ByteArray×List ax×Int×List ah)⊕(List ByteArray×List ax×Int×List ah))(h:RI g d j a=some o):AWP (OkS Tryz.prog) oP (qL [0,2,4,6,7] [4,470000003,1000000000,1000000001] (Hy g d j) (qX 0 [] [470000003,1000000000,1000000001] (yc d)) o) (Hy g d j a):=by
 have e:=ZA @Hy.eq_1 @yc.eq_1;unfold RI at h;simp only[ZC,Hy,oP];obtain⟨q1,s1,h⟩:=af h;try refine ZF trivial ?_
 refine aG (sh:=(fun v=>⟨[(0,.pt 1000000000 0 0),(2,.sl 1000000001 0 d.length),(4,.pt 4 0 0),(6,.i j),(7,.i a.1),(39,.b v)],[(4,.var (.agg [.i g,.lst .m 1 []])),(470000003,.arr 2 (a.2.2.2.2.map (aw .m))),(1000000000,.var (.agg [.lst .m 1 (a.2.1.map AV.z),.lst .m 4 (a.2.2.1.map (ai .m)),.i a.2.2.2.1,.sl 470000003 0 a.2.2.2.2.length])),(1000000001,.arr 1 (d.map AV.i))]⟩)) (s:=q1) ?_ ?_
 ·replace h:=s1;obtain⟨q,h⟩|⟨q,h⟩:=aj h
  ·cases h;exact ZL q trivial
  ·cases h;exact ZL q trivial
 ·simp only[ZC,uF];obtain⟨c,h⟩|⟨c,h⟩:=aj h
  ·obtain⟨a1,t1,h⟩:=af h;refine ZF c ?_;refine ZSG c (w_ci _ _ _ t1) ?_;obtain⟨u1,v1,h⟩:=af h;try refine ZF c ?_
   refine aG (sh:=(fun v=>⟨[(0,.pt 1000000000 0 0),(2,.sl 1000000001 0 d.length),(4,.pt 4 0 0),(6,.i j),(7,.i a.1),(8,.i a1),(56,.b v)],[(4,.var (.agg [.i g,.lst .m 1 []])),(470000003,.arr 2 (a.2.2.2.2.map (aw .m))),(1000000000,.var (.agg [.lst .m 1 (a.2.1.map AV.z),.lst .m 4 (a.2.2.1.map (ai .m)),.i a.2.2.2.1,.sl 470000003 0 a.2.2.2.2.length])),(1000000001,.arr 1 (d.map AV.i))]⟩)) (s:=u1) ?_ ?_
   ·replace h:=v1;obtain⟨t,h⟩|⟨t,h⟩:=aj h
    ·obtain⟨k2,w1,h⟩:=af h;have f:=ZA c t;refine ZF f ?_;refine ZSG f (Qe _ _ w1) ?_;cases h;exact ZL f trivial
    ·cases h;exact ZL (ZA c t) trivial
   ·simp only[ZC,uG];obtain⟨u,h⟩|⟨u,h⟩:=aj h
    ·obtain⟨b1,y1,h⟩:=af h;have f:=ZA c u;refine ZF f ?_;refine ZUG f (Kx _ y1) ?_;obtain⟨w,k,h⟩:=bh h;have z1:Row.arr 1 [(.i a.1:AV)]=Row.arr 1 (w.map AV.i):=by rw[<-k];rfl
     have c1:w.length=1:=by rw[<-k];rfl
     obtain⟨l2,a2,h⟩:=af h;have d1:=aZ a2;obtain⟨g1,l,h⟩:=bh h;have b2:b1.map AV.i++w.map AV.i=g1.map AV.i:=by rw[<-l,List.map_append]
     have i1:b1.length+1=g1.length:=by simp[<-k,<-l]<;>omega
     rw[i1] at d1;obtain⟨j1,c2,h⟩:=af h;have f:=ZA f (ZA z1 (ZA c1 (ZA d1 (ZA b2 i1))));refine ZF f ?_;refine ZUG f (Kx _ c2) ?_;obtain⟨x,p,h⟩:=bh h;have d2:Row.arr 1 [(.i a1:AV)]=Row.arr 1 (x.map AV.i):=by rw[<-p];rfl
     have k1:x.length=1:=by rw[<-p];rfl
     obtain⟨m2,g2,h⟩:=af h;have l1:=aZ g2;obtain⟨m1,y,h⟩:=bh h;have i2:j1.map AV.i++x.map AV.i=m1.map AV.i:=by rw[<-y,List.map_append]
     have p1:j1.length+1=m1.length:=by simp[<-k,<-l,<-p,<-y]<;>omega
     rw[p1] at l1;obtain⟨p2,j2,h⟩:=af h;have f:=ZA f (ZA d2 (ZA k1 (ZA l1 (ZA i2 p1))));refine ZF f ?_;refine ZWG f (w_by N0 _ _ _ _ _ _ _ j2) [470000003,1000000000,1000000003] [477300003] ?_;cases h;exact ZL f (ZA e (ZA k.symm (ZA l.symm (ZA p.symm (ZA y.symm (ZA c1 k1))))))
    ·cases h;exact ZL (ZA c u) e
  ·cases h;exact ZL c e
theorem w_fi(b:Int)(d:List ByteArray)(g:List ax)(j:Int)(a:List Int){r:List ByteArray×List ax×Int×List ah×List Int}(h:Ln b d g j a=some r):OkM Tryz.prog 240 [.pt 1000000000 0 0,.agg [.i b,.lst .u 1 []],.sl 1000000001 0 a.length] [(1000000000,.var (.agg [.lst .m 1 (d.map AV.z),.lst .m 4 (g.map (ai .m)),.i j,.lst .u 2 []])),(1000000001,.arr 1 (a.map AV.i))] (.tup []) ([(470000003,.arr 2 (r.2.2.2.1.map (aw .m))),(1000000000,.var (.agg [.lst .m 1 (r.1.map AV.z),.lst .m 4 (r.2.1.map (ai .m)),.i r.2.2.1,.sl 470000003 0 r.2.2.2.1.length])),(1000000001,.arr 1 (r.2.2.2.2.map AV.i))]):=by
 refine bw (lr:=[470000003,1000000000,1000000001]) ba RL rfl rfl ?_;unfold Ln at h;simp only[ZC,GR,bW];obtain⟨v,k,h⟩:=af h;obtain⟨l,p,h⟩:=af h;obtain⟨c,h⟩|⟨c,h⟩:=aj h
 ·obtain⟨w,t,h⟩:=af h;have f:=ZA (aZ k) (ZA p c);refine ZF f ?_;refine ZWG f (w_fq _ _ _ _ _ t) [49,1000000000,1000000001] [2400049] ?_;cases h;exact ZL f @bW.eq_1
 ·obtain⟨x,q,h⟩:=af h;try refine ZF (ZA (aZ k) (ZA p c)) ?_
  first|refine dv (bf (aD (w_ap b a l) q ?_)) (fun τ s=>?_)|refine eJ (aD (w_ap b a l) q ?_) (fun τ s=>?_)
  ·exact ZK (ZA @Hy.eq_1 @yc.eq_1)
  ·cases h;refine jm s (by decide) ?_ rfl;exact ZK (ZA @bW.eq_1 @yc.eq_1)
theorem w_cx(c:ae)(d:Int)(k:Int){r:Bool×List ah}(h:Cg c d k=some r):OkM Tryz.prog 218 [.agg [.lst .m 1 (((c).N).map AV.z),.lst .m 4 (((c).F).map (ai .m))],.i d,.i k] [] (.tup [.sl 6 0 r.2.length,.b r.1]) ([(6,.arr 2 (r.2.map (aw .m)))]):=by
 refine bw (lr:=[6]) ba RQ rfl rfl ?_;unfold Cg at h;simp only[ZC,GK,hM];obtain⟨l,a,h⟩:=bh h;have p:Row.arr 1 [(.i d:AV)]=Row.arr 1 (l.map AV.i):=by rw[<-a];rfl
 have g:l.length=1:=by rw[<-a];rfl
 obtain⟨t,q,h⟩:=af h;have f:=ZA p g;refine ZF f ?_;refine ZWG f (w_fi _ _ _ _ _ q) [470000003,1000000000,1000000001] [471900003] ?_;obtain⟨j,h⟩|⟨j,h⟩:=aj h
 ·cases h;exact ZL (ZA f j) (ZA @hM.eq_1 (ZA a.symm g))
 ·obtain⟨u,s,h⟩:=af h;cases h;exact ZL (ZA f (ZA j (aZ s))) (ZA @hM.eq_1 (ZA a.symm g))
def Fn(b:ae)(a:aI)(c:List au)(d:Bool×List ah)(v:Int×List ah×List Int):St:=⟨[(1,.sl 1000000000 0 c.length),(3,.pt 3 0 0),(5,.pt 5 0 0),(9,.sl 9 0 v.2.1.length),(10,.sl 10 0 v.2.2.length),(11,.sl 11 0 d.2.length),(13,.i v.1)],[(3,.var (.agg [.lst .m 1 (((b).N).map AV.z),.lst .m 4 (((b).F).map (ai .m))])),(5,.var (.agg [.i ((a).N),.i ((a).L),.i ((a).F),.i ((a).P)])),(9,.arr 2 (v.2.1.map (aw .m))),(10,.arr 1 (v.2.2.map AV.i)),(11,.arr 2 (d.2.map (aw .m))),(1000000000,.arr 2 (c.map (ay .u)))]⟩
def xK(a:List au)(v:List ah×List Int):St:=⟨[(9,.sl 9 0 v.1.length),(10,.sl 10 0 v.2.length)],[(9,.arr 2 (v.1.map (aw .m))),(10,.arr 1 (v.2.map AV.i)),(1000000000,.arr 2 (a.map (ay .u)))]⟩
theorem w_ad(j:ae)(k:aI)(c:List au)(l:Bool×List ah)(a:Int×List ah×List Int)(o:(Int×List ah×List Int)⊕(List ah×List Int))(h:BD j k c l a=some o):AWP (OkS Tryz.prog) pq (qL [1,3,5,9,10,11,13] [3,5,9,10,11,1000000000] (Fn j k c l) (qX 0 [9,10] [9,10,1000000000] (xK c)) o) (Fn j k c l a):=by
 have e:=ZA @Fn.eq_1 @xK.eq_1;unfold BD at h;simp only[ZC,Fn,pq];obtain⟨p,h⟩|⟨p,h⟩:=aj h
 ·obtain⟨v1,g1,h⟩:=af h;obtain⟨v,i1,h⟩:=af h;obtain⟨w1,j1,h⟩:=af h;have f:=ZA p (ZA (aZ g1) i1);refine ZF f ?_;refine ZSG f (QJ _ _ j1) ?_;obtain⟨k1,l1,h⟩:=af h;refine ZF f ?_;refine ZSG f (w_dx _ _ _ l1) ?_;obtain⟨q,h⟩|⟨q,h⟩:=aj h
  ·obtain⟨s,b,h⟩:=bh h;have m1:Row.arr 2 [(.agg [.i v.N,.lst .m 1 (v.F.map AV.i)]:AV)]=Row.arr 2 (s.map (aw .m)):=by rw[<-b];rfl
   have w:s.length=1:=by rw[<-b];rfl
   obtain⟨y1,p1,h⟩:=af h;have x:=aZ p1;obtain⟨y,d,h⟩:=bh h;have q1:a.2.1.map (aw .m)++s.map (aw .m)=y.map (aw .m):=by rw[<-d,List.map_append]
   have z:a.2.1.length+1=y.length:=by simp[<-b,<-d]<;>omega
   rw[z] at x;obtain⟨t,g,h⟩:=bh h;have s1:Row.arr 1 [(.i k1:AV)]=Row.arr 1 (t.map AV.i):=by rw[<-g];rfl
   have a1:t.length=1:=by rw[<-g];rfl
   obtain⟨z1,t1,h⟩:=af h;have b1:=aZ t1;obtain⟨c1,u,h⟩:=bh h;have u1:a.2.2.map AV.i++t.map AV.i=c1.map AV.i:=by rw[<-u,List.map_append]
   have d1:a.2.2.length+1=c1.length:=by simp[<-b,<-d,<-g,<-u]<;>omega
   rw[d1] at b1;cases h;exact ZL (ZA f (ZA q (ZA m1 (ZA w (ZA x (ZA q1 (ZA z (ZA s1 (ZA a1 (ZA b1 (ZA u1 d1))))))))))) (ZA e (ZA b.symm (ZA d.symm (ZA g.symm (ZA u.symm (ZA w a1))))))
  ·cases h;exact ZL (ZA f q) e
 ·cases h;exact ZL p e
theorem w_fj(c:ae)(a:aI)(d:List au){r:Bool×List ah×List Int×List au}(h:Mr c a d=some r):OkM Tryz.prog 184 [.agg [.lst .m 1 (((c).N).map AV.z),.lst .m 4 (((c).F).map (ai .m))],.sl 1000000000 0 d.length,.agg [.i ((a).N),.i ((a).L),.i ((a).F),.i ((a).P)]] [(1000000000,.arr 2 (d.map (ay .u)))] (.tup [.sl 6 0 r.2.1.length,.sl 7 0 r.2.2.1.length,.b r.1]) ([(6,.arr 2 (r.2.1.map (aw .m))),(7,.arr 1 (r.2.2.1.map AV.i)),(1000000000,.arr 2 (r.2.2.2.map (ay .u)))]):=by
 refine bw (lr:=[6,7,1000000000]) ba Ro rfl rfl ?_;unfold Mr at h;simp only[ZC,Du,jy];obtain⟨j,k,h⟩:=af h;refine ZF trivial ?_;refine ZWG trivial (w_cx _ _ _ k) [6] [2400006] ?_;obtain⟨g,h⟩|⟨g,h⟩:=aj h
 ·cases h;exact ZL g @jy.eq_1
 ·obtain⟨p,l,h⟩:=af h;try refine ZF g ?_
  refine aG (bf (aD (w_ad c a d j) l ?_)) ?_
  ·exact ZK (ZA @Fn.eq_1 @xK.eq_1)
  ·simp only[ZC,xK,tm];cases h;exact ZL g @jy.eq_1
theorem w_ea(d:ae)(a:aI)(g:List au){r:Bool×List ah×List Int×List au}(h:HF d a g=some r):OkM Tryz.prog 121 [.agg [.lst .m 1 (((d).N).map AV.z),.lst .m 4 (((d).F).map (ai .m))],.sl 1000000000 0 g.length,.agg [.i ((a).N),.i ((a).L),.i ((a).F),.i ((a).P)]] [(1000000000,.arr 2 (g.map (ay .u)))] (.tup [.sl 6 0 r.2.1.length,.sl 7 0 r.2.2.1.length,.b r.1]) ([(6,.arr 2 (r.2.1.map (aw .m))),(7,.arr 1 (r.2.2.1.map AV.i)),(1000000000,.arr 2 (r.2.2.2.map (ay .u)))]):=by
 refine bw (lr:=[6,7,1000000000]) ba PW rfl rfl ?_;unfold HF at h;simp only[ZC,FW,jy];obtain⟨l,p,h⟩:=af h;try refine ZF trivial ?_
 refine aG (sh:=(fun v=>⟨[(1,.sl 1000000000 0 g.length),(3,.pt 3 0 0),(5,.pt 5 0 0),(22,.b v)],[(3,.var (.agg [.lst .m 1 (((d).N).map AV.z),.lst .m 4 (((d).F).map (ai .m))])),(5,.var (.agg [.i ((a).N),.i ((a).L),.i ((a).F),.i ((a).P)])),(1000000000,.arr 2 (g.map (ay .u)))]⟩)) (s:=l) ?_ ?_
 ·replace h:=p;obtain⟨y,q,h⟩:=af h;refine ZF trivial ?_;refine ZSG trivial (w_dt _ q) ?_;obtain⟨c,h⟩|⟨c,h⟩:=aj h
  ·cases h;exact ZL c trivial
  ·obtain⟨a1,t,h⟩:=af h;refine ZF c ?_;refine ZSG c (w_du _ t) ?_;obtain⟨k,h⟩|⟨k,h⟩:=aj h
   ·cases h;exact ZL (ZA c k) trivial
   ·obtain⟨b1,w,h⟩:=af h;have f:=ZA c k;refine ZF f ?_;refine ZSG f (w_dv _ _ w) ?_;cases h;exact ZL f trivial
 ·simp only[ZC,td];obtain⟨j,h⟩|⟨j,h⟩:=aj h
  ·cases h;exact ZL j @jy.eq_1
  ·obtain⟨c1,x,h⟩:=af h;refine ZF j ?_;refine ZWG j (w_fj _ _ _ x) [6,7,1000000000] [2900006,2900007] ?_;cases h;exact ZL j @jy.eq_1
theorem w_cm(c:aI)(d:List ByteArray)(g:List ax)(j:List au){r:ah×ah×Bool×List au}(h:xb c d g j=some r):OkM Tryz.prog 44 [.agg [.sl 1000000000 0 d.length,.sl 1000000001 0 g.length],.sl 1000000002 0 j.length,.agg [.i ((c).N),.i ((c).L),.i ((c).F),.i ((c).P)]] [(1000000000,.arr 1 (d.map AV.z)),(1000000001,.arr 4 (g.map (ai .u))),(1000000002,.arr 2 (j.map (ay .u)))] (.tup [.agg [.i ((r.1).N),.lst .m 1 (((r.1).F).map AV.i)],.agg [.i ((r.2.1).N),.lst .m 1 (((r.2.1).F).map AV.i)],.b r.2.2.1]) ([(1000000002,.arr 2 (r.2.2.2.map (ay .u)))]):=by
 refine bw (lr:=[1000000002]) ba Sf rfl rfl ?_;unfold xb at h;simp only[ZC,OK,mM];obtain⟨w,l,h⟩:=af h;refine ZF trivial ?_;refine ZWG trivial (w_ea _ _ _ l) [6,7,1000000000] [1900006,1900007] ?_;obtain⟨a,h⟩|⟨a,h⟩:=aj h
 ·cases h;exact ZL a @mM.eq_1
 ·obtain⟨x,p,h⟩:=af h;refine ZF a ?_;refine ZUG a (w_dy _ _ _ p) ?_;obtain⟨k,h⟩|⟨k,h⟩:=aj h
  ·cases h;exact ZL (ZA a k) @mM.eq_1
  ·obtain⟨y,q,h⟩:=af h;obtain⟨a1,s,h⟩:=af h;obtain⟨b1,t,h⟩:=af h;obtain⟨c1,v,h⟩:=af h;cases h;exact ZL (ZA a (ZA k (ZA (aZ q) (ZA s (ZA (aZ t) v))))) @mM.eq_1
theorem w_b(c:Int)(d:Int)(g:Int){r:Bool}(h:M_b c d g=some r):Ok Tryz.prog 76 [.i c,.i d,.i g] (.b r):=by
 refine az ba m76 rfl ?_;unfold M_b at h;simp only[ZC,A76,cQ,aJ];obtain⟨a,h⟩|⟨a,h⟩:=aj h
 ·cases h;exact ZL a @cQ.eq_1
 ·cases h;exact ZL a @cQ.eq_1
def wv(a:List au)(v:Int):St:=⟨[(0,.lst .o 2 (a.map (ay .o))),(5,.lst .o 2 (a.map (ay .o))),(6,.i (a.length:Int)),(7,.i v)],[]⟩
theorem w_as(d:List au)(m:Int)(o:Int⊕(Unit⊕Bool))(h:Bq d m=some o):AWP (OkS Tryz.prog) vZ (qL [0,5,6,7] [] (wv d) (qS (qX 0 [0] [] (ql d)) (qR bq (fun r=>.b r))) o) (wv d m):=by
 have e:=@bq.eq_1;unfold Bq at h;simp only[ZC,wv,vZ];obtain⟨i,h⟩|⟨i,h⟩:=aj h
 ·obtain⟨t,p,h⟩:=af h;obtain⟨u,q,h⟩:=af h;have f:=ZA i (aO p);refine ZF f ?_;refine ZSG f (w_b _ _ _ q) ?_;obtain⟨j,h⟩|⟨j,h⟩:=aj h
  ·cases h;exact ZL (ZA f j) e
  ·obtain⟨v,s,h⟩:=af h;have f:=ZA f j;refine ZF f ?_;refine ZSG f (w_b _ _ _ s) ?_;obtain⟨a,h⟩|⟨a,h⟩:=aj h
   ·cases h;exact ZL (ZA f a) e
   ·obtain⟨c,h⟩|⟨c,h⟩:=aj h
    ·obtain⟨w,k,h⟩:=af h;obtain⟨g,h⟩|⟨g,h⟩:=aj h
     ·cases h;exact ZL (ZA f (ZA a (ZA c (ZA (aO k) g)))) e
     ·obtain⟨l,h⟩|⟨l,h⟩:=aj h
      ·cases h;exact ZL (ZA f (ZA a (ZA c (ZA (aO k) (ZA g l))))) e
      ·cases h;exact ZL (ZA f (ZA a (ZA c (ZA (aO k) (ZA g l))))) (ZA @wv.eq_1 @ql.eq_1)
    ·cases h;exact ZL (ZA f (ZA a c)) (ZA @wv.eq_1 @ql.eq_1)
 ·cases h;exact ZL i (ZA @wv.eq_1 @ql.eq_1)
theorem w_cn(a:List au){r:Bool}(h:Cn a=some r):Ok Tryz.prog 219 [.lst .o 2 (a.map (ay .o))] (.b r):=by
 refine az ba m219 rfl ?_;unfold Cn at h;simp only[ZC,A219,bq,aJ];obtain⟨c,d,h⟩:=af h;try refine ZF trivial ?_
 refine bj (o:=c) (bz de (aD (w_as a) d ?_)) (fun j hv=>?_) (fun k hv e τ hne hq=>?_)
 ·exact ZK (ZA @wv.eq_1 @ql.eq_1)
 ·subst hv;simp only[] at h;simp only[ZC,ql,Jy];obtain⟨l,g,h⟩:=af h;refine ZF trivial ?_;refine ZSG trivial (w_b _ _ _ g) ?_;cases h;exact ZL trivial @bq.eq_1
 ·subst hv;simp only[] at h;obtain⟨rfl,i⟩:=hq;cases h;exact i
def Gr(a:ByteArray)(v:Int):St:=⟨[(0,.z a),(7,.i (a.size:Int)),(8,.i v)],[]⟩
def yi(a:ByteArray)(v:Unit):St:=⟨[(0,.z a)],[]⟩
theorem w_ae(c:ByteArray)(j:Int)(o:Int⊕(Unit⊕Bool))(h:Ad c j=some o):AWP (OkS Tryz.prog) wh (qL [0,7,8] [] (Gr c) (qS (qX 0 [0] [] (yi c)) (qR bq (fun r=>.b r))) o) (Gr c j):=by
 have e:=ZA @Gr.eq_1 @yi.eq_1;unfold Ad at h;simp only[ZC,Gr,wh];obtain⟨a,h⟩|⟨a,h⟩:=aj h
 ·obtain⟨t,u,h⟩:=af h;try refine ZF a ?_
  refine aG (sh:=(fun v=>⟨[(0,.z c),(3,.i j),(4,.b v.1),(5,.b v.2),(7,.i (c.size:Int)),(8,.i j)],[]⟩)) (s:=t) ?_ ?_
  ·replace h:=u;obtain⟨w,k,h⟩:=af h;obtain⟨d,h⟩|⟨d,h⟩:=aj h
   ·obtain⟨m,h⟩|⟨m,h⟩:=aj h
    ·cases h;exact ZL (ZA a (ZA (jD k) (ZA d m))) trivial
    ·cases h;exact ZL (ZA a (ZA (jD k) (ZA d m))) trivial
   ·obtain⟨p,h⟩|⟨p,h⟩:=aj h
    ·cases h;exact ZL (ZA a (ZA (jD k) (ZA d p))) trivial
    ·cases h;exact ZL (ZA a (ZA (jD k) (ZA d p))) trivial
  ·simp only[ZC,IM];obtain⟨g,h⟩|⟨g,h⟩:=aj h
   ·obtain⟨l,h⟩|⟨l,h⟩:=aj h
    ·cases h;exact ZL (ZA a (ZA g l)) @bq.eq_1
    ·obtain⟨q,h⟩|⟨q,h⟩:=aj h
     ·cases h;exact ZL (ZA a (ZA g (ZA l q))) @bq.eq_1
     ·cases h;exact ZL (ZA a (ZA g (ZA l q))) e
   ·cases h;exact ZL (ZA a g) e
 ·cases h;exact ZL a e
theorem w_eb(a:ByteArray){r:Bool}(h:EB a=some r):Ok Tryz.prog 147 [.z a] (.b r):=by
 refine az ba m147 rfl ?_;unfold EB at h;simp only[ZC,A147,bq,aJ];obtain⟨c,d,h⟩:=af h;try refine ZF trivial ?_
 refine bj (o:=c) (bz de (aD (w_ae a) d ?_)) (fun j hv=>?_) (fun k hv e τ hne hq=>?_)
 ·exact ZK (ZA @Gr.eq_1 @yi.eq_1)
 ·subst hv;simp only[] at h;simp only[ZC,yi,Il];obtain⟨l,g,h⟩:=af h;refine ZF trivial ?_;refine ZSG trivial (w_b _ _ _ g) ?_;cases h;exact ZL trivial @bq.eq_1
 ·subst hv;simp only[] at h;obtain⟨rfl,i⟩:=hq;cases h;exact i
def Eg(a:List ByteArray)(b:ByteArray)(v:Int):St:=⟨[(0,.lst .o 1 (a.map AV.z)),(1,.z b),(7,.i (a.length:Int)),(8,.i v)],[]⟩
theorem w_bh(b:List ByteArray)(c:ByteArray)(g:Int)(o:Int⊕(Unit⊕Int))(h:BE b c g=some o):AWP (OkS Tryz.prog) xo (qL [0,1,7,8] [] (Eg b c) (qS (qX 0 [] [] (cq)) (qR aN (fun r=>.i r))) o) (Eg b c g):=by
 have e:=ZA @Eg.eq_1 @cq.eq_1;unfold BE at h;simp only[ZC,Eg,xo];obtain⟨a,h⟩|⟨a,h⟩:=aj h
 ·obtain⟨k,j,h⟩:=af h;obtain⟨d,h⟩|⟨d,h⟩:=aj h
  ·cases h;exact ZL (ZA a (ZA (aO j) d)) @aN.eq_1
  ·cases h;exact ZL (ZA a (ZA (aO j) d)) e
 ·cases h;exact ZL a e
theorem w_fk(a:List ByteArray)(b:ByteArray){r:Int}(h:LY a b=some r):Ok Tryz.prog 206 [.lst .o 1 (a.map AV.z),.z b] (.i r):=by
 refine az ba m206 rfl ?_;unfold LY at h;simp only[ZC,A206,aN,aJ];obtain⟨c,d,h⟩:=af h;try refine ZF trivial ?_
 refine bj (o:=c) (bz de (aD (w_bh a b) d ?_)) (fun j hv=>?_) (fun k hv e τ hne hq=>?_)
 ·exact ZK (ZA @Eg.eq_1 @cq.eq_1)
 ·subst hv;simp only[] at h;simp only[ZC,cq,DZ];cases h;exact ZL trivial @aN.eq_1
 ·subst hv;simp only[] at h;obtain⟨rfl,g⟩:=hq;cases h;exact g
theorem w_ec(a:List ByteArray)(c:ByteArray){r:Bool}(h:HJ a c=some r):Ok Tryz.prog 148 [.lst .o 1 (a.map AV.z),.z c] (.b r):=by
 refine az ba m148 rfl ?_;unfold HJ at h;simp only[ZC,A148,aN,aJ];obtain⟨g,d,h⟩:=af h;refine ZF trivial ?_;refine ZSG trivial (w_fk _ _ d) ?_;cases h;exact ZL trivial @aN.eq_1
theorem Lo(a:Int){r:Bool}(h:sZ a=some r):Ok Tryz.prog 224 [.i a] (.b r):=by
 refine az ba m224 rfl ?_;unfold sZ at h;simp only[ZC,A224,bq,aJ];cases h;exact ZL trivial @bq.eq_1
theorem w_i(j:Int)(k:Int){r:Int}(h:M_i j k=some r):Ok Tryz.prog 189 [.i j,.i k] (.i r):=by
 have e:=@aN.eq_1;refine az ba m189 rfl ?_;unfold M_i at h;simp only[ZC,A189,aN,aJ];obtain⟨p,l,h⟩:=af h;refine ZF trivial ?_;refine ZSG trivial (Lo _ l) ?_;obtain⟨q,m,h⟩:=af h;refine ZF trivial ?_;refine ZSG trivial (Lo _ m) ?_;obtain⟨a,h⟩|⟨a,h⟩:=aj h
 ·obtain⟨d,h⟩|⟨d,h⟩:=aj h
  ·cases h;exact ZL (ZA a d) e
  ·cases h;exact ZL (ZA a d) e
 ·obtain⟨b,h⟩|⟨b,h⟩:=aj h
  ·cases h;exact ZL (ZA a b) e
  ·obtain⟨c,h⟩|⟨c,h⟩:=aj h
   ·cases h;exact ZL (ZA a (ZA b c)) e
   ·obtain⟨g,h⟩|⟨g,h⟩:=aj h
    ·cases h;exact ZL (ZA a (ZA b (ZA c g))) e
    ·cases h;exact ZL (ZA a (ZA b (ZA c g))) e
def S_j(a:List Int)(v:Int):St:=⟨[(3,.i 0),(6,.lst .o 1 (a.map AV.i)),(7,.i (a.length:Int)),(8,.i v)],[]⟩
def LM(v:Unit):St:=⟨[(3,.i 0)],[]⟩
theorem w_j(b:List Int)(d:Int)(o:Int⊕(Unit⊕Int))(h:M_j b d=some o):AWP (OkS Tryz.prog) wo (qL [3,6,7,8] [] (S_j b) (qS (qX 0 [3] [] (LM)) (qR bq (fun r=>.i r))) o) (S_j b d):=by
 have e:=ZA @S_j.eq_1 @LM.eq_1;unfold M_j at h;simp only[ZC,S_j,wo];obtain⟨a,h⟩|⟨a,h⟩:=aj h
 ·obtain⟨j,g,h⟩:=af h;obtain⟨c,h⟩|⟨c,h⟩:=aj h
  ·cases h;exact ZL (ZA a (ZA (aO g) c)) @bq.eq_1
  ·cases h;exact ZL (ZA a (ZA (aO g) c)) e
 ·cases h;exact ZL a e
theorem w_r(a:List Int){r:Int}(h:M_r a=some r):Ok Tryz.prog 188 [.lst .o 1 (a.map AV.i)] (.i r):=by
 refine az ba m188 rfl ?_;unfold M_r at h;simp only[ZC,A188,bq,aJ];obtain⟨b,c,h⟩:=af h;try refine ZF trivial ?_
 refine bj (o:=b) (bz de (aD (w_j a) c ?_)) (fun g hv=>?_) (fun j hv e τ hne hq=>?_)
 ·exact ZK (ZA @S_j.eq_1 @LM.eq_1)
 ·subst hv;simp only[] at h;simp only[ZC,LM,JP];cases h;exact ZL trivial @bq.eq_1
 ·subst hv;simp only[] at h;obtain⟨rfl,d⟩:=hq;cases h;exact d
theorem w_ed(a:ax)(b:ax){r:Int}(h:FK a b=some r):Ok Tryz.prog 149 [.agg [.i a.A,.i a.B,.i a.N,.i a.F],.agg [.i b.A,.i b.B,.i b.N,.i b.F]] (.i r):=by
 refine az ba m149 rfl ?_;unfold FK at h;simp only[ZC,A149,aN,aJ];obtain⟨j,k,h⟩:=af h;refine ZF trivial ?_;refine ZSG trivial (w_i _ _ k) ?_;obtain⟨l,m,h⟩:=af h;refine ZF trivial ?_;refine ZSG trivial (w_i _ _ m) ?_;obtain⟨p,q,h⟩:=af h;refine ZF trivial ?_;refine ZSG trivial (w_i _ _ q) ?_;obtain⟨s,t,h⟩:=af h;refine ZF trivial ?_;refine ZSG trivial (w_i _ _ t) ?_;obtain⟨c,d,h⟩:=bh h;have u:Row.arr 1 [(.i j:AV),(.i l:AV),(.i p:AV),(.i s:AV)]=Row.arr 1 (c.map AV.i):=by rw[<-d];rfl
 have g:c.length=4:=by rw[<-d];rfl
 have v:sub (c.map AV.i) 0 4=c.map AV.i:=kE _ (by simp[<-d]);obtain⟨x,w,h⟩:=af h;have f:=ZA u (ZA g v);refine ZF f ?_;refine ZSG f (w_r _ w) ?_;cases h;exact ZL f (ZA @aN.eq_1 (ZA d.symm g))
def Aq(a:ae)(v:Int):St:=⟨[(1,.pt 1 0 0),(8,.lst .o 1 (a.N.map AV.z)),(9,.i (a.N.length:Int)),(10,.i v)],[(1,.var (.agg [.lst .o 1 (a.N.map AV.z),.lst .o 4 (a.F.map (ai .o))]))]⟩
theorem w_ay(a:ae)(i:Int)(o:Int⊕(Unit⊕Bool))(h:zl a i=some o):AWP (OkS Tryz.prog) Kf (qL [1,8,9,10] [1] (Aq a) (qS (qX 0 [1] [1] (kX a)) (qR bq (fun r=>.b r))) o) (Aq a i):=by
 unfold zl at h;simp only[ZC,Aq,Kf];obtain⟨c,h⟩|⟨c,h⟩:=aj h
 ·obtain⟨v,j,h⟩:=af h;obtain⟨w,k,h⟩:=af h;have f:=ZA c (aO j);refine ZF f ?_;refine ZSG f (w_eb _ k) ?_;obtain⟨d,h⟩|⟨d,h⟩:=aj h
  ·cases h;exact ZL (ZA f d) @bq.eq_1
  ·obtain⟨x,l,h⟩:=af h;obtain⟨m,p,q,s,t⟩:=Sr AV.z l;obtain⟨y,u,h⟩:=af h;have f:=ZA f (ZA d (ZA m (ZA p (ZA q (ZA s t)))));refine ZF f ?_;refine ZSG f (w_ec _ _ u) ?_;obtain⟨g,h⟩|⟨g,h⟩:=aj h
   ·cases h;exact ZL (ZA f g) @bq.eq_1
   ·cases h;exact ZL (ZA f g) (ZA @Aq.eq_1 @kX.eq_1)
 ·cases h;exact ZL c (ZA @Aq.eq_1 @kX.eq_1)
def vq(a:ae)(v:Int):St:=⟨[(1,.pt 1 0 0),(28,.lst .o 4 (a.F.map (ai .o))),(29,.i (a.F.length:Int)),(30,.i v)],[(1,.var (.agg [.lst .o 1 (a.N.map AV.z),.lst .o 4 (a.F.map (ai .o))]))]⟩
theorem w_at(d:ae)(q:Int)(o:Int⊕(Unit⊕Bool))(h:zH d q=some o):AWP (OkS Tryz.prog) EJ (qL [1,28,29,30] [1] (vq d) (qS (qX 2 [1] [1] (kX d)) (qR bq (fun r=>.b r))) o) (vq d q):=by
 have e:=@bq.eq_1;unfold zH at h;simp only[ZC,vq,EJ];obtain⟨a,h⟩|⟨a,h⟩:=aj h
 ·obtain⟨w,g,h⟩:=af h;obtain⟨c,h⟩|⟨c,h⟩:=aj h
  ·cases h;exact ZL (ZA a (ZA (aO g) c)) e
  ·obtain⟨i,h⟩|⟨i,h⟩:=aj h
   ·cases h;exact ZL (ZA a (ZA (aO g) (ZA c i))) e
   ·obtain⟨k,h⟩|⟨k,h⟩:=aj h
    ·cases h;exact ZL (ZA a (ZA (aO g) (ZA c (ZA i k)))) e
    ·obtain⟨x,s,h⟩:=af h;have f:=ZA a (ZA (aO g) (ZA c (ZA i k)));refine ZF f ?_;refine ZSG f (w_b _ _ _ s) ?_;obtain⟨l,h⟩|⟨l,h⟩:=aj h
     ·cases h;exact ZL (ZA f l) e
     ·obtain⟨y,t,h⟩:=af h;have f:=ZA f l;refine ZF f ?_;refine ZSG f (w_b _ _ _ t) ?_;obtain⟨j,h⟩|⟨j,h⟩:=aj h
      ·cases h;exact ZL (ZA f j) e
      ·obtain⟨m,h⟩|⟨m,h⟩:=aj h
       ·obtain⟨z,u,h⟩:=af h;obtain⟨a1,v,h⟩:=af h;have f:=ZA f (ZA j (ZA m (aO u)));refine ZF f ?_;refine ZSG f (w_ed _ _ v) ?_;obtain⟨p,h⟩|⟨p,h⟩:=aj h
        ·cases h;exact ZL (ZA f p) e
        ·cases h;exact ZL (ZA f p) (ZA @vq.eq_1 @kX.eq_1)
       ·cases h;exact ZL (ZA f (ZA j m)) (ZA @vq.eq_1 @kX.eq_1)
 ·cases h;exact ZL a (ZA @vq.eq_1 @kX.eq_1)
theorem w_co(a:ae){r:Bool}(h:BG a=some r):Ok Tryz.prog 81 [.agg [.lst .o 1 (a.N.map AV.z),.lst .o 4 (a.F.map (ai .o))]] (.b r):=by
 refine az ba m81 rfl ?_;unfold BG at h;simp only[ZC,A81,bq,aJ];obtain⟨d,g,h⟩:=af h;try refine ZF trivial ?_
 refine bj (o:=d) (bz de (aD (w_ay a) g ?_)) (fun p hv=>?_) (fun q hv e τ hne hq=>?_)
 ·exact ZK (ZA @Aq.eq_1 @kX.eq_1)
 ·subst hv;simp only[] at h;simp only[ZC,kX,Pc];obtain⟨i,j,h⟩:=af h;try refine ZF trivial ?_
  refine bj (o:=i) (bz de (aD (w_at a) j ?_)) (fun s hv=>?_) (fun t hv e τ hne hq=>?_)
  ·exact ZK (ZA @vq.eq_1 @kX.eq_1)
  ·subst hv;simp only[] at h;simp only[ZC,kX,Pe];obtain⟨u,k,h⟩:=af h;refine ZF trivial ?_;refine ZSG trivial (w_b _ _ _ k) ?_;obtain⟨c,h⟩|⟨c,h⟩:=aj h
   ·cases h;exact ZL c @bq.eq_1
   ·cases h;exact ZL c @bq.eq_1
  ·subst hv;simp only[] at h;obtain⟨rfl,l⟩:=hq;cases h;exact l
 ·subst hv;simp only[] at h;obtain⟨rfl,m⟩:=hq;cases h;exact m
theorem w_ee(g:ae)(c:aI){r:Bool}(h:DM g c=some r):Ok Tryz.prog 243 [.agg [.lst .o 1 (g.N.map AV.z),.lst .o 4 (g.F.map (ai .o))],.agg [.i c.N,.i c.L,.i c.F,.i c.P]] (.b r):=by
 have e:=@aN.eq_1;refine az ba m243 rfl ?_;unfold DM at h;simp only[ZC,A243,aN,aJ];obtain⟨s,l,h⟩:=af h;refine ZF trivial ?_;refine ZSG trivial (w_b _ _ _ l) ?_;obtain⟨a,h⟩|⟨a,h⟩:=aj h
 ·obtain⟨t,m,h⟩:=af h;refine ZF a ?_;refine ZSG a (w_b _ _ _ m) ?_;obtain⟨d,h⟩|⟨d,h⟩:=aj h
  ·obtain⟨j,h⟩|⟨j,h⟩:=aj h
   ·obtain⟨u,p,h⟩:=af h;have f:=ZA a (ZA d j);refine ZF f ?_;refine ZSG f (w_b _ _ _ p) ?_;obtain⟨k,h⟩|⟨k,h⟩:=aj h
    ·obtain⟨v,q,h⟩:=af h;have f:=ZA f k;refine ZF f ?_;refine ZSG f (w_b _ _ _ q) ?_;cases h;exact ZL f e
    ·cases h;exact ZL (ZA f k) e
   ·cases h;exact ZL (ZA a (ZA d j)) e
  ·cases h;exact ZL (ZA a d) e
 ·cases h;exact ZL a e
theorem w_fl(a:aI)(p1Z0:ae){r:Bool}(h:LH a p1Z0=some r):Ok Tryz.prog 242 [.agg [.i a.N,.i a.L,.i a.F,.i a.P],.bp .o (.agg [.lst .o 1 (p1Z0.N.map AV.z),.lst .o 4 (p1Z0.F.map (ai .o))]) 0] (.b r):=by
 refine az ba m242 rfl ?_;unfold LH at h;simp only[ZC,A242,sr,aJ];obtain⟨d,c,h⟩:=af h;refine ZF trivial ?_;refine ZSG trivial (w_ee _ _ c) ?_;cases h;exact ZL trivial @sr.eq_1
def FA(a:List aI)(F_fZ0:Nat)(C_fZ0:List AV)(v:Int):St:=⟨[(0,.lst .o 4 (a.map (aK .o))),(1,.fn F_fZ0 C_fZ0),(7,.i (a.length:Int)),(8,.i v)],[]⟩
theorem w_bi(c:List aI)(j:aI->Option Bool)(F_fZ0:Nat)(C_fZ0:List AV)(hC_fZ0:lV C_fZ0)(hf_fZ0:∀(x0:aI)(r:Bool),j x0=some r->Ok Tryz.prog F_fZ0 ((.agg [.i x0.N,.i x0.L,.i x0.F,.i x0.P])::C_fZ0) (.b r))(k:Int)(o:Int⊕(Unit⊕Int))(h:AL c j k=some o):AWP (OkS Tryz.prog) vO (qL [0,1,7,8] [] (FA c F_fZ0 C_fZ0) (qS (qX 0 [] [] (cq)) (qR aN (fun r=>.i r))) o) (FA c F_fZ0 C_fZ0 k):=by
 have e:=ZA @FA.eq_1 @cq.eq_1;unfold AL at h;simp only[ZC,FA,vO];obtain⟨a,h⟩|⟨a,h⟩:=aj h
 ·obtain⟨m,d,h⟩:=af h;obtain⟨p,l,h⟩:=af h;have f:=ZA a (aO d);refine ZF f ?_;have f:=ZA f hC_fZ0.1;refine ZSG f (hf_fZ0 _ _ l) ?_;obtain⟨g,h⟩|⟨g,h⟩:=aj h
  ·cases h;exact ZL (ZA a (ZA (aO d) g)) (ZA @aN.eq_1 (ZA hC_fZ0.2 ((ch hC_fZ0))))
  ·cases h;exact ZL (ZA a (ZA (aO d) g)) (ZA e (ZA hC_fZ0.2 ((ch hC_fZ0))))
 ·cases h;exact ZL a (ZA e (ZA hC_fZ0.2 ((ch hC_fZ0))))
theorem w_fm(a:List aI)(c:aI->Option Bool){r:Int}(h:Kw a c=some r)(F_fZ0:Nat)(C_fZ0:List AV)(hC_fZ0:lV C_fZ0)(hf_fZ0:∀(x0:aI)(r:Bool),c x0=some r->Ok Tryz.prog F_fZ0 ((.agg [.i x0.N,.i x0.L,.i x0.F,.i x0.P])::C_fZ0) (.b r)):Ok Tryz.prog 262 [.lst .o 4 (a.map (aK .o)),.fn F_fZ0 C_fZ0] (.i r):=by
 refine az ba m262 rfl ?_;unfold Kw at h;simp only[ZC,A262,aN,aJ];obtain⟨d,g,h⟩:=af h;try refine ZF trivial ?_
 refine bj (o:=d) (bz de (aD (w_bi a c F_fZ0 C_fZ0 hC_fZ0 hf_fZ0) g ?_)) (fun k hv=>?_) (fun l hv e τ hne hq=>?_)
 ·exact ZK (ZA @FA.eq_1 (ZA @cq.eq_1 (ZA hC_fZ0.2 ((ch hC_fZ0)))))
 ·subst hv;simp only[] at h;simp only[ZC,cq,Hh];cases h;exact ZL trivial (ZA @aN.eq_1 (ZA hC_fZ0.2 ((ch hC_fZ0))))
 ·subst hv;simp only[] at h;obtain⟨rfl,j⟩:=hq;cases h;exact j
theorem w_ef(a:List aI)(c:aI->Option Bool){r:Bool}(h:FI a c=some r)(F_fZ0:Nat)(C_fZ0:List AV)(hC_fZ0:lV C_fZ0)(hf_fZ0:∀(x0:aI)(r:Bool),c x0=some r->Ok Tryz.prog F_fZ0 ((.agg [.i x0.N,.i x0.L,.i x0.F,.i x0.P])::C_fZ0) (.b r)):Ok Tryz.prog 241 [.lst .o 4 (a.map (aK .o)),.fn F_fZ0 C_fZ0] (.b r):=by
 refine az ba m241 rfl ?_;unfold FI at h;simp only[ZC,A241,aN,aJ];obtain⟨g,d,h⟩:=af h;refine ZF trivial ?_;refine ZSG hC_fZ0.1 (w_fm _ _ d F_fZ0 C_fZ0 hC_fZ0 hf_fZ0) ?_;cases h;exact ZL trivial (ZA @aN.eq_1 (ZA hC_fZ0.2 ((ch hC_fZ0))))
theorem w_eg(a:ae)(g:List aI){r:Bool}(h:Ff a g=some r):Ok Tryz.prog 220 [.agg [.lst .o 1 (a.N.map AV.z),.lst .o 4 (a.F.map (ai .o))],.lst .o 4 (g.map (aK .o))] (.b r):=by
 refine az ba m220 rfl ?_;unfold Ff at h;simp only[ZC,A220,aN,aJ];obtain⟨l,i,h⟩:=af h;refine ZF trivial ?_;refine ZSG trivial (w_co _ i) ?_;obtain⟨c,h⟩|⟨c,h⟩:=aj h
 ·obtain⟨d,h⟩|⟨d,h⟩:=aj h
  ·obtain⟨m,j,h⟩:=af h;have f:=ZA c d;refine ZF f ?_;refine ZSG f (w_ef _ _ j 242 [.bp .o (.agg [.lst .o 1 (a.N.map AV.z),.lst .o 4 (a.F.map (ai .o))]) 0] ⟨fun ρ k=>by simp only[VS1,VS2,VS3,VS4,VS5,VS6,VT1,VT2,bJ,bK,decide_true,decide_false,List.nodup_nil,List.nodup_cons,fg,fd,ff,ne_eq,not_false_eq_true,Int.reduceEq,Int.reduceNe,true_and,false_and,Nat.reduceSub,Nat.reduceMul,↓reduceIte,reduceCtorEq,Nat.reduceEqDiff,Nat.reduceAdd,Nat.reduceLeDiff,Int.reduceLE],by simp[aF,AV.ments]⟩ (fun _ _ h=>w_fl _ _ h)) ?_;cases h;exact ZL f @aN.eq_1
  ·cases h;exact ZL (ZA c d) @aN.eq_1
 ·cases h;exact ZL c @aN.eq_1
end Vs

