/-
  Part of the proof that the law FnExactRestoreLight returns true at every input; no condition beside the row's own.
-/
import Derived.Test.YtgpbibgbfklikaaGreatRe
import Derived.Test.YtgpbibgbfklikaaGreatBc
import Derived.Test.YtgpbibgbfklikaaGreatBe
import Derived.Test.YtgpbibgbfklikaaGreatRows
import Derived.WalkKit
import Derived.ProofKit
import Derived.OpenShut
import Derived.JoinedCond
set_option linter.defProp false
set_option linter.unusedSimpArgs false
set_option linter.unusedVariables false
namespace Vs
open Go
theorem fd{α:Type}(e:α->AV)(p:α->Prop):∀(xs:List AV),(∀x∈xs,∃t,x=e t/\p t)->∃ts:List α,xs=ts.map e/\∀t∈ts,p t
 |[],_=>⟨[],rfl,by simp⟩
 | x :: xs, h => by
   obtain⟨t,h1,h2⟩:=h x (by simp);obtain⟨ts,h3,h4⟩:=fd e p xs fun y hy=>h y (by simp[hy]);exact⟨t::ts,by simp[h1,h3],fun s hs=>by
    rcases List.mem_cons.1 hs with rfl|hs
    ·exact h2
    ·exact h4 s hs⟩
theorem bM{l:Lf}{ls:List Lf}:∀{al:List AV},dw (l::ls) al->∃a al',al=a::al'/\wQ l a/\dw ls al'
 |a::al,h=>⟨a,al,rfl,h.1,h.2⟩
 |[],h=>h.elim
theorem iW:∀{al:List AV},dw [] al->al=[]
 |[],_=>rfl
 |_::_,h=>h.elim
theorem Ff{n:Int}(h:(Lit.int .i64 n).wf=true):I64 n:=by
 simpa[Lit.wf,IntKind.min,IntKind.max,IntKind.signed,IntKind.bits,I64] using h
theorem cW{a:AV}(h:wQ (.int .i64) a):∃n,a=.i n/\I64 n:=by
 obtain⟨n,h1,h2⟩:=h;exact⟨n,h1,Ff h2⟩
theorem rec3{α:Type}(e:α->AV)(mk:Int->Int->Int->α)(he:∀a b c,e (mk a b c)=.agg [.i a,.i b,.i c]){y:AV}(h:tp (false,[.sl true [.int .i64,.int .i64,.int .i64]]) y):∃ts:List α,y=.lst .o 3 (ts.map e)/\ts.length<=maxLen:=by
 obtain⟨⟨xs,rfl,hl,hx⟩,_⟩:=h.2 rfl;obtain⟨ts,rfl,_⟩:=fd e (fun _=>True) xs fun x hxm=>by
  obtain⟨cs,rfl,hc⟩:=(hx x hxm).1 rfl;obtain⟨_,_,rfl,f1,hc⟩:=bM hc;obtain⟨_,_,rfl,f2,hc⟩:=bM hc;obtain⟨_,_,rfl,f3,hc⟩:=bM hc;obtain rfl:=iW hc;obtain⟨a,rfl,_⟩:=cW f1;obtain⟨b,rfl,_⟩:=cW f2;obtain⟨c,rfl,_⟩:=cW f3;exact⟨mk a b c,(he a b c).symm,trivial⟩
 rw[List.length_map] at hl;exact⟨ts,rfl,hl⟩
theorem ints{y:AV}(h:tp (false,[.sl false [.int .i64]]) y):∃ts:List Int,y=.lst .o 1 (ts.map AV.i)/\ts.length<=maxLen:=by
 obtain⟨⟨xs,rfl,hl,hx⟩,_⟩:=h.2 rfl;obtain⟨ts,rfl,_⟩:=fd AV.i (fun _=>True) xs fun x hxm=>by
  obtain⟨a,rfl,_⟩:=cW ((hx x hxm).2 rfl).1;exact⟨a,rfl,trivial⟩
 rw[List.length_map] at hl;exact⟨ts,rfl,hl⟩
theorem one3{α:Type}(e:α->AV)(mk:Int->Int->Int->α)(he:∀a b c,e (mk a b c)=.agg [.i a,.i b,.i c]){y:AV}(h:tp (true,[.int .i64,.int .i64,.int .i64]) y):∃t:α,y=e t:=by
 obtain⟨cs,rfl,hc⟩:=h.1 rfl;obtain⟨_,_,rfl,f1,hc⟩:=bM hc;obtain⟨_,_,rfl,f2,hc⟩:=bM hc;obtain⟨_,_,rfl,f3,hc⟩:=bM hc;obtain rfl:=iW hc;obtain⟨a,rfl,_⟩:=cW f1;obtain⟨b,rfl,_⟩:=cW f2;obtain⟨c,rfl,_⟩:=cW f3;exact⟨mk a b c,(he a b c).symm⟩
theorem int1{y:AV}(h:tp (false,[.int .i64]) y):∃n:Int,y=.i n:=by
 obtain⟨⟨n,rfl,_⟩,_⟩:=h.2 rfl;exact⟨n,rfl⟩
end Vs

namespace Vs
open Go Go.Proofs
theorem zY{a:AV}(h:wQ (.sl false [.str]) a):∃xs:List ByteArray,a=.lst .o 1 (xs.map AV.z)/\mt xs:=by
 obtain⟨xs,rfl,hl,hx⟩:=h;obtain⟨ts,rfl,ht⟩:=fd (AV.z) (fun x=>x.size<=9223372036854775807) xs fun x hxm=>by
  have hc:=((hx x hxm).2 rfl).1;obtain⟨s7,rfl,hs7⟩:=hc;exact⟨s7,rfl,(by simpa[maxLen] using hs7)⟩
 rw[List.length_map] at hl;exact⟨ts,rfl,⟨by simpa[maxLen] using hl,ht⟩⟩
theorem Fy{a:AV}(h:wQ (.sl true [.int .i64,.int .i64,.int .i64,.int .i64]) a):∃xs:List ay,a=.lst .o 4 (xs.map (ah .o))/\iL xs:=by
 obtain⟨xs,rfl,hl,hx⟩:=h;obtain⟨ts,rfl,ht⟩:=fd ((ah .o)) (fun _=>True) xs fun x hxm=>by
  obtain⟨cs,rfl,hc⟩:=(hx x hxm).1 rfl;obtain⟨_,_,rfl,f9,hc⟩:=bM hc;obtain⟨_,_,rfl,f10,hc⟩:=bM hc;obtain⟨_,_,rfl,f11,hc⟩:=bM hc;obtain⟨_,_,rfl,f12,hc⟩:=bM hc;obtain rfl:=iW hc;obtain⟨n13,rfl,_⟩:=cW f9;obtain⟨n14,rfl,_⟩:=cW f10;obtain⟨n15,rfl,_⟩:=cW f11;obtain⟨n16,rfl,_⟩:=cW f12;exact⟨⟨n13,n14,n15,n16⟩,rfl,trivial⟩
 rw[List.length_map] at hl;exact⟨ts,rfl,by simpa[maxLen,iL] using hl⟩
theorem Az{a:AV}(h:wQ (.sl false [.int .i64]) a):∃xs:List Int,a=.lst .o 1 (xs.map AV.i)/\jE xs:=by
 obtain⟨xs,rfl,hl,hx⟩:=h;obtain⟨ts,rfl,ht⟩:=fd (AV.i) (fun _=>True) xs fun x hxm=>by
  have hc:=((hx x hxm).2 rfl).1;obtain⟨n26,rfl,_⟩:=cW hc;exact⟨n26,rfl,trivial⟩
 rw[List.length_map] at hl;exact⟨ts,rfl,by simpa[maxLen,jE] using hl⟩
theorem sR{a:AV}(h:wQ (.sl true [.int .i64,.int .i64,.sl false [.int .i64],.int .i64,.int .i64]) a):∃xs:List aq,a=.lst .o 5 (xs.map (ai .o))/\lk xs:=by
 obtain⟨xs,rfl,hl,hx⟩:=h;obtain⟨ts,rfl,ht⟩:=fd ((ai .o)) (fun x=>qo x) xs fun x hxm=>by
  obtain⟨cs,rfl,hc⟩:=(hx x hxm).1 rfl;obtain⟨_,_,rfl,f18,hc⟩:=bM hc;obtain⟨_,_,rfl,f19,hc⟩:=bM hc;obtain⟨_,_,rfl,f20,hc⟩:=bM hc;obtain⟨_,_,rfl,f21,hc⟩:=bM hc;obtain⟨_,_,rfl,f22,hc⟩:=bM hc;obtain rfl:=iW hc;obtain⟨n23,rfl,_⟩:=cW f18;obtain⟨n24,rfl,_⟩:=cW f19;obtain⟨l25,rfl,hl25⟩:=Az f20;obtain⟨n27,rfl,_⟩:=cW f21;obtain⟨n28,rfl,_⟩:=cW f22;exact⟨⟨n23,⟨n24,l25⟩,⟨n27,n28⟩⟩,rfl,hl25⟩
 rw[List.length_map] at hl;exact⟨ts,rfl,⟨by simpa[maxLen] using hl,ht⟩⟩
theorem pF{y:AV}(h:tp (true,[.sl false [.str],.sl true [.int .i64,.int .i64,.int .i64,.int .i64],.sl true [.int .i64,.int .i64,.sl false [.int .i64],.int .i64,.int .i64],.sl true [.int .i64,.int .i64,.sl false [.int .i64],.int .i64,.int .i64],.sl false [.int .i64]]) y):∃x:aj,y=(aH .o) x/\gG x:=by
 obtain⟨cs,rfl,hc⟩:=h.1 rfl;obtain⟨_,_,rfl,f1,hc⟩:=bM hc;obtain⟨_,_,rfl,f2,hc⟩:=bM hc;obtain⟨_,_,rfl,f3,hc⟩:=bM hc;obtain⟨_,_,rfl,f4,hc⟩:=bM hc;obtain⟨_,_,rfl,f5,hc⟩:=bM hc;obtain rfl:=iW hc;obtain⟨l6,rfl,hl6⟩:=zY f1;obtain⟨l8,rfl,hl8⟩:=Fy f2;obtain⟨l17,rfl,hl17⟩:=sR f3;obtain⟨l29,rfl,hl29⟩:=sR f4;obtain⟨l30,rfl,hl30⟩:=Az f5;exact⟨⟨⟨⟨l6,l8⟩,l17⟩,l29,l30⟩,rfl,⟨⟨⟨hl6,hl8⟩,hl17⟩,hl29,hl30⟩⟩
theorem ok10(ys:List AV)(h:pb [(true,[.sl false [.str],.sl true [.int .i64,.int .i64,.int .i64,.int .i64],.sl true [.int .i64,.int .i64,.sl false [.int .i64],.int .i64,.int .i64],.sl true [.int .i64,.int .i64,.sl false [.int .i64],.int .i64,.int .i64],.sl false [.int .i64]]),(false,[.int .i64])] ys):Ok Tryz.prog 10 ys (.b true):=by
 match ys,h with
 | [a1, a2], ⟨h1, h2, _⟩ =>
   obtain⟨x1,rfl,o1⟩:=pF h1;obtain⟨x2,rfl⟩:=int1 h2;exact w_hm x1 x2 (jJ x1 x2 o1)
end Vs
namespace Go.Proofs.YtgpbibgbfklikaaGreat.fnExactRestoreLight
open Go.ChangeShapes Go.WideShapes Go.ChangeAt Go.RowKit
theorem own:ownKnob Tryz.prog.godebug=none:=by kernel_rfl
set_option maxRecDepth 100000 in
theorem lifted(os:Os)(started:os.Started)(H:Type)(enc:TypeId×Value->H):
 ReturnsInHanded {} Tryz.checked os 10 .any (Rows.fnExactRestoreLightSpec.pre6 enc Tryz.prog Tryz.f10 Rows.fnExactRestoreLightRow.domain false) (Rows.fnExactRestoreLightSpec.post enc Tryz.prog Tryz.f10 false true false false):=by
 refine returnsInHanded_of_change (C:=Tryz.checked) own started (by kernel_rfl) Tryz.func10
  (ChangeSpec.witness6 (enc:=enc) (C:=Tryz.checked) false ⟨#[],#[.agg #[.slice none 0 0,.slice none 0 0,.slice none 0 0,.slice none 0 0,.slice none 0 0],.int .i64 0],[]⟩ 8 (by kernel_rfl) (by kernel_rfl) (by kernel_rfl) (by kernel_rfl)) ?_
 intro W base args ds gs before hval hW _ _;exact Vs.law_calls (k:=40) (ss:=[(true,[.sl false [.str],.sl true [.int .i64,.int .i64,.int .i64,.int .i64],.sl true [.int .i64,.int .i64,.sl false [.int .i64],.int .i64,.int .i64],.sl true [.int .i64,.int .i64,.sl false [.int .i64],.int .i64,.int .i64],.sl false [.int .i64]]),(false,[.int .i64])]) rfl (fun ds h=>by
  match ds,h with
  |[d1,d2],_=>rfl) rfl (by kernel_rfl) (by kernel_rfl) Vs.ok10 hval hW
theorem cl0:(Rows.fnExactRestoreLightRow.wf (OpenSpec.ofChange Rows.fnExactRestoreLightSpec))=true:=by kernel_rfl
theorem cl1:(laidOutB Tryz.pinned.checked.prog)=true:=by kernel_rfl
theorem cl2:(mapsRowed Tryz.pinned.checked.prog)=true:=by kernel_rfl
theorem cl3:(Tryz.f10.params.all (Tryz.pinned.checked.prog.readableRec ·))=true:=by kernel_rfl
theorem cl4:(namedTie Tryz.pinned.checked.prog Rows.fnExactRestoreLightRow.named Rows.fnExactRestoreLightSpec.vars)=true:=by kernel_rfl
theorem cl5:(Rows.fnExactRestoreLightRow.stops==[])=true:=by kernel_rfl
theorem cl6:(Tryz.pinned.checked.prog.stops==[])=true:=by kernel_rfl
theorem cl7:(Rows.fnExactRestoreLightRow.knobs==[])=true:=by kernel_rfl
theorem cl8:(Tryz.pinned.checked.prog.stopKnobs==[])=true:=by kernel_rfl
theorem cl9:(Rows.fnExactRestoreLightRow.inPlace==Tryz.pinned.checked.prog.inPlace 10)=true:=by kernel_rfl
theorem cl10:(Rows.fnExactRestoreLightRow.unfollowed==Tryz.pinned.checked.prog.unfollowed 10)=true:=by kernel_rfl
theorem cl11:(Rows.fnExactRestoreLightRow.recurses==Tryz.pinned.checked.prog.recurses 10)=true:=by kernel_rfl
theorem cl12:(Rows.fnExactRestoreLightRow.named==Tryz.pinned.checked.prog.varsNamed 10)=true:=by kernel_rfl
theorem cl13:(Rows.fnExactRestoreLightRow.maps==(Tryz.f10.params.toList++Rows.fnExactRestoreLightSpec.plain.varTypes Tryz.pinned.checked.prog).any (Tryz.pinned.checked.prog.mapsRec ·))=true:=by kernel_rfl
theorem cl14:(Rows.fnExactRestoreLightRow.ifaces==(Tryz.f10.params.toList++Rows.fnExactRestoreLightSpec.plain.varTypes Tryz.pinned.checked.prog).any (Tryz.pinned.checked.prog.ifacesRec ·))=true:=by kernel_rfl
theorem cl15:(Rows.fnExactRestoreLightRow.mapsOut==Tryz.pinned.checked.prog.mapsAmong Tryz.f10.resultTypes.toList)=true:=by kernel_rfl
theorem cl16:(Rows.fnExactRestoreLightRow.loops==(Tryz.f10.params.toList++Rows.fnExactRestoreLightSpec.plain.varTypes Tryz.pinned.checked.prog).any (Tryz.pinned.checked.prog.loopsFrom ·))=true:=by kernel_rfl
theorem cl17:(Rows.fnExactRestoreLightRow.wideKeys==(Tryz.f10.params.toList++Rows.fnExactRestoreLightSpec.plain.varTypes Tryz.pinned.checked.prog++Tryz.f10.resultTypes.toList).any (Tryz.pinned.checked.prog.wideKeysFrom ·))=true:=by kernel_rfl
theorem cl18:(Rows.fnExactRestoreLightSpec.vars.all (Tryz.pinned.checked.prog.varReadable ·))=true:=by kernel_rfl
theorem cl19:(Tryz.f10.resultTypes.all (fun t=>Tryz.pinned.checked.prog.readableRec t&&decide (t<Tryz.pinned.checked.prog.types.size)))=true:=by kernel_rfl
theorem cl20:(Rows.fnExactRestoreLightRow.ifacesOut==Tryz.f10.resultTypes.toList.any (Tryz.pinned.checked.prog.ifacesRec ·))=true:=by kernel_rfl
theorem cl21:(Rows.fnExactRestoreLightRow.loopsOut==Tryz.f10.resultTypes.toList.any (Tryz.pinned.checked.prog.loopsFrom ·))=true:=by kernel_rfl
theorem cl22:(Rows.fnExactRestoreLightRow.plainKeys==Tryz.pinned.checked.prog.plainKeys)=true:=by kernel_rfl
theorem cl23:(Rows.fnExactRestoreLightRow.shortTexts.isNone)=true:=by kernel_rfl
theorem cl24:(Tryz.pinned.checked.prog.stopsHeard)=true:=by kernel_rfl
theorem cl25:(Tryz.pinned.checked.prog.mayEnter)=true:=by kernel_rfl
theorem cl26:(Rows.fnExactRestoreLightRow.lifted==Tryz.pinned.checked.prog.liftsFinal)=true:=by kernel_rfl
theorem cl27:(Tryz.pinned.checked.prog.make==some Rows.fnExactRestoreLightRow.make)=true:=by kernel_rfl
theorem cl29:(Rows.fnExactRestoreLightRow.pinned==Rows.fnExactRestoreLightRow.pinnedBy)=true:=by kernel_rfl
theorem cl30:(Rows.fnExactRestoreLightRow.veiled==(Tryz.f10.params.toList++Rows.fnExactRestoreLightSpec.plain.varTypes Tryz.pinned.checked.prog++Tryz.f10.resultTypes.toList).any (Tryz.pinned.checked.prog.veiledRec ·))=true:=by kernel_rfl
theorem cl31:(Rows.fnExactRestoreLightRow.veiledFits Tryz.pinned.checked.prog Tryz.f10.params.toList (Tryz.f10.params.toList++Rows.fnExactRestoreLightSpec.plain.varTypes Tryz.pinned.checked.prog++Tryz.f10.resultTypes.toList))=true:=by kernel_rfl
theorem closed:joinedFacts Tryz.pinned.checked.prog 10 Tryz.f10 Rows.fnExactRestoreLightSpec Rows.fnExactRestoreLightRow=true:=by
 unfold joinedFacts;rw[cl0,cl1,cl2,cl3,cl4,cl5,cl6,cl7,cl8,cl9,cl10,cl11,cl12,cl13,cl14,cl15,cl16,cl17,cl18,cl19,cl20,cl21,cl22,cl23,cl24,cl25,cl26,cl27,cl29,cl30,cl31]
 kernel_rfl
theorem dZ:Rows.fnExactRestoreLightRow.holds Tryz.pinned (OpenSpec.ofChange Rows.fnExactRestoreLightSpec):=
 OpenClaim.holds_of_wide 10 Tryz.f10 rfl rfl rfl rfl rfl rfl rfl ⟨rfl,rfl,rfl,rfl,rfl⟩ rfl rfl rfl rfl rfl (by kernel_rfl) Tryz.func10 closed
  (of_decide_eq_true (by kernel_rfl)) (by unfold Func.isWrapper;first|(rw[if_pos (by decide+kernel)];kernel_rfl)|(rw[if_neg (by decide+kernel)];exact⟨rfl,rfl⟩))
  (fun os started H enc _=>lifted os started H enc)
theorem proved:Rows.FnExactRestoreLightSaid:=dZ
end Go.Proofs.YtgpbibgbfklikaaGreat.fnExactRestoreLight

