/-
  Part of the proof that FnExactRestoreAll returns true at every input.
-/
import Derived.Test.YtgpbibgbfklikaaGreatSe
import Derived.Test.YtgpbibgbfklikaaGreatCc
import Derived.Test.YtgpbibgbfklikaaGreatCe
import Derived.Test.YtgpbibgbfklikaaGreatRows
import Derived.WalkKit
import Derived.ProofKit
import Derived.OpenShut
import Derived.JoinedCond
set_option linter.defProp false
set_option linter.unusedSimpArgs false
set_option linter.unusedVariables false
namespace Vs
open Go
theorem fh{α:Type}(e:α->AV)(p:α->Prop):∀(xs:List AV),(∀x∈xs,∃t,x=e t/\p t)->∃ts:List α,xs=ts.map e/\∀t∈ts,p t
 |[],_=>⟨[],rfl,by simp⟩
 | x :: xs, h => by
   obtain⟨t,h1,h2⟩:=h x (by simp);obtain⟨ts,h3,h4⟩:=fh e p xs fun y hy=>h y (by simp[hy]);exact⟨t::ts,by simp[h1,h3],fun s hs=>by
    rcases List.mem_cons.1 hs with rfl|hs
    ·exact h2
    ·exact h4 s hs⟩
theorem bN{l:Lf}{ls:List Lf}:∀{al:List AV},dA (l::ls) al->∃a al',al=a::al'/\wP l a/\dA ls al'
 |a::al,h=>⟨a,al,rfl,h.1,h.2⟩
 |[],h=>h.elim
theorem iH:∀{al:List AV},dA [] al->al=[]
 |[],_=>rfl
 |_::_,h=>h.elim
theorem Dt{n:Int}(h:(Lit.int .i64 n).wf=true):I64 n:=by
 simpa[Lit.wf,IntKind.min,IntKind.max,IntKind.signed,IntKind.bits,I64] using h
theorem cW{a:AV}(h:wP (.int .i64) a):∃n,a=.i n/\I64 n:=by
 obtain⟨n,h1,h2⟩:=h;exact⟨n,h1,Dt h2⟩
theorem rec3{α:Type}(e:α->AV)(mk:Int->Int->Int->α)(he:∀a b c,e (mk a b c)=.agg [.i a,.i b,.i c]){y:AV}(h:sF (false,[.sl true [.int .i64,.int .i64,.int .i64]]) y):∃ts:List α,y=.lst .o 3 (ts.map e)/\ts.length<=maxLen:=by
 obtain⟨⟨xs,rfl,hl,hx⟩,_⟩:=h.2 rfl;obtain⟨ts,rfl,_⟩:=fh e (fun _=>True) xs fun x hxm=>by
  obtain⟨cs,rfl,hc⟩:=(hx x hxm).1 rfl;obtain⟨_,_,rfl,f1,hc⟩:=bN hc;obtain⟨_,_,rfl,f2,hc⟩:=bN hc;obtain⟨_,_,rfl,f3,hc⟩:=bN hc;obtain rfl:=iH hc;obtain⟨a,rfl,_⟩:=cW f1;obtain⟨b,rfl,_⟩:=cW f2;obtain⟨c,rfl,_⟩:=cW f3;exact⟨mk a b c,(he a b c).symm,trivial⟩
 rw[List.length_map] at hl;exact⟨ts,rfl,hl⟩
theorem ints{y:AV}(h:sF (false,[.sl false [.int .i64]]) y):∃ts:List Int,y=.lst .o 1 (ts.map AV.i)/\ts.length<=maxLen:=by
 obtain⟨⟨xs,rfl,hl,hx⟩,_⟩:=h.2 rfl;obtain⟨ts,rfl,_⟩:=fh AV.i (fun _=>True) xs fun x hxm=>by
  obtain⟨a,rfl,_⟩:=cW ((hx x hxm).2 rfl).1;exact⟨a,rfl,trivial⟩
 rw[List.length_map] at hl;exact⟨ts,rfl,hl⟩
theorem one3{α:Type}(e:α->AV)(mk:Int->Int->Int->α)(he:∀a b c,e (mk a b c)=.agg [.i a,.i b,.i c]){y:AV}(h:sF (true,[.int .i64,.int .i64,.int .i64]) y):∃t:α,y=e t:=by
 obtain⟨cs,rfl,hc⟩:=h.1 rfl;obtain⟨_,_,rfl,f1,hc⟩:=bN hc;obtain⟨_,_,rfl,f2,hc⟩:=bN hc;obtain⟨_,_,rfl,f3,hc⟩:=bN hc;obtain rfl:=iH hc;obtain⟨a,rfl,_⟩:=cW f1;obtain⟨b,rfl,_⟩:=cW f2;obtain⟨c,rfl,_⟩:=cW f3;exact⟨mk a b c,(he a b c).symm⟩
theorem int1{y:AV}(h:sF (false,[.int .i64]) y):∃n:Int,y=.i n:=by
 obtain⟨⟨n,rfl,_⟩,_⟩:=h.2 rfl;exact⟨n,rfl⟩
end Vs

namespace Vs
open Go Go.Proofs
theorem yS{a:AV}(h:wP (.sl false [.str]) a):∃xs:List ByteArray,a=.lst .o 1 (xs.map AV.z)/\md xs:=by
 obtain⟨xs,rfl,hl,hx⟩:=h;obtain⟨ts,rfl,ht⟩:=fh (AV.z) (fun x=>x.size<=9223372036854775807) xs fun x hxm=>by
  have hc:=((hx x hxm).2 rfl).1;obtain⟨s7,rfl,hs7⟩:=hc;exact⟨s7,rfl,(by simpa[maxLen] using hs7)⟩
 rw[List.length_map] at hl;exact⟨ts,rfl,⟨by simpa[maxLen] using hl,ht⟩⟩
theorem CJ{a:AV}(h:wP (.sl true [.int .i64,.int .i64,.int .i64,.int .i64]) a):∃xs:List ay,a=.lst .o 4 (xs.map (ai .o))/\iP xs:=by
 obtain⟨xs,rfl,hl,hx⟩:=h;obtain⟨ts,rfl,ht⟩:=fh ((ai .o)) (fun _=>True) xs fun x hxm=>by
  obtain⟨cs,rfl,hc⟩:=(hx x hxm).1 rfl;obtain⟨_,_,rfl,f9,hc⟩:=bN hc;obtain⟨_,_,rfl,f10,hc⟩:=bN hc;obtain⟨_,_,rfl,f11,hc⟩:=bN hc;obtain⟨_,_,rfl,f12,hc⟩:=bN hc;obtain rfl:=iH hc;obtain⟨n13,rfl,_⟩:=cW f9;obtain⟨n14,rfl,_⟩:=cW f10;obtain⟨n15,rfl,_⟩:=cW f11;obtain⟨n16,rfl,_⟩:=cW f12;exact⟨⟨n13,n14,n15,n16⟩,rfl,trivial⟩
 rw[List.length_map] at hl;exact⟨ts,rfl,by simpa[maxLen,iP] using hl⟩
theorem Bf{a:AV}(h:wP (.sl false [.int .i64]) a):∃xs:List Int,a=.lst .o 1 (xs.map AV.i)/\jE xs:=by
 obtain⟨xs,rfl,hl,hx⟩:=h;obtain⟨ts,rfl,ht⟩:=fh (AV.i) (fun _=>True) xs fun x hxm=>by
  have hc:=((hx x hxm).2 rfl).1;obtain⟨n26,rfl,_⟩:=cW hc;exact⟨n26,rfl,trivial⟩
 rw[List.length_map] at hl;exact⟨ts,rfl,by simpa[maxLen,jE] using hl⟩
theorem su{a:AV}(h:wP (.sl true [.int .i64,.int .i64,.sl false [.int .i64],.int .i64,.int .i64]) a):∃xs:List aj,a=.lst .o 5 (xs.map (ah .o))/\lm xs:=by
 obtain⟨xs,rfl,hl,hx⟩:=h;obtain⟨ts,rfl,ht⟩:=fh ((ah .o)) (fun x=>qN x) xs fun x hxm=>by
  obtain⟨cs,rfl,hc⟩:=(hx x hxm).1 rfl;obtain⟨_,_,rfl,f18,hc⟩:=bN hc;obtain⟨_,_,rfl,f19,hc⟩:=bN hc;obtain⟨_,_,rfl,f20,hc⟩:=bN hc;obtain⟨_,_,rfl,f21,hc⟩:=bN hc;obtain⟨_,_,rfl,f22,hc⟩:=bN hc;obtain rfl:=iH hc;obtain⟨n23,rfl,_⟩:=cW f18;obtain⟨n24,rfl,_⟩:=cW f19;obtain⟨l25,rfl,hl25⟩:=Bf f20;obtain⟨n27,rfl,_⟩:=cW f21;obtain⟨n28,rfl,_⟩:=cW f22;exact⟨⟨n23,⟨n24,l25⟩,⟨n27,n28⟩⟩,rfl,hl25⟩
 rw[List.length_map] at hl;exact⟨ts,rfl,⟨by simpa[maxLen] using hl,ht⟩⟩
theorem qy{y:AV}(h:sF (true,[.sl false [.str],.sl true [.int .i64,.int .i64,.int .i64,.int .i64],.sl true [.int .i64,.int .i64,.sl false [.int .i64],.int .i64,.int .i64],.sl true [.int .i64,.int .i64,.sl false [.int .i64],.int .i64,.int .i64],.sl false [.int .i64]]) y):∃x:aq,y=(aH .o) x/\gY x:=by
 obtain⟨cs,rfl,hc⟩:=h.1 rfl;obtain⟨_,_,rfl,f1,hc⟩:=bN hc;obtain⟨_,_,rfl,f2,hc⟩:=bN hc;obtain⟨_,_,rfl,f3,hc⟩:=bN hc;obtain⟨_,_,rfl,f4,hc⟩:=bN hc;obtain⟨_,_,rfl,f5,hc⟩:=bN hc;obtain rfl:=iH hc;obtain⟨l6,rfl,hl6⟩:=yS f1;obtain⟨l8,rfl,hl8⟩:=CJ f2;obtain⟨l17,rfl,hl17⟩:=su f3;obtain⟨l29,rfl,hl29⟩:=su f4;obtain⟨l30,rfl,hl30⟩:=Bf f5;exact⟨⟨⟨⟨l6,l8⟩,l17⟩,l29,l30⟩,rfl,⟨⟨⟨hl6,hl8⟩,hl17⟩,hl29,hl30⟩⟩
theorem ok11(ys:List AV)(h:pb [(true,[.sl false [.str],.sl true [.int .i64,.int .i64,.int .i64,.int .i64],.sl true [.int .i64,.int .i64,.sl false [.int .i64],.int .i64,.int .i64],.sl true [.int .i64,.int .i64,.sl false [.int .i64],.int .i64,.int .i64],.sl false [.int .i64]])] ys):Ok Tryz.prog 11 ys (.b true):=by
 match ys,h with
 | [a1], ⟨h1, _⟩ =>
   obtain⟨x1,rfl,o1⟩:=qy h1;exact w_ih x1 (lC x1 o1)
end Vs
namespace Go.Proofs.YtgpbibgbfklikaaGreat.fnExactRestoreAll
open Go.ChangeShapes Go.WideShapes Go.ChangeAt Go.RowKit
theorem own:ownKnob Tryz.prog.godebug=none:=by kernel_rfl
set_option maxRecDepth 100000 in
theorem lifted(os:Os)(started:os.Started)(H:Type)(enc:TypeId×Value->H):
 ReturnsInHanded {} Tryz.checked os 11 .any (Rows.fnExactRestoreAllSpec.pre6 enc Tryz.prog Tryz.f11 Rows.fnExactRestoreAllRow.domain false) (Rows.fnExactRestoreAllSpec.post enc Tryz.prog Tryz.f11 false true false false):=by
 refine returnsInHanded_of_change (C:=Tryz.checked) own started (by kernel_rfl) Tryz.func11
  (ChangeSpec.witness6 (enc:=enc) (C:=Tryz.checked) false ⟨#[],#[.agg #[.slice none 0 0,.slice none 0 0,.slice none 0 0,.slice none 0 0,.slice none 0 0]],[]⟩ 8 (by kernel_rfl) (by kernel_rfl) (by kernel_rfl) (by kernel_rfl)) ?_
 intro W base args ds gs before hval hW _ _;exact Vs.law_calls (k:=40) (ss:=[(true,[.sl false [.str],.sl true [.int .i64,.int .i64,.int .i64,.int .i64],.sl true [.int .i64,.int .i64,.sl false [.int .i64],.int .i64,.int .i64],.sl true [.int .i64,.int .i64,.sl false [.int .i64],.int .i64,.int .i64],.sl false [.int .i64]])]) rfl (fun ds h=>by
  match ds,h with
  |[d1],_=>rfl) rfl (by kernel_rfl) (by kernel_rfl) Vs.ok11 hval hW
theorem cl1:(laidOutB Tryz.pinned.checked.prog)=true:=by kernel_rfl
theorem cl8:(Tryz.pinned.checked.prog.stopKnobs==[])=true:=by kernel_rfl
theorem cl9:(Rows.fnExactRestoreAllRow.inPlace==Tryz.pinned.checked.prog.inPlace 11)=true:=by kernel_rfl
theorem cl10:(Rows.fnExactRestoreAllRow.unfollowed==Tryz.pinned.checked.prog.unfollowed 11)=true:=by kernel_rfl
theorem cl11:(Rows.fnExactRestoreAllRow.recurses==Tryz.pinned.checked.prog.recurses 11)=true:=by kernel_rfl
theorem cl24:(Tryz.pinned.checked.prog.stopsHeard)=true:=by kernel_rfl
theorem cl25:(Tryz.pinned.checked.prog.mayEnter)=true:=by kernel_rfl
theorem cl26:(Rows.fnExactRestoreAllRow.lifted==Tryz.pinned.checked.prog.liftsFinal)=true:=by kernel_rfl
theorem closed:joinedFacts Tryz.pinned.checked.prog 11 Tryz.f11 Rows.fnExactRestoreAllSpec Rows.fnExactRestoreAllRow=true:=by
 unfold joinedFacts;rw[cl1,cl8,cl9,cl10,cl11,cl24,cl25,cl26]
 kernel_rfl
theorem ec:Rows.fnExactRestoreAllRow.holds Tryz.pinned (OpenSpec.ofChange Rows.fnExactRestoreAllSpec):=
 OpenClaim.holds_of_wide 11 Tryz.f11 rfl rfl rfl rfl rfl rfl rfl ⟨rfl,rfl,rfl,rfl,rfl⟩ rfl rfl rfl rfl rfl (by kernel_rfl) Tryz.func11 closed
  (of_decide_eq_true (by kernel_rfl)) (by unfold Func.isWrapper;first|(rw[if_pos (by decide+kernel)];kernel_rfl)|(rw[if_neg (by decide+kernel)];exact⟨rfl,rfl⟩))
  (fun os started H enc _=>lifted os started H enc)
theorem proved:Rows.FnExactRestoreAllSaid:=ec
end Go.Proofs.YtgpbibgbfklikaaGreat.fnExactRestoreAll

