/-
  Part of the proof that FnExactRunEvents returns true at every input.
-/
import Derived.Test.YtgpbibgbfklikaaGreatTe
import Derived.Test.YtgpbibgbfklikaaGreatGc
import Derived.Test.YtgpbibgbfklikaaGreatGe
import Derived.Test.YtgpbibgbfklikaaGreatRows
import Derived.WalkKit
import Derived.ProofKit
import Derived.OpenShut
import Derived.JoinedCond
set_option linter.defProp false
set_option linter.unusedSimpArgs false
set_option linter.unusedVariables false
namespace Vs
open Go
theorem eS{α:Type}(e:α->AV)(p:α->Prop):∀(xs:List AV),(∀x∈xs,∃t,x=e t/\p t)->∃ts:List α,xs=ts.map e/\∀t∈ts,p t
 |[],_=>⟨[],rfl,by simp⟩
 | x :: xs, h => by
   obtain⟨t,h1,h2⟩:=h x (by simp);obtain⟨ts,h3,h4⟩:=eS e p xs fun y hy=>h y (by simp[hy]);exact⟨t::ts,by simp[h1,h3],fun s hs=>by
    rcases List.mem_cons.1 hs with rfl|hs
    ·exact h2
    ·exact h4 s hs⟩
theorem bO{l:Lf}{ls:List Lf}:∀{al:List AV},dG (l::ls) al->∃a al',al=a::al'/\xD l a/\dG ls al'
 |a::al,h=>⟨a,al,rfl,h.1,h.2⟩
 |[],h=>h.elim
theorem ic:∀{al:List AV},dG [] al->al=[]
 |[],_=>rfl
 |_::_,h=>h.elim
def GV{n:Int}(h:(Lit.int .i64 n).wf=true):I64 n:=by
 simpa[Lit.wf,IntKind.min,IntKind.max,IntKind.signed,IntKind.bits,I64] using h
def dr{a:AV}(h:xD (.int .i64) a):∃n,a=.i n/\I64 n:=by
 obtain⟨n,h1,h2⟩:=h;exact⟨n,h1,GV h2⟩
def rec3{α:Type}(e:α->AV)(mk:Int->Int->Int->α)(he:∀a b c,e (mk a b c)=.agg [.i a,.i b,.i c]){y:AV}(h:uU (false,[.sl true [.int .i64,.int .i64,.int .i64]]) y):∃ts:List α,y=.lst .o 3 (ts.map e)/\ts.length<=maxLen:=by
 obtain⟨⟨xs,rfl,hl,hx⟩,_⟩:=h.2 rfl;obtain⟨ts,rfl,_⟩:=eS e (fun _=>True) xs fun x hxm=>by
  obtain⟨cs,rfl,hc⟩:=(hx x hxm).1 rfl;obtain⟨_,_,rfl,f1,hc⟩:=bO hc;obtain⟨_,_,rfl,f2,hc⟩:=bO hc;obtain⟨_,_,rfl,f3,hc⟩:=bO hc;obtain rfl:=ic hc;obtain⟨a,rfl,_⟩:=dr f1;obtain⟨b,rfl,_⟩:=dr f2;obtain⟨c,rfl,_⟩:=dr f3;exact⟨mk a b c,(he a b c).symm,trivial⟩
 rw[List.length_map] at hl;exact⟨ts,rfl,hl⟩
def ints{y:AV}(h:uU (false,[.sl false [.int .i64]]) y):∃ts:List Int,y=.lst .o 1 (ts.map AV.i)/\ts.length<=maxLen:=by
 obtain⟨⟨xs,rfl,hl,hx⟩,_⟩:=h.2 rfl;obtain⟨ts,rfl,_⟩:=eS AV.i (fun _=>True) xs fun x hxm=>by
  obtain⟨a,rfl,_⟩:=dr ((hx x hxm).2 rfl).1;exact⟨a,rfl,trivial⟩
 rw[List.length_map] at hl;exact⟨ts,rfl,hl⟩
def one3{α:Type}(e:α->AV)(mk:Int->Int->Int->α)(he:∀a b c,e (mk a b c)=.agg [.i a,.i b,.i c]){y:AV}(h:uU (true,[.int .i64,.int .i64,.int .i64]) y):∃t:α,y=e t:=by
 obtain⟨cs,rfl,hc⟩:=h.1 rfl;obtain⟨_,_,rfl,f1,hc⟩:=bO hc;obtain⟨_,_,rfl,f2,hc⟩:=bO hc;obtain⟨_,_,rfl,f3,hc⟩:=bO hc;obtain rfl:=ic hc;obtain⟨a,rfl,_⟩:=dr f1;obtain⟨b,rfl,_⟩:=dr f2;obtain⟨c,rfl,_⟩:=dr f3;exact⟨mk a b c,(he a b c).symm⟩
def int1{y:AV}(h:uU (false,[.int .i64]) y):∃n:Int,y=.i n:=by
 obtain⟨⟨n,rfl,_⟩,_⟩:=h.2 rfl;exact⟨n,rfl⟩
end Vs

namespace Vs
open Go Go.Proofs
def CS{a:AV}(h:xD (.sl false [.str]) a):∃xs:List ByteArray,a=.lst .o 1 (xs.map AV.z)/\ne xs:=by
 obtain⟨xs,rfl,hl,hx⟩:=h;obtain⟨ts,rfl,ht⟩:=eS (AV.z) (fun x=>x.size<=9223372036854775807) xs fun x hxm=>by
  have hc:=((hx x hxm).2 rfl).1;obtain⟨s5,rfl,hs5⟩:=hc;exact⟨s5,rfl,(by simpa[maxLen] using hs5)⟩
 rw[List.length_map] at hl;exact⟨ts,rfl,⟨by simpa[maxLen] using hl,ht⟩⟩
def Gq{a:AV}(h:xD (.sl true [.int .i64,.int .i64,.int .i64,.int .i64]) a):∃xs:List aw,a=.lst .o 4 (xs.map (au .o))/\jM xs:=by
 obtain⟨xs,rfl,hl,hx⟩:=h;obtain⟨ts,rfl,ht⟩:=eS ((au .o)) (fun _=>True) xs fun x hxm=>by
  obtain⟨cs,rfl,hc⟩:=(hx x hxm).1 rfl;obtain⟨_,_,rfl,f7,hc⟩:=bO hc;obtain⟨_,_,rfl,f8,hc⟩:=bO hc;obtain⟨_,_,rfl,f9,hc⟩:=bO hc;obtain⟨_,_,rfl,f10,hc⟩:=bO hc;obtain rfl:=ic hc;obtain⟨n11,rfl,_⟩:=dr f7;obtain⟨n12,rfl,_⟩:=dr f8;obtain⟨n13,rfl,_⟩:=dr f9;obtain⟨n14,rfl,_⟩:=dr f10;exact⟨⟨n11,n12,n13,n14⟩,rfl,trivial⟩
 rw[List.length_map] at hl;exact⟨ts,rfl,by simpa[maxLen,jM] using hl⟩
def EA{a:AV}(h:xD (.sl false [.int .i64]) a):∃xs:List Int,a=.lst .o 1 (xs.map AV.i)/\iW xs:=by
 obtain⟨xs,rfl,hl,hx⟩:=h;obtain⟨ts,rfl,ht⟩:=eS (AV.i) (fun _=>True) xs fun x hxm=>by
  have hc:=((hx x hxm).2 rfl).1;obtain⟨n24,rfl,_⟩:=dr hc;exact⟨n24,rfl,trivial⟩
 rw[List.length_map] at hl;exact⟨ts,rfl,by simpa[maxLen,iW] using hl⟩
def Jg{a:AV}(h:xD (.sl true [.int .i64,.int .i64,.sl false [.int .i64],.int .i64,.int .i64]) a):∃xs:List af,a=.lst .o 5 (xs.map (ai .o))/\pA xs:=by
 obtain⟨xs,rfl,hl,hx⟩:=h;obtain⟨ts,rfl,ht⟩:=eS ((ai .o)) (fun x=>sd x) xs fun x hxm=>by
  obtain⟨cs,rfl,hc⟩:=(hx x hxm).1 rfl;obtain⟨_,_,rfl,f16,hc⟩:=bO hc;obtain⟨_,_,rfl,f17,hc⟩:=bO hc;obtain⟨_,_,rfl,f18,hc⟩:=bO hc;obtain⟨_,_,rfl,f19,hc⟩:=bO hc;obtain⟨_,_,rfl,f20,hc⟩:=bO hc;obtain rfl:=ic hc;obtain⟨n21,rfl,_⟩:=dr f16;obtain⟨n22,rfl,_⟩:=dr f17;obtain⟨l23,rfl,hl23⟩:=EA f18;obtain⟨n25,rfl,_⟩:=dr f19;obtain⟨n26,rfl,_⟩:=dr f20;exact⟨⟨n21,⟨n22,l23⟩,⟨n25,n26⟩⟩,rfl,hl23⟩
 rw[List.length_map] at hl;exact⟨ts,rfl,⟨by simpa[maxLen] using hl,ht⟩⟩
def Xz{y:AV}(h:uU (true,[.sl false [.str],.sl true [.int .i64,.int .i64,.int .i64,.int .i64],.sl true [.int .i64,.int .i64,.sl false [.int .i64],.int .i64,.int .i64]]) y):∃x:aB,y=(bv .o) x/\vU x:=by
 obtain⟨cs,rfl,hc⟩:=h.1 rfl;obtain⟨_,_,rfl,f1,hc⟩:=bO hc;obtain⟨_,_,rfl,f2,hc⟩:=bO hc;obtain⟨_,_,rfl,f3,hc⟩:=bO hc;obtain rfl:=ic hc;obtain⟨l4,rfl,hl4⟩:=CS f1;obtain⟨l6,rfl,hl6⟩:=Gq f2;obtain⟨l15,rfl,hl15⟩:=Jg f3;exact⟨⟨⟨l4,l6⟩,l15⟩,rfl,⟨⟨hl4,hl6⟩,hl15⟩⟩
def tp{a:AV}(h:xD (.sl true [.bool,.sl false [.int .i64]]) a):∃xs:List ax,a=.lst .o 2 (xs.map (aF .o))/\iu xs:=by
 obtain⟨xs,rfl,hl,hx⟩:=h;obtain⟨ts,rfl,ht⟩:=eS ((aF .o)) (fun x=>jk x) xs fun x hxm=>by
  obtain⟨cs,rfl,hc⟩:=(hx x hxm).1 rfl;obtain⟨_,_,rfl,f27,hc⟩:=bO hc;obtain⟨_,_,rfl,f28,hc⟩:=bO hc;obtain rfl:=ic hc;obtain⟨b29,rfl⟩:=f27;obtain⟨l30,rfl,hl30⟩:=EA f28;exact⟨⟨b29,l30⟩,rfl,hl30⟩
 rw[List.length_map] at hl;exact⟨ts,rfl,⟨by simpa[maxLen] using hl,ht⟩⟩
def ok12(ys:List AV)(h:qP [(true,[.sl false [.str],.sl true [.int .i64,.int .i64,.int .i64,.int .i64],.sl true [.int .i64,.int .i64,.sl false [.int .i64],.int .i64,.int .i64]]),(false,[.sl true [.bool,.sl false [.int .i64]]])] ys):Ok Tryz.prog 12 ys (.b true):=by
 match ys,h with
 | [a1, a2], ⟨h1, h2, _⟩ =>
   obtain⟨x1,rfl,o1⟩:=Xz h1;obtain⟨x2,rfl,o2⟩:=tp (h2.2 rfl).1;exact w_gj x1 x2 (mX x1 x2 o1 o2)
end Vs
namespace Go.Proofs.YtgpbibgbfklikaaGreat.fnExactRunEvents
open Go.ChangeShapes Go.WideShapes Go.ChangeAt Go.RowKit
def own:ownKnob Tryz.prog.godebug=none:=by kernel_rfl
set_option maxRecDepth 100000 in
theorem lifted(os:Os)(started:os.Started)(H:Type)(enc:TypeId×Value->H):
 ReturnsInHanded {} Tryz.checked os 12 .any (Rows.fnExactRunEventsSpec.pre6 enc Tryz.prog Tryz.f12 Rows.fnExactRunEventsRow.domain false) (Rows.fnExactRunEventsSpec.post enc Tryz.prog Tryz.f12 false true false false):=by
 refine returnsInHanded_of_change (C:=Tryz.checked) own started (by kernel_rfl) Tryz.func12
  (ChangeSpec.witness6 (enc:=enc) (C:=Tryz.checked) false ⟨#[],#[.agg #[.slice none 0 0,.slice none 0 0,.slice none 0 0],.slice none 0 0],[]⟩ 8 (by kernel_rfl) (by kernel_rfl) (by kernel_rfl) (by kernel_rfl)) ?_
 intro W base args ds gs before hval hW _ _;exact Vs.law_calls (k:=40) (ss:=[(true,[.sl false [.str],.sl true [.int .i64,.int .i64,.int .i64,.int .i64],.sl true [.int .i64,.int .i64,.sl false [.int .i64],.int .i64,.int .i64]]),(false,[.sl true [.bool,.sl false [.int .i64]]])]) rfl (fun ds h=>by
  match ds,h with
  |[d1,d2],_=>rfl) rfl (by kernel_rfl) (by kernel_rfl) Vs.ok12 hval hW
def cl1:(laidOutB Tryz.pinned.checked.prog)=true:=by kernel_rfl
def cl8:(Tryz.pinned.checked.prog.stopKnobs==[])=true:=by kernel_rfl
def cl9:(Rows.fnExactRunEventsRow.inPlace==Tryz.pinned.checked.prog.inPlace 12)=true:=by kernel_rfl
def cl10:(Rows.fnExactRunEventsRow.unfollowed==Tryz.pinned.checked.prog.unfollowed 12)=true:=by kernel_rfl
def cl11:(Rows.fnExactRunEventsRow.recurses==Tryz.pinned.checked.prog.recurses 12)=true:=by kernel_rfl
def cl24:(Tryz.pinned.checked.prog.stopsHeard)=true:=by kernel_rfl
def cl25:(Tryz.pinned.checked.prog.mayEnter)=true:=by kernel_rfl
def cl26:(Rows.fnExactRunEventsRow.lifted==Tryz.pinned.checked.prog.liftsFinal)=true:=by kernel_rfl
def closed:joinedFacts Tryz.pinned.checked.prog 12 Tryz.f12 Rows.fnExactRunEventsSpec Rows.fnExactRunEventsRow=true:=by
 unfold joinedFacts;rw[cl1,cl8,cl9,cl10,cl11,cl24,cl25,cl26]
 kernel_rfl
theorem dz:Rows.fnExactRunEventsRow.holds Tryz.pinned (OpenSpec.ofChange Rows.fnExactRunEventsSpec):=
 OpenClaim.holds_of_wide 12 Tryz.f12 rfl rfl rfl rfl rfl rfl rfl ⟨rfl,rfl,rfl,rfl,rfl⟩ rfl rfl rfl rfl rfl (by kernel_rfl) Tryz.func12 closed
  (of_decide_eq_true (by kernel_rfl)) (by unfold Func.isWrapper;first|(rw[if_pos (by decide+kernel)];kernel_rfl)|(rw[if_neg (by decide+kernel)];exact⟨rfl,rfl⟩))
  (fun os started H enc _=>lifted os started H enc)
def proved:Rows.FnExactRunEventsSaid:=dz
end Go.Proofs.YtgpbibgbfklikaaGreat.fnExactRunEvents

