/-
  Part of the proof that FnExactCheapestPair returns true at every input.
-/
import Derived.Test.YtfmhphgpijjejaaGreatUe
import Derived.Test.YtfmhphgpijjejaaGreatEc
import Derived.Test.YtfmhphgpijjejaaGreatEe
import Derived.Test.YtfmhphgpijjejaaGreatRows
import Derived.WalkKit
import Derived.ProofKit
import Derived.OpenShut
import Derived.JoinedCond
set_option linter.defProp false
set_option linter.unusedSimpArgs false
set_option linter.unusedVariables false
namespace Vs
open Go
theorem fk{α:Type}(e:α->AV)(p:α->Prop):∀(xs:List AV),(∀x∈xs,∃t,x=e t/\p t)->∃ts:List α,xs=ts.map e/\∀t∈ts,p t
 |[],_=>⟨[],rfl,by simp⟩
 | x :: xs, h => by
   obtain⟨t,h1,h2⟩:=h x (by simp);obtain⟨ts,h3,h4⟩:=fk e p xs fun y hy=>h y (by simp[hy]);exact⟨t::ts,by simp[h1,h3],fun s hs=>by
    rcases List.mem_cons.1 hs with rfl|hs
    ·exact h2
    ·exact h4 s hs⟩
theorem bM{l:Lf}{ls:List Lf}:∀{al:List AV},cW (l::ls) al->∃a al',al=a::al'/\vF l a/\cW ls al'
 |a::al,h=>⟨a,al,rfl,h.1,h.2⟩
 |[],h=>h.elim
theorem gl:∀{al:List AV},cW [] al->al=[]
 |[],_=>rfl
 |_::_,h=>h.elim
theorem AO{n:Int}(h:(Lit.int .i64 n).wf=true):I64 n:=by
 simpa[Lit.wf,IntKind.min,IntKind.max,IntKind.signed,IntKind.bits,I64] using h
theorem cy{a:AV}(h:vF (.int .i64) a):∃n,a=.i n/\I64 n:=by
 obtain⟨n,h1,h2⟩:=h;exact⟨n,h1,AO h2⟩
theorem rec3{α:Type}(e:α->AV)(mk:Int->Int->Int->α)(he:∀a b c,e (mk a b c)=.agg [.i a,.i b,.i c]){y:AV}(h:oi (false,[.sl true [.int .i64,.int .i64,.int .i64]]) y):∃ts:List α,y=.lst .o 3 (ts.map e)/\ts.length<=maxLen:=by
 obtain⟨⟨xs,rfl,hl,hx⟩,_⟩:=h.2 rfl;obtain⟨ts,rfl,_⟩:=fk e (fun _=>True) xs fun x hxm=>by
  obtain⟨cs,rfl,hc⟩:=(hx x hxm).1 rfl;obtain⟨_,_,rfl,f1,hc⟩:=bM hc;obtain⟨_,_,rfl,f2,hc⟩:=bM hc;obtain⟨_,_,rfl,f3,hc⟩:=bM hc;obtain rfl:=gl hc;obtain⟨a,rfl,_⟩:=cy f1;obtain⟨b,rfl,_⟩:=cy f2;obtain⟨c,rfl,_⟩:=cy f3;exact⟨mk a b c,(he a b c).symm,trivial⟩
 rw[List.length_map] at hl;exact⟨ts,rfl,hl⟩
theorem ints{y:AV}(h:oi (false,[.sl false [.int .i64]]) y):∃ts:List Int,y=.lst .o 1 (ts.map AV.i)/\ts.length<=maxLen:=by
 obtain⟨⟨xs,rfl,hl,hx⟩,_⟩:=h.2 rfl;obtain⟨ts,rfl,_⟩:=fk AV.i (fun _=>True) xs fun x hxm=>by
  obtain⟨a,rfl,_⟩:=cy ((hx x hxm).2 rfl).1;exact⟨a,rfl,trivial⟩
 rw[List.length_map] at hl;exact⟨ts,rfl,hl⟩
theorem one3{α:Type}(e:α->AV)(mk:Int->Int->Int->α)(he:∀a b c,e (mk a b c)=.agg [.i a,.i b,.i c]){y:AV}(h:oi (true,[.int .i64,.int .i64,.int .i64]) y):∃t:α,y=e t:=by
 obtain⟨cs,rfl,hc⟩:=h.1 rfl;obtain⟨_,_,rfl,f1,hc⟩:=bM hc;obtain⟨_,_,rfl,f2,hc⟩:=bM hc;obtain⟨_,_,rfl,f3,hc⟩:=bM hc;obtain rfl:=gl hc;obtain⟨a,rfl,_⟩:=cy f1;obtain⟨b,rfl,_⟩:=cy f2;obtain⟨c,rfl,_⟩:=cy f3;exact⟨mk a b c,(he a b c).symm⟩
theorem int1{y:AV}(h:oi (false,[.int .i64]) y):∃n:Int,y=.i n:=by
 obtain⟨⟨n,rfl,_⟩,_⟩:=h.2 rfl;exact⟨n,rfl⟩
end Vs

namespace Vs
open Go Go.Proofs
theorem xz{a:AV}(h:vF (.sl false [.str]) a):∃xs:List ByteArray,a=.lst .o 1 (xs.map AV.z)/\kQ xs:=by
 obtain⟨xs,rfl,hl,hx⟩:=h;obtain⟨ts,rfl,ht⟩:=fk (AV.z) (fun x=>x.size<=9223372036854775807) xs fun x hxm=>by
  have hc:=((hx x hxm).2 rfl).1;obtain⟨s4,rfl,hs4⟩:=hc;exact⟨s4,rfl,(by simpa[maxLen] using hs4)⟩
 rw[List.length_map] at hl;exact⟨ts,rfl,⟨by simpa[maxLen] using hl,ht⟩⟩
theorem Ap{a:AV}(h:vF (.sl true [.int .i64,.int .i64,.int .i64,.int .i64]) a):∃xs:List ax,a=.lst .o 4 (xs.map (ai .o))/\im xs:=by
 obtain⟨xs,rfl,hl,hx⟩:=h;obtain⟨ts,rfl,ht⟩:=fk ((ai .o)) (fun _=>True) xs fun x hxm=>by
  obtain⟨cs,rfl,hc⟩:=(hx x hxm).1 rfl;obtain⟨_,_,rfl,f6,hc⟩:=bM hc;obtain⟨_,_,rfl,f7,hc⟩:=bM hc;obtain⟨_,_,rfl,f8,hc⟩:=bM hc;obtain⟨_,_,rfl,f9,hc⟩:=bM hc;obtain rfl:=gl hc;obtain⟨n10,rfl,_⟩:=cy f6;obtain⟨n11,rfl,_⟩:=cy f7;obtain⟨n12,rfl,_⟩:=cy f8;obtain⟨n13,rfl,_⟩:=cy f9;exact⟨⟨n10,n11,n12,n13⟩,rfl,trivial⟩
 rw[List.length_map] at hl;exact⟨ts,rfl,by simpa[maxLen,im] using hl⟩
theorem vU{y:AV}(h:oi (true,[.sl false [.str],.sl true [.int .i64,.int .i64,.int .i64,.int .i64]]) y):∃x:ae,y=(aP .o) x/\kK x:=by
 obtain⟨cs,rfl,hc⟩:=h.1 rfl;obtain⟨_,_,rfl,f1,hc⟩:=bM hc;obtain⟨_,_,rfl,f2,hc⟩:=bM hc;obtain rfl:=gl hc;obtain⟨l3,rfl,hl3⟩:=xz f1;obtain⟨l5,rfl,hl5⟩:=Ap f2;exact⟨⟨l3,l5⟩,rfl,⟨hl3,hl5⟩⟩
theorem vm{a:AV}(h:vF (.sl true [.int .i64,.int .i64]) a):∃xs:List au,a=.lst .o 2 (xs.map (ay .o))/\gw xs:=by
 obtain⟨xs,rfl,hl,hx⟩:=h;obtain⟨ts,rfl,ht⟩:=fk ((ay .o)) (fun _=>True) xs fun x hxm=>by
  obtain⟨cs,rfl,hc⟩:=(hx x hxm).1 rfl;obtain⟨_,_,rfl,f14,hc⟩:=bM hc;obtain⟨_,_,rfl,f15,hc⟩:=bM hc;obtain rfl:=gl hc;obtain⟨n16,rfl,_⟩:=cy f14;obtain⟨n17,rfl,_⟩:=cy f15;exact⟨⟨n16,n17⟩,rfl,trivial⟩
 rw[List.length_map] at hl;exact⟨ts,rfl,by simpa[maxLen,gw] using hl⟩
theorem zF{y:AV}(h:oi (true,[.int .i64,.int .i64,.int .i64,.int .i64]) y):∃x:aI,y=(aK .o) x:=by
 obtain⟨cs,rfl,hc⟩:=h.1 rfl;obtain⟨_,_,rfl,f18,hc⟩:=bM hc;obtain⟨_,_,rfl,f19,hc⟩:=bM hc;obtain⟨_,_,rfl,f20,hc⟩:=bM hc;obtain⟨_,_,rfl,f21,hc⟩:=bM hc;obtain rfl:=gl hc;obtain⟨n22,rfl,_⟩:=cy f18;obtain⟨n23,rfl,_⟩:=cy f19;obtain⟨n24,rfl,_⟩:=cy f20;obtain⟨n25,rfl,_⟩:=cy f21;exact⟨⟨n22,n23,n24,n25⟩,rfl⟩
theorem ok6(ys:List AV)(h:nA [(true,[.sl false [.str],.sl true [.int .i64,.int .i64,.int .i64,.int .i64]]),(false,[.sl true [.int .i64,.int .i64]]),(true,[.int .i64,.int .i64,.int .i64,.int .i64])] ys):Ok Tryz.prog 6 ys (.b true):=by
 match ys,h with
 | [a1, a2, a3], ⟨h1, h2, h3, _⟩ =>
   obtain⟨x1,rfl,o1⟩:=vU h1;obtain⟨x2,rfl,o2⟩:=vm (h2.2 rfl).1;obtain⟨x3,rfl⟩:=zF h3;exact w_fg x1 x2 x3 (je x1 x2 x3 o1 o2)
end Vs
namespace Go.Proofs.YtfmhphgpijjejaaGreat.fnExactCheapestPair
open Go.ChangeShapes Go.WideShapes Go.ChangeAt Go.RowKit
theorem own:ownKnob Tryz.prog.godebug=none:=by kernel_rfl
set_option maxRecDepth 100000 in
theorem Qx(os:Os)(started:os.Started)(H:Type)(enc:TypeId×Value->H):
 ReturnsInHanded {} Tryz.checked os 6 .any (Rows.fnExactCheapestPairSpec.pre6 enc Tryz.prog Tryz.f6 Rows.fnExactCheapestPairRow.domain false) (Rows.fnExactCheapestPairSpec.post enc Tryz.prog Tryz.f6 false true false false):=by
 refine returnsInHanded_of_change (C:=Tryz.checked) own started (by kernel_rfl) Tryz.func6
  (ChangeSpec.witness6 (enc:=enc) (C:=Tryz.checked) false ⟨#[],#[.agg #[.slice none 0 0,.slice none 0 0],.slice none 0 0,.agg #[.int .i64 0,.int .i64 0,.int .i64 0,.int .i64 0]],[]⟩ 8 (by kernel_rfl) (by kernel_rfl) (by kernel_rfl) (by kernel_rfl)) ?_
 intro W base args ds gs before hval hW _ _;exact Vs.law_calls (k:=40) (ss:=[(true,[.sl false [.str],.sl true [.int .i64,.int .i64,.int .i64,.int .i64]]),(false,[.sl true [.int .i64,.int .i64]]),(true,[.int .i64,.int .i64,.int .i64,.int .i64])]) rfl (fun ds h=>by
  match ds,h with
  |[d1,d2,d3],_=>rfl) rfl (by kernel_rfl) (by kernel_rfl) Vs.ok6 hval hW
theorem dA:Rows.fnExactCheapestPairRow.holds Tryz.pinned (OpenSpec.ofChange Rows.fnExactCheapestPairSpec):=
 OpenClaim.holds_of_wide 6 Tryz.f6 rfl rfl rfl rfl rfl rfl rfl ⟨rfl,rfl,rfl,rfl,rfl⟩ rfl rfl rfl rfl rfl (by kernel_rfl) Tryz.func6 (by kernel_rfl)
  (of_decide_eq_true (by kernel_rfl)) (by unfold Func.isWrapper;first|(rw[if_pos (by decide+kernel)];kernel_rfl)|(rw[if_neg (by decide+kernel)];exact⟨rfl,rfl⟩))
  (fun os started H enc _=>Qx os started H enc)
theorem proved:Rows.FnExactCheapestPairSaid:=dA
end Go.Proofs.YtfmhphgpijjejaaGreat.fnExactCheapestPair

