/-
  Part of the proof that FnExactAddService returns true at every input.
-/
import Derived.Test.YtfmhphgpijjejaaGreatVe
import Derived.Test.YtfmhphgpijjejaaGreatGc
import Derived.Test.YtfmhphgpijjejaaGreatGe
import Derived.Test.YtfmhphgpijjejaaGreatRows
import Derived.WalkKit
import Derived.ProofKit
import Derived.OpenShut
import Derived.JoinedCond
set_option linter.defProp false
set_option linter.unusedSimpArgs false
set_option linter.unusedVariables false
namespace Vs
open Go
theorem eR{α:Type}(e:α->AV)(p:α->Prop):∀(xs:List AV),(∀x∈xs,∃t,x=e t/\p t)->∃ts:List α,xs=ts.map e/\∀t∈ts,p t
 |[],_=>⟨[],rfl,by simp⟩
 | x :: xs, h => by
   obtain⟨t,h1,h2⟩:=h x (by simp);obtain⟨ts,h3,h4⟩:=eR e p xs fun y hy=>h y (by simp[hy]);exact⟨t::ts,by simp[h1,h3],fun s hs=>by
    rcases List.mem_cons.1 hs with rfl|hs
    ·exact h2
    ·exact h4 s hs⟩
theorem bw{l:Lf}{ls:List Lf}:∀{al:List AV},dF (l::ls) al->∃a al',al=a::al'/\vf l a/\dF ls al'
 |a::al,h=>⟨a,al,rfl,h.1,h.2⟩
 |[],h=>h.elim
theorem gg:∀{al:List AV},dF [] al->al=[]
 |[],_=>rfl
 |_::_,h=>h.elim
def Jh{n:Int}(h:(Lit.int .i64 n).wf=true):I64 n:=by
 simpa[Lit.wf,IntKind.min,IntKind.max,IntKind.signed,IntKind.bits,I64] using h
def bR{a:AV}(h:vf (.int .i64) a):∃n,a=.i n/\I64 n:=by
 obtain⟨n,h1,h2⟩:=h;exact⟨n,h1,Jh h2⟩
def rec3{α:Type}(e:α->AV)(mk:Int->Int->Int->α)(he:∀a b c,e (mk a b c)=.agg [.i a,.i b,.i c]){y:AV}(h:rr (false,[.sl true [.int .i64,.int .i64,.int .i64]]) y):∃ts:List α,y=.lst .o 3 (ts.map e)/\ts.length<=maxLen:=by
 obtain⟨⟨xs,rfl,hl,hx⟩,_⟩:=h.2 rfl;obtain⟨ts,rfl,_⟩:=eR e (fun _=>True) xs fun x hxm=>by
  obtain⟨cs,rfl,hc⟩:=(hx x hxm).1 rfl;obtain⟨_,_,rfl,f1,hc⟩:=bw hc;obtain⟨_,_,rfl,f2,hc⟩:=bw hc;obtain⟨_,_,rfl,f3,hc⟩:=bw hc;obtain rfl:=gg hc;obtain⟨a,rfl,_⟩:=bR f1;obtain⟨b,rfl,_⟩:=bR f2;obtain⟨c,rfl,_⟩:=bR f3;exact⟨mk a b c,(he a b c).symm,trivial⟩
 rw[List.length_map] at hl;exact⟨ts,rfl,hl⟩
def ints{y:AV}(h:rr (false,[.sl false [.int .i64]]) y):∃ts:List Int,y=.lst .o 1 (ts.map AV.i)/\ts.length<=maxLen:=by
 obtain⟨⟨xs,rfl,hl,hx⟩,_⟩:=h.2 rfl;obtain⟨ts,rfl,_⟩:=eR AV.i (fun _=>True) xs fun x hxm=>by
  obtain⟨a,rfl,_⟩:=bR ((hx x hxm).2 rfl).1;exact⟨a,rfl,trivial⟩
 rw[List.length_map] at hl;exact⟨ts,rfl,hl⟩
def one3{α:Type}(e:α->AV)(mk:Int->Int->Int->α)(he:∀a b c,e (mk a b c)=.agg [.i a,.i b,.i c]){y:AV}(h:rr (true,[.int .i64,.int .i64,.int .i64]) y):∃t:α,y=e t:=by
 obtain⟨cs,rfl,hc⟩:=h.1 rfl;obtain⟨_,_,rfl,f1,hc⟩:=bw hc;obtain⟨_,_,rfl,f2,hc⟩:=bw hc;obtain⟨_,_,rfl,f3,hc⟩:=bw hc;obtain rfl:=gg hc;obtain⟨a,rfl,_⟩:=bR f1;obtain⟨b,rfl,_⟩:=bR f2;obtain⟨c,rfl,_⟩:=bR f3;exact⟨mk a b c,(he a b c).symm⟩
def int1{y:AV}(h:rr (false,[.int .i64]) y):∃n:Int,y=.i n:=by
 obtain⟨⟨n,rfl,_⟩,_⟩:=h.2 rfl;exact⟨n,rfl⟩
end Vs

namespace Vs
open Go Go.Proofs
def Bi{a:AV}(h:vf (.sl false [.str]) a):∃xs:List ByteArray,a=.lst .o 1 (xs.map AV.z)/\lZ xs:=by
 obtain⟨xs,rfl,hl,hx⟩:=h;obtain⟨ts,rfl,ht⟩:=eR (AV.z) (fun x=>x.size<=9223372036854775807) xs fun x hxm=>by
  have hc:=((hx x hxm).2 rfl).1;obtain⟨s4,rfl,hs4⟩:=hc;exact⟨s4,rfl,(by simpa[maxLen] using hs4)⟩
 rw[List.length_map] at hl;exact⟨ts,rfl,⟨by simpa[maxLen] using hl,ht⟩⟩
def IE{a:AV}(h:vf (.sl true [.int .i64,.int .i64,.int .i64,.int .i64]) a):∃xs:List aG,a=.lst .o 4 (xs.map (aF .o))/\jl xs:=by
 obtain⟨xs,rfl,hl,hx⟩:=h;obtain⟨ts,rfl,ht⟩:=eR ((aF .o)) (fun _=>True) xs fun x hxm=>by
  obtain⟨cs,rfl,hc⟩:=(hx x hxm).1 rfl;obtain⟨_,_,rfl,f6,hc⟩:=bw hc;obtain⟨_,_,rfl,f7,hc⟩:=bw hc;obtain⟨_,_,rfl,f8,hc⟩:=bw hc;obtain⟨_,_,rfl,f9,hc⟩:=bw hc;obtain rfl:=gg hc;obtain⟨n10,rfl,_⟩:=bR f6;obtain⟨n11,rfl,_⟩:=bR f7;obtain⟨n12,rfl,_⟩:=bR f8;obtain⟨n13,rfl,_⟩:=bR f9;exact⟨⟨n10,n11,n12,n13⟩,rfl,trivial⟩
 rw[List.length_map] at hl;exact⟨ts,rfl,by simpa[maxLen,jl] using hl⟩
def CM{y:AV}(h:rr (true,[.sl false [.str],.sl true [.int .i64,.int .i64,.int .i64,.int .i64]]) y):∃x:ae,y=(au .o) x/\ma x:=by
 obtain⟨cs,rfl,hc⟩:=h.1 rfl;obtain⟨_,_,rfl,f1,hc⟩:=bw hc;obtain⟨_,_,rfl,f2,hc⟩:=bw hc;obtain rfl:=gg hc;obtain⟨l3,rfl,hl3⟩:=Bi f1;obtain⟨l5,rfl,hl5⟩:=IE f2;exact⟨⟨l3,l5⟩,rfl,⟨hl3,hl5⟩⟩
def Bp{a:AV}(h:vf (.sl true [.int .i64,.int .i64]) a):∃xs:List az,a=.lst .o 2 (xs.map (aB .o))/\gS xs:=by
 obtain⟨xs,rfl,hl,hx⟩:=h;obtain⟨ts,rfl,ht⟩:=eR ((aB .o)) (fun _=>True) xs fun x hxm=>by
  obtain⟨cs,rfl,hc⟩:=(hx x hxm).1 rfl;obtain⟨_,_,rfl,f14,hc⟩:=bw hc;obtain⟨_,_,rfl,f15,hc⟩:=bw hc;obtain rfl:=gg hc;obtain⟨n16,rfl,_⟩:=bR f14;obtain⟨n17,rfl,_⟩:=bR f15;exact⟨⟨n16,n17⟩,rfl,trivial⟩
 rw[List.length_map] at hl;exact⟨ts,rfl,by simpa[maxLen,gS] using hl⟩
def DR{a:AV}(h:vf (.sl false [.int .i64]) a):∃xs:List Int,a=.lst .o 1 (xs.map AV.i)/\kQ xs:=by
 obtain⟨xs,rfl,hl,hx⟩:=h;obtain⟨ts,rfl,ht⟩:=eR (AV.i) (fun _=>True) xs fun x hxm=>by
  have hc:=((hx x hxm).2 rfl).1;obtain⟨n32,rfl,_⟩:=bR hc;exact⟨n32,rfl,trivial⟩
 rw[List.length_map] at hl;exact⟨ts,rfl,by simpa[maxLen,kQ] using hl⟩
def yv{a:AV}(h:vf (.sl true [.int .i64,.int .i64,.int .i64,.sl false [.int .i64],.int .i64,.int .i64,.int .i64,.sl false [.int .i64],.int .i64,.int .i64]) a):∃xs:List af,a=.lst .o 10 (xs.map (aj .o))/\kc xs:=by
 obtain⟨xs,rfl,hl,hx⟩:=h;obtain⟨ts,rfl,ht⟩:=eR ((aj .o)) (fun x=>me x) xs fun x hxm=>by
  obtain⟨cs,rfl,hc⟩:=(hx x hxm).1 rfl;obtain⟨_,_,rfl,f18,hc⟩:=bw hc;obtain⟨_,_,rfl,f19,hc⟩:=bw hc;obtain⟨_,_,rfl,f20,hc⟩:=bw hc;obtain⟨_,_,rfl,f21,hc⟩:=bw hc;obtain⟨_,_,rfl,f22,hc⟩:=bw hc;obtain⟨_,_,rfl,f23,hc⟩:=bw hc;obtain⟨_,_,rfl,f24,hc⟩:=bw hc;obtain⟨_,_,rfl,f25,hc⟩:=bw hc;obtain⟨_,_,rfl,f26,hc⟩:=bw hc;obtain⟨_,_,rfl,f27,hc⟩:=bw hc;obtain rfl:=gg hc;obtain⟨n28,rfl,_⟩:=bR f18;obtain⟨n29,rfl,_⟩:=bR f19;obtain⟨n30,rfl,_⟩:=bR f20;obtain⟨l31,rfl,hl31⟩:=DR f21;obtain⟨n33,rfl,_⟩:=bR f22;obtain⟨n34,rfl,_⟩:=bR f23;obtain⟨n35,rfl,_⟩:=bR f24;obtain⟨l36,rfl,hl36⟩:=DR f25;obtain⟨n37,rfl,_⟩:=bR f26;obtain⟨n38,rfl,_⟩:=bR f27;exact⟨⟨n28,n29,⟨n30,l31⟩,⟨n33,n34⟩,⟨n35,l36⟩,⟨n37,n38⟩⟩,rfl,⟨hl31,hl36⟩⟩
 rw[List.length_map] at hl;exact⟨ts,rfl,⟨by simpa[maxLen] using hl,ht⟩⟩
def Ia{y:AV}(h:rr (true,[.int .i64,.int .i64,.int .i64,.int .i64]) y):∃x:aM,y=(aQ .o) x:=by
 obtain⟨cs,rfl,hc⟩:=h.1 rfl;obtain⟨_,_,rfl,f39,hc⟩:=bw hc;obtain⟨_,_,rfl,f40,hc⟩:=bw hc;obtain⟨_,_,rfl,f41,hc⟩:=bw hc;obtain⟨_,_,rfl,f42,hc⟩:=bw hc;obtain rfl:=gg hc;obtain⟨n43,rfl,_⟩:=bR f39;obtain⟨n44,rfl,_⟩:=bR f40;obtain⟨n45,rfl,_⟩:=bR f41;obtain⟨n46,rfl,_⟩:=bR f42;exact⟨⟨n43,n44,n45,n46⟩,rfl⟩
def ok9(ys:List AV)(h:pC [(true,[.sl false [.str],.sl true [.int .i64,.int .i64,.int .i64,.int .i64]]),(false,[.sl true [.int .i64,.int .i64]]),(false,[.sl true [.int .i64,.int .i64,.int .i64,.sl false [.int .i64],.int .i64,.int .i64,.int .i64,.sl false [.int .i64],.int .i64,.int .i64]]),(true,[.int .i64,.int .i64,.int .i64,.int .i64])] ys):Ok Tryz.prog 9 ys (.b true):=by
 match ys,h with
 | [a1, a2, a3, a4], ⟨h1, h2, h3, h4, _⟩ =>
   obtain⟨x1,rfl,o1⟩:=CM h1;obtain⟨x2,rfl,o2⟩:=Bp (h2.2 rfl).1;obtain⟨x3,rfl,o3⟩:=yv (h3.2 rfl).1;obtain⟨x4,rfl⟩:=Ia h4;exact w_gu x1 x2 x3 x4 (lq x1 x2 x3 x4 o1 o2 o3)
end Vs
namespace Go.Proofs.YtfmhphgpijjejaaGreat.fnExactAddService
open Go.ChangeShapes Go.WideShapes Go.ChangeAt Go.RowKit
def own:ownKnob Tryz.prog.godebug=none:=by kernel_rfl
set_option maxRecDepth 100000 in
theorem acq(os:Os)(started:os.Started)(H:Type)(enc:TypeId×Value->H):
 ReturnsInHanded {} Tryz.checked os 9 .any (Rows.fnExactAddServiceSpec.pre6 enc Tryz.prog Tryz.f9 Rows.fnExactAddServiceRow.domain false) (Rows.fnExactAddServiceSpec.post enc Tryz.prog Tryz.f9 false true false false):=by
 refine returnsInHanded_of_change (C:=Tryz.checked) own started (by kernel_rfl) Tryz.func9
  (ChangeSpec.witness6 (enc:=enc) (C:=Tryz.checked) false ⟨#[],#[.agg #[.slice none 0 0,.slice none 0 0],.slice none 0 0,.slice none 0 0,.agg #[.int .i64 0,.int .i64 0,.int .i64 0,.int .i64 0]],[]⟩ 8 (by kernel_rfl) (by kernel_rfl) (by kernel_rfl) (by kernel_rfl)) ?_
 intro W base args ds gs before hval hW _ _;exact Vs.law_calls (k:=40) (ss:=[(true,[.sl false [.str],.sl true [.int .i64,.int .i64,.int .i64,.int .i64]]),(false,[.sl true [.int .i64,.int .i64]]),(false,[.sl true [.int .i64,.int .i64,.int .i64,.sl false [.int .i64],.int .i64,.int .i64,.int .i64,.sl false [.int .i64],.int .i64,.int .i64]]),(true,[.int .i64,.int .i64,.int .i64,.int .i64])]) rfl (fun ds h=>by
  match ds,h with
  |[d1,d2,d3,d4],_=>rfl) rfl (by kernel_rfl) (by kernel_rfl) Vs.ok9 hval hW
theorem cl1 : (laidOutB Tryz.pinned.checked.prog) = true := by kernel_rfl
theorem cl8 : (Tryz.pinned.checked.prog.stopKnobs == []) = true := by kernel_rfl
theorem cl9 : (Rows.fnExactAddServiceRow.inPlace == Tryz.pinned.checked.prog.inPlace 9) = true := by kernel_rfl
theorem cl10 : (Rows.fnExactAddServiceRow.unfollowed == Tryz.pinned.checked.prog.unfollowed 9) = true := by kernel_rfl
theorem cl11 : (Rows.fnExactAddServiceRow.recurses == Tryz.pinned.checked.prog.recurses 9) = true := by kernel_rfl
theorem cl24 : (Tryz.pinned.checked.prog.stopsHeard) = true := by kernel_rfl
theorem cl25 : (Tryz.pinned.checked.prog.mayEnter) = true := by kernel_rfl
theorem cl26 : (Rows.fnExactAddServiceRow.lifted == Tryz.pinned.checked.prog.liftsFinal) = true := by kernel_rfl
theorem closed : joinedFacts Tryz.pinned.checked.prog 9 Tryz.f9 Rows.fnExactAddServiceSpec Rows.fnExactAddServiceRow = true := by
  unfold joinedFacts
  rw [cl1, cl8, cl9, cl10, cl11, cl24, cl25, cl26]
  kernel_rfl
theorem en:Rows.fnExactAddServiceRow.holds Tryz.pinned (OpenSpec.ofChange Rows.fnExactAddServiceSpec):=
 OpenClaim.holds_of_wide 9 Tryz.f9 rfl rfl rfl rfl rfl rfl rfl ⟨rfl,rfl,rfl,rfl,rfl⟩ rfl rfl rfl rfl rfl (by kernel_rfl) Tryz.func9 closed
  (of_decide_eq_true (by kernel_rfl)) (by unfold Func.isWrapper;first|(rw[if_pos (by decide+kernel)];kernel_rfl)|(rw[if_neg (by decide+kernel)];exact⟨rfl,rfl⟩))
  (fun os started H enc _=>acq os started H enc)
def proved:Rows.FnExactAddServiceSaid:=en
end Go.Proofs.YtfmhphgpijjejaaGreat.fnExactAddService

