/-
  Part of the proof that the law FnSurvival returns true at every input; no condition beside the row's own.
-/
import Derived.Test.YtfmhphgpijjejaaGreatSe
import Derived.Test.YtfmhphgpijjejaaGreatCc
import Derived.Test.YtfmhphgpijjejaaGreatCe
import Derived.Test.YtfmhphgpijjejaaGreatRows
import Derived.WalkKit
import Derived.ProofKit
import Derived.OpenShut
import Derived.JoinedCond
set_option linter.defProp false
set_option linter.unusedSimpArgs false
set_option linter.unusedVariables false
namespace Vs
open Go
theorem iy{α:Type}(e:α->AV)(p:α->Prop):∀(xs:List AV),(∀x∈xs,∃t,x=e t/\p t)->∃ts:List α,xs=ts.map e/\∀t∈ts,p t
 |[],_=>⟨[],rfl,by simp⟩
 | x :: xs, h => by
   obtain⟨t,h1,h2⟩:=h x (by simp);obtain⟨ts,h3,h4⟩:=iy e p xs fun y hy=>h y (by simp[hy]);exact⟨t::ts,by simp[h1,h3],fun s hs=>by
    rcases List.mem_cons.1 hs with rfl|hs
    ·exact h2
    ·exact h4 s hs⟩
theorem fd{l:Lf}{ls:List Lf}:∀{al:List AV},db (l::ls) al->∃a al',al=a::al'/\Du l a/\db ls al'
 |a::al,h=>⟨a,al,rfl,h.1,h.2⟩
 |[],h=>h.elim
theorem qK:∀{al:List AV},db [] al->al=[]
 |[],_=>rfl
 |_::_,h=>h.elim
theorem Cq{n:Int}(h:(Lit.int .i64 n).wf=true):I64 n:=by
 simpa[Lit.wf,IntKind.min,IntKind.max,IntKind.signed,IntKind.bits,I64] using h
theorem gk{a:AV}(h:Du (.int .i64) a):∃n,a=.i n/\I64 n:=by
 obtain⟨n,h1,h2⟩:=h;exact⟨n,h1,Cq h2⟩
theorem rec3{α:Type}(e:α->AV)(mk:Int->Int->Int->α)(he:∀a b c,e (mk a b c)=.agg [.i a,.i b,.i c]){y:AV}(h:tW (false,[.sl true [.int .i64,.int .i64,.int .i64]]) y):∃ts:List α,y=.lst .o 3 (ts.map e)/\ts.length<=maxLen:=by
 obtain⟨⟨xs,rfl,hl,hx⟩,_⟩:=h.2 rfl;obtain⟨ts,rfl,_⟩:=iy e (fun _=>True) xs fun x hxm=>by
  obtain⟨cs,rfl,hc⟩:=(hx x hxm).1 rfl;obtain⟨_,_,rfl,f1,hc⟩:=fd hc;obtain⟨_,_,rfl,f2,hc⟩:=fd hc;obtain⟨_,_,rfl,f3,hc⟩:=fd hc;obtain rfl:=qK hc;obtain⟨a,rfl,_⟩:=gk f1;obtain⟨b,rfl,_⟩:=gk f2;obtain⟨c,rfl,_⟩:=gk f3;exact⟨mk a b c,(he a b c).symm,trivial⟩
 rw[List.length_map] at hl;exact⟨ts,rfl,hl⟩
theorem ints{y:AV}(h:tW (false,[.sl false [.int .i64]]) y):∃ts:List Int,y=.lst .o 1 (ts.map AV.i)/\ts.length<=maxLen:=by
 obtain⟨⟨xs,rfl,hl,hx⟩,_⟩:=h.2 rfl;obtain⟨ts,rfl,_⟩:=iy AV.i (fun _=>True) xs fun x hxm=>by
  obtain⟨a,rfl,_⟩:=gk ((hx x hxm).2 rfl).1;exact⟨a,rfl,trivial⟩
 rw[List.length_map] at hl;exact⟨ts,rfl,hl⟩
theorem one3{α:Type}(e:α->AV)(mk:Int->Int->Int->α)(he:∀a b c,e (mk a b c)=.agg [.i a,.i b,.i c]){y:AV}(h:tW (true,[.int .i64,.int .i64,.int .i64]) y):∃t:α,y=e t:=by
 obtain⟨cs,rfl,hc⟩:=h.1 rfl;obtain⟨_,_,rfl,f1,hc⟩:=fd hc;obtain⟨_,_,rfl,f2,hc⟩:=fd hc;obtain⟨_,_,rfl,f3,hc⟩:=fd hc;obtain rfl:=qK hc;obtain⟨a,rfl,_⟩:=gk f1;obtain⟨b,rfl,_⟩:=gk f2;obtain⟨c,rfl,_⟩:=gk f3;exact⟨mk a b c,(he a b c).symm⟩
theorem int1{y:AV}(h:tW (false,[.int .i64]) y):∃n:Int,y=.i n:=by
 obtain⟨⟨n,rfl,_⟩,_⟩:=h.2 rfl;exact⟨n,rfl⟩
end Vs

namespace Vs
open Go Go.Proofs
def GO(xs:List Int):Prop:=xs.length<=9223372036854775807/\∀x∈xs,0<=x/\x<=255
theorem Pw{a:AV}(h:Du (.int .u8) a):∃n,a=.u8 n/\0<=n/\n<=255:=by
 obtain⟨n,h1,h2⟩:=h;refine⟨n,h1,?_⟩;simp[Lit.wf,IntKind.min,IntKind.max,IntKind.bits,IntKind.signed] at h2;omega
theorem Jv{a:AV}(h:Du (.sl false [.int .u8]) a):∃xs:List Int,a=.lst .o 1 (xs.map AV.u8)/\GO xs:=by
 obtain⟨xs,rfl,hl,hx⟩:=h;obtain⟨ts,rfl,ht⟩:=iy (AV.u8) (fun x=>0<=x/\x<=255) xs fun x hxm=>by
  have hc:=((hx x hxm).2 rfl).1;obtain⟨n1,rfl,u1⟩:=Pw hc;exact⟨n1,rfl,u1⟩
 rw[List.length_map] at hl;exact⟨ts,rfl,⟨by simpa[maxLen] using hl,ht⟩⟩
theorem ok3(ys:List AV)(h:nq [(false,[.sl false [.int .u8]])] ys):Ok Tryz.prog 3 ys (.b true):=by
 match ys,h with
 | [a1], ⟨h1, _⟩ =>
   obtain⟨x1,rfl,o1⟩:=Jv (h1.2 rfl).1;exact w_ha x1 (rU x1 o1)
end Vs
namespace Go.Proofs.YtfmhphgpijjejaaGreat.fnSurvival
open Go.ChangeShapes Go.WideShapes Go.ChangeAt Go.RowKit
theorem own:ownKnob Tryz.prog.godebug=none:=by kernel_rfl
set_option maxRecDepth 100000 in
theorem Vg(os:Os)(started:os.Started)(H:Type)(enc:TypeId×Value->H):
 ReturnsInHanded {} Tryz.checked os 3 .any (Rows.fnSurvivalSpec.pre6 enc Tryz.prog Tryz.f3 Rows.fnSurvivalRow.domain false) (Rows.fnSurvivalSpec.post enc Tryz.prog Tryz.f3 false true false false):=by
 refine returnsInHanded_of_change (C:=Tryz.checked) own started (by kernel_rfl) Tryz.func3
  (ChangeSpec.witness6 (enc:=enc) (C:=Tryz.checked) false ⟨#[],#[.slice none 0 0],[]⟩ 8 (by kernel_rfl) (by kernel_rfl) (by kernel_rfl) (by kernel_rfl)) ?_
 intro W base args ds gs before hval hW _ _;exact Vs.law_calls (k:=40) (ss:=[(false,[.sl false [.int .u8]])]) rfl (fun ds h=>by
  match ds,h with
  |[d1],_=>rfl) rfl (by kernel_rfl) (by kernel_rfl) Vs.ok3 hval hW
theorem fq:Rows.fnSurvivalRow.holds Tryz.pinned (OpenSpec.ofChange Rows.fnSurvivalSpec):=
 OpenClaim.holds_of_wide 3 Tryz.f3 rfl rfl rfl rfl rfl rfl rfl ⟨rfl,rfl,rfl,rfl,rfl⟩ rfl rfl rfl rfl rfl (by kernel_rfl) Tryz.func3 (by kernel_rfl)
  (of_decide_eq_true (by kernel_rfl)) (by unfold Func.isWrapper;first|(rw[if_pos (by decide+kernel)];kernel_rfl)|(rw[if_neg (by decide+kernel)];exact⟨rfl,rfl⟩))
  (fun os started H enc _=>Vg os started H enc)
theorem proved:Rows.FnSurvivalSaid:=fq
end Go.Proofs.YtfmhphgpijjejaaGreat.fnSurvival

