/-
  Part of the proof that the law FnCompatible returns true at every input; no condition beside the row's own.
-/
import Derived.Test.YtfmhphgpijjejaaGreatTe
import Derived.Test.YtfmhphgpijjejaaGreatDc
import Derived.Test.YtfmhphgpijjejaaGreatDe
import Derived.Test.YtfmhphgpijjejaaGreatRows
import Derived.WalkKit
import Derived.ProofKit
import Derived.OpenShut
import Derived.JoinedCond
set_option linter.defProp false
set_option linter.unusedSimpArgs false
set_option linter.unusedVariables false
namespace Vs
open Go
theorem iZ{α:Type}(e:α->AV)(p:α->Prop):∀(xs:List AV),(∀x∈xs,∃t,x=e t/\p t)->∃ts:List α,xs=ts.map e/\∀t∈ts,p t
 |[],_=>⟨[],rfl,by simp⟩
 | x :: xs, h => by
   obtain⟨t,h1,h2⟩:=h x (by simp);obtain⟨ts,h3,h4⟩:=iZ e p xs fun y hy=>h y (by simp[hy]);exact⟨t::ts,by simp[h1,h3],fun s hs=>by
    rcases List.mem_cons.1 hs with rfl|hs
    ·exact h2
    ·exact h4 s hs⟩
theorem fD{l:Lf}{ls:List Lf}:∀{al:List AV},df (l::ls) al->∃a al',al=a::al'/\CX l a/\df ls al'
 |a::al,h=>⟨a,al,rfl,h.1,h.2⟩
 |[],h=>h.elim
theorem rQ:∀{al:List AV},df [] al->al=[]
 |[],_=>rfl
 |_::_,h=>h.elim
theorem BF{n:Int}(h:(Lit.int .i64 n).wf=true):I64 n:=by
 simpa[Lit.wf,IntKind.min,IntKind.max,IntKind.signed,IntKind.bits,I64] using h
theorem gl{a:AV}(h:CX (.int .i64) a):∃n,a=.i n/\I64 n:=by
 obtain⟨n,h1,h2⟩:=h;exact⟨n,h1,BF h2⟩
theorem rec3{α:Type}(e:α->AV)(mk:Int->Int->Int->α)(he:∀a b c,e (mk a b c)=.agg [.i a,.i b,.i c]){y:AV}(h:ws (false,[.sl true [.int .i64,.int .i64,.int .i64]]) y):∃ts:List α,y=.lst .o 3 (ts.map e)/\ts.length<=maxLen:=by
 obtain⟨⟨xs,rfl,hl,hx⟩,_⟩:=h.2 rfl;obtain⟨ts,rfl,_⟩:=iZ e (fun _=>True) xs fun x hxm=>by
  obtain⟨cs,rfl,hc⟩:=(hx x hxm).1 rfl;obtain⟨_,_,rfl,f1,hc⟩:=fD hc;obtain⟨_,_,rfl,f2,hc⟩:=fD hc;obtain⟨_,_,rfl,f3,hc⟩:=fD hc;obtain rfl:=rQ hc;obtain⟨a,rfl,_⟩:=gl f1;obtain⟨b,rfl,_⟩:=gl f2;obtain⟨c,rfl,_⟩:=gl f3;exact⟨mk a b c,(he a b c).symm,trivial⟩
 rw[List.length_map] at hl;exact⟨ts,rfl,hl⟩
theorem ints{y:AV}(h:ws (false,[.sl false [.int .i64]]) y):∃ts:List Int,y=.lst .o 1 (ts.map AV.i)/\ts.length<=maxLen:=by
 obtain⟨⟨xs,rfl,hl,hx⟩,_⟩:=h.2 rfl;obtain⟨ts,rfl,_⟩:=iZ AV.i (fun _=>True) xs fun x hxm=>by
  obtain⟨a,rfl,_⟩:=gl ((hx x hxm).2 rfl).1;exact⟨a,rfl,trivial⟩
 rw[List.length_map] at hl;exact⟨ts,rfl,hl⟩
theorem one3{α:Type}(e:α->AV)(mk:Int->Int->Int->α)(he:∀a b c,e (mk a b c)=.agg [.i a,.i b,.i c]){y:AV}(h:ws (true,[.int .i64,.int .i64,.int .i64]) y):∃t:α,y=e t:=by
 obtain⟨cs,rfl,hc⟩:=h.1 rfl;obtain⟨_,_,rfl,f1,hc⟩:=fD hc;obtain⟨_,_,rfl,f2,hc⟩:=fD hc;obtain⟨_,_,rfl,f3,hc⟩:=fD hc;obtain rfl:=rQ hc;obtain⟨a,rfl,_⟩:=gl f1;obtain⟨b,rfl,_⟩:=gl f2;obtain⟨c,rfl,_⟩:=gl f3;exact⟨mk a b c,(he a b c).symm⟩
theorem int1{y:AV}(h:ws (false,[.int .i64]) y):∃n:Int,y=.i n:=by
 obtain⟨⟨n,rfl,_⟩,_⟩:=h.2 rfl;exact⟨n,rfl⟩
end Vs

namespace Vs
open Go Go.Proofs
def JW(xs:List Int):Prop:=xs.length<=9223372036854775807/\∀x∈xs,0<=x/\x<=255
theorem QR{a:AV}(h:CX (.int .u8) a):∃n,a=.u8 n/\0<=n/\n<=255:=by
 obtain⟨n,h1,h2⟩:=h;refine⟨n,h1,?_⟩;simp[Lit.wf,IntKind.min,IntKind.max,IntKind.bits,IntKind.signed] at h2;omega
theorem FU{a:AV}(h:CX (.sl false [.int .u8]) a):∃xs:List Int,a=.lst .o 1 (xs.map AV.u8)/\JW xs:=by
 obtain⟨xs,rfl,hl,hx⟩:=h;obtain⟨ts,rfl,ht⟩:=iZ (AV.u8) (fun x=>0<=x/\x<=255) xs fun x hxm=>by
  have hc:=((hx x hxm).2 rfl).1;obtain⟨n1,rfl,u1⟩:=QR hc;exact⟨n1,rfl,u1⟩
 rw[List.length_map] at hl;exact⟨ts,rfl,⟨by simpa[maxLen] using hl,ht⟩⟩
theorem ok8(ys:List AV)(h:nV [(false,[.sl false [.int .u8]])] ys):Ok Tryz.prog 8 ys (.b true):=by
 match ys,h with
 | [a1], ⟨h1, _⟩ =>
   obtain⟨x1,rfl,o1⟩:=FU (h1.2 rfl).1;exact w_gw x1 (oI x1 o1)
end Vs
namespace Go.Proofs.YtfmhphgpijjejaaGreat.fnCompatible
open Go.ChangeShapes Go.WideShapes Go.ChangeAt Go.RowKit
theorem own:ownKnob Tryz.prog.godebug=none:=by kernel_rfl
set_option maxRecDepth 100000 in
theorem SP(os:Os)(started:os.Started)(H:Type)(enc:TypeId×Value->H):
 ReturnsInHanded {} Tryz.checked os 8 .any (Rows.fnCompatibleSpec.pre6 enc Tryz.prog Tryz.f8 Rows.fnCompatibleRow.domain false) (Rows.fnCompatibleSpec.post enc Tryz.prog Tryz.f8 false true false false):=by
 refine returnsInHanded_of_change (C:=Tryz.checked) own started (by kernel_rfl) Tryz.func8
  (ChangeSpec.witness6 (enc:=enc) (C:=Tryz.checked) false ⟨#[],#[.slice none 0 0],[]⟩ 8 (by kernel_rfl) (by kernel_rfl) (by kernel_rfl) (by kernel_rfl)) ?_
 intro W base args ds gs before hval hW _ _;exact Vs.law_calls (k:=40) (ss:=[(false,[.sl false [.int .u8]])]) rfl (fun ds h=>by
  match ds,h with
  |[d1],_=>rfl) rfl (by kernel_rfl) (by kernel_rfl) Vs.ok8 hval hW
theorem dI:Rows.fnCompatibleRow.holds Tryz.pinned (OpenSpec.ofChange Rows.fnCompatibleSpec):=
 OpenClaim.holds_of_wide 8 Tryz.f8 rfl rfl rfl rfl rfl rfl rfl ⟨rfl,rfl,rfl,rfl,rfl⟩ rfl rfl rfl rfl rfl (by kernel_rfl) Tryz.func8 (by kernel_rfl)
  (of_decide_eq_true (by kernel_rfl)) (by unfold Func.isWrapper;first|(rw[if_pos (by decide+kernel)];kernel_rfl)|(rw[if_neg (by decide+kernel)];exact⟨rfl,rfl⟩))
  (fun os started H enc _=>SP os started H enc)
theorem proved:Rows.FnCompatibleSaid:=dI
end Go.Proofs.YtfmhphgpijjejaaGreat.fnCompatible

