/-
  Part of the proof that FnProtection returns true at every input.
-/
import Derived.Test.YtfmhphgpijjejaaGreatWe
import Derived.Test.YtfmhphgpijjejaaGreatHc
import Derived.Test.YtfmhphgpijjejaaGreatHe
import Derived.Test.YtfmhphgpijjejaaGreatRows
import Derived.WalkKit
import Derived.ProofKit
import Derived.OpenShut
import Derived.JoinedCond
set_option linter.defProp false
set_option linter.unusedSimpArgs false
set_option linter.unusedVariables false
namespace Vs
open Go
theorem jH{α:Type}(e:α->AV)(p:α->Prop):∀(xs:List AV),(∀x∈xs,∃t,x=e t/\p t)->∃ts:List α,xs=ts.map e/\∀t∈ts,p t
 |[],_=>⟨[],rfl,by simp⟩
 | x :: xs, h => by
   obtain⟨t,h1,h2⟩:=h x (by simp);obtain⟨ts,h3,h4⟩:=jH e p xs fun y hy=>h y (by simp[hy]);exact⟨t::ts,by simp[h1,h3],fun s hs=>by
    rcases List.mem_cons.1 hs with rfl|hs
    ·exact h2
    ·exact h4 s hs⟩
theorem fY{l:Lf}{ls:List Lf}:∀{al:List AV},dB (l::ls) al->∃a al',al=a::al'/\Ko l a/\dB ls al'
 |a::al,h=>⟨a,al,rfl,h.1,h.2⟩
 |[],h=>h.elim
theorem vn:∀{al:List AV},dB [] al->al=[]
 |[],_=>rfl
 |_::_,h=>h.elim
def Hw{n:Int}(h:(Lit.int .i64 n).wf=true):I64 n:=by
 simpa[Lit.wf,IntKind.min,IntKind.max,IntKind.signed,IntKind.bits,I64] using h
def gX{a:AV}(h:Ko (.int .i64) a):∃n,a=.i n/\I64 n:=by
 obtain⟨n,h1,h2⟩:=h;exact⟨n,h1,Hw h2⟩
def rec3{α:Type}(e:α->AV)(mk:Int->Int->Int->α)(he:∀a b c,e (mk a b c)=.agg [.i a,.i b,.i c]){y:AV}(h:xM (false,[.sl true [.int .i64,.int .i64,.int .i64]]) y):∃ts:List α,y=.lst .o 3 (ts.map e)/\ts.length<=maxLen:=by
 obtain⟨⟨xs,rfl,hl,hx⟩,_⟩:=h.2 rfl;obtain⟨ts,rfl,_⟩:=jH e (fun _=>True) xs fun x hxm=>by
  obtain⟨cs,rfl,hc⟩:=(hx x hxm).1 rfl;obtain⟨_,_,rfl,f1,hc⟩:=fY hc;obtain⟨_,_,rfl,f2,hc⟩:=fY hc;obtain⟨_,_,rfl,f3,hc⟩:=fY hc;obtain rfl:=vn hc;obtain⟨a,rfl,_⟩:=gX f1;obtain⟨b,rfl,_⟩:=gX f2;obtain⟨c,rfl,_⟩:=gX f3;exact⟨mk a b c,(he a b c).symm,trivial⟩
 rw[List.length_map] at hl;exact⟨ts,rfl,hl⟩
def ints{y:AV}(h:xM (false,[.sl false [.int .i64]]) y):∃ts:List Int,y=.lst .o 1 (ts.map AV.i)/\ts.length<=maxLen:=by
 obtain⟨⟨xs,rfl,hl,hx⟩,_⟩:=h.2 rfl;obtain⟨ts,rfl,_⟩:=jH AV.i (fun _=>True) xs fun x hxm=>by
  obtain⟨a,rfl,_⟩:=gX ((hx x hxm).2 rfl).1;exact⟨a,rfl,trivial⟩
 rw[List.length_map] at hl;exact⟨ts,rfl,hl⟩
def one3{α:Type}(e:α->AV)(mk:Int->Int->Int->α)(he:∀a b c,e (mk a b c)=.agg [.i a,.i b,.i c]){y:AV}(h:xM (true,[.int .i64,.int .i64,.int .i64]) y):∃t:α,y=e t:=by
 obtain⟨cs,rfl,hc⟩:=h.1 rfl;obtain⟨_,_,rfl,f1,hc⟩:=fY hc;obtain⟨_,_,rfl,f2,hc⟩:=fY hc;obtain⟨_,_,rfl,f3,hc⟩:=fY hc;obtain rfl:=vn hc;obtain⟨a,rfl,_⟩:=gX f1;obtain⟨b,rfl,_⟩:=gX f2;obtain⟨c,rfl,_⟩:=gX f3;exact⟨mk a b c,(he a b c).symm⟩
def int1{y:AV}(h:xM (false,[.int .i64]) y):∃n:Int,y=.i n:=by
 obtain⟨⟨n,rfl,_⟩,_⟩:=h.2 rfl;exact⟨n,rfl⟩
end Vs

namespace Vs
open Go Go.Proofs
def Pt(xs:List Int):Prop:=xs.length<=9223372036854775807/\∀x∈xs,0<=x/\x<=255
def Yg{a:AV}(h:Ko (.int .u8) a):∃n,a=.u8 n/\0<=n/\n<=255:=by
 obtain⟨n,h1,h2⟩:=h;refine⟨n,h1,?_⟩;simp[Lit.wf,IntKind.min,IntKind.max,IntKind.bits,IntKind.signed] at h2;omega
def RO{a:AV}(h:Ko (.sl false [.int .u8]) a):∃xs:List Int,a=.lst .o 1 (xs.map AV.u8)/\Pt xs:=by
 obtain⟨xs,rfl,hl,hx⟩:=h;obtain⟨ts,rfl,ht⟩:=jH (AV.u8) (fun x=>0<=x/\x<=255) xs fun x hxm=>by
  have hc:=((hx x hxm).2 rfl).1;obtain⟨n1,rfl,u1⟩:=Yg hc;exact⟨n1,rfl,u1⟩
 rw[List.length_map] at hl;exact⟨ts,rfl,⟨by simpa[maxLen] using hl,ht⟩⟩
def ok4(ys:List AV)(h:pP [(false,[.sl false [.int .u8]])] ys):Ok Tryz.prog 4 ys (.b true):=by
 match ys,h with
 | [a1], ⟨h1, _⟩ =>
   obtain⟨x1,rfl,o1⟩:=RO (h1.2 rfl).1;exact w_ex x1 (sk x1 o1)
end Vs
namespace Go.Proofs.YtfmhphgpijjejaaGreat.fnProtection
open Go.ChangeShapes Go.WideShapes Go.ChangeAt Go.RowKit
def own:ownKnob Tryz.prog.godebug=none:=by kernel_rfl
set_option maxRecDepth 100000 in
theorem lifted(os:Os)(started:os.Started)(H:Type)(enc:TypeId×Value->H):
 ReturnsInHanded {} Tryz.checked os 4 .any (Rows.fnProtectionSpec.pre6 enc Tryz.prog Tryz.f4 Rows.fnProtectionRow.domain false) (Rows.fnProtectionSpec.post enc Tryz.prog Tryz.f4 false true false false):=by
 refine returnsInHanded_of_change (C:=Tryz.checked) own started (by kernel_rfl) Tryz.func4
  (ChangeSpec.witness6 (enc:=enc) (C:=Tryz.checked) false ⟨#[],#[.slice none 0 0],[]⟩ 8 (by kernel_rfl) (by kernel_rfl) (by kernel_rfl) (by kernel_rfl)) ?_
 intro W base args ds gs before hval hW _ _;exact Vs.law_calls (k:=40) (ss:=[(false,[.sl false [.int .u8]])]) rfl (fun ds h=>by
  match ds,h with
  |[d1],_=>rfl) rfl (by kernel_rfl) (by kernel_rfl) Vs.ok4 hval hW
def cl1:(laidOutB Tryz.pinned.checked.prog)=true:=by kernel_rfl
def cl8:(Tryz.pinned.checked.prog.stopKnobs==[])=true:=by kernel_rfl
def cl9:(Rows.fnProtectionRow.inPlace==Tryz.pinned.checked.prog.inPlace 4)=true:=by kernel_rfl
def cl10:(Rows.fnProtectionRow.unfollowed==Tryz.pinned.checked.prog.unfollowed 4)=true:=by kernel_rfl
def cl11:(Rows.fnProtectionRow.recurses==Tryz.pinned.checked.prog.recurses 4)=true:=by kernel_rfl
def cl24:(Tryz.pinned.checked.prog.stopsHeard)=true:=by kernel_rfl
def cl25:(Tryz.pinned.checked.prog.mayEnter)=true:=by kernel_rfl
def cl26:(Rows.fnProtectionRow.lifted==Tryz.pinned.checked.prog.liftsFinal)=true:=by kernel_rfl
def closed:joinedFacts Tryz.pinned.checked.prog 4 Tryz.f4 Rows.fnProtectionSpec Rows.fnProtectionRow=true:=by
 unfold joinedFacts;rw[cl1,cl8,cl9,cl10,cl11,cl24,cl25,cl26]
 kernel_rfl
theorem dg:Rows.fnProtectionRow.holds Tryz.pinned (OpenSpec.ofChange Rows.fnProtectionSpec):=
 OpenClaim.holds_of_wide 4 Tryz.f4 rfl rfl rfl rfl rfl rfl rfl ⟨rfl,rfl,rfl,rfl,rfl⟩ rfl rfl rfl rfl rfl (by kernel_rfl) Tryz.func4 closed
  (of_decide_eq_true (by kernel_rfl)) (by unfold Func.isWrapper;first|(rw[if_pos (by decide+kernel)];kernel_rfl)|(rw[if_neg (by decide+kernel)];exact⟨rfl,rfl⟩))
  (fun os started H enc _=>lifted os started H enc)
def proved:Rows.FnProtectionSaid:=dg
end Go.Proofs.YtfmhphgpijjejaaGreat.fnProtection

