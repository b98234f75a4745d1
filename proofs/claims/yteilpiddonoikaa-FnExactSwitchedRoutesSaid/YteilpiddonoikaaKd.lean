/-
  Part of the proof that the law FnExactSwitchedRoutes returns true at every input; no condition beside the row's own.
-/
import Derived.Test.YteilpiddonoikaaXe
import Derived.Test.YteilpiddonoikaaKc
import Derived.Test.YteilpiddonoikaaKb
import Derived.Test.YteilpiddonoikaaRows
import Derived.WalkKit
import Derived.ProofKit
import Derived.OpenShut
import Derived.JoinedCond
set_option linter.defProp false
set_option linter.unusedSimpArgs false
set_option linter.unusedVariables false
namespace Vs
open Go
theorem exists_map {α:Type} (e:α→AV) (p:α→Prop):∀ (xs:List AV),(∀ x∈xs,∃ t,x=e t∧p t)→∃ ts:List α,xs=ts.map e∧∀ t∈ts,p t
 | [],_=>⟨[],rfl,by simp⟩
 | x :: xs, h => by
   obtain ⟨t,h1,h2⟩:=h x (by simp)
   obtain ⟨ts,h3,h4⟩:=exists_map e p xs fun y hy=>h y (by simp [hy])
   exact ⟨t::ts,by simp [h1,h3],fun s hs=>by
    rcases List.mem_cons.1 hs with rfl | hs
    · exact h2
    · exact h4 s hs⟩
theorem FitsL_cons {l:Lf} {ls:List Lf}:∀ {al:List AV},FitsL (l::ls) al→∃ a al',al=a::al'∧Fits l a∧FitsL ls al'
 | a::al,h=>⟨a,al,rfl,h.1,h.2⟩
 | [],h=>h.elim
theorem FitsL_nil:∀ {al:List AV},FitsL [] al→al=[]
 | [],_=>rfl
 | _::_,h=>h.elim
theorem i64_of_wf {n:Int} (h:(Lit.int .i64 n).wf=true):I64 n:=by
 simpa [Lit.wf,IntKind.min,IntKind.max,IntKind.signed,IntKind.bits,I64] using h
theorem Fits_i64 {a:AV} (h:Fits (.int .i64) a):∃ n,a=.i n∧I64 n:=by
 obtain ⟨n,h1,h2⟩:=h
 exact ⟨n,h1,i64_of_wf h2⟩
theorem rec3 {α:Type} (e:α→AV) (mk:Int→Int→Int→α) (he:∀ a b c,e (mk a b c)=.agg [.i a,.i b,.i c]) {y:AV} (h:FitsA (false,[.sl true [.int .i64,.int .i64,.int .i64]]) y):∃ ts:List α,y=.lst .o 3 (ts.map e)∧ts.length≤maxLen:=by
 obtain ⟨⟨xs,rfl,hl,hx⟩,_⟩:=h.2 rfl
 obtain ⟨ts,rfl,_⟩:=exists_map e (fun _=>True) xs fun x hxm=>by
  obtain ⟨cs,rfl,hc⟩:=(hx x hxm).1 rfl
  obtain ⟨_,_,rfl,f1,hc⟩:=FitsL_cons hc
  obtain ⟨_,_,rfl,f2,hc⟩:=FitsL_cons hc
  obtain ⟨_,_,rfl,f3,hc⟩:=FitsL_cons hc
  obtain rfl:=FitsL_nil hc
  obtain ⟨a,rfl,_⟩:=Fits_i64 f1
  obtain ⟨b,rfl,_⟩:=Fits_i64 f2
  obtain ⟨c,rfl,_⟩:=Fits_i64 f3
  exact ⟨mk a b c,(he a b c).symm,trivial⟩
 rw [List.length_map] at hl
 exact ⟨ts,rfl,hl⟩
theorem ints {y:AV} (h:FitsA (false,[.sl false [.int .i64]]) y):∃ ts:List Int,y=.lst .o 1 (ts.map AV.i)∧ts.length≤maxLen:=by
 obtain ⟨⟨xs,rfl,hl,hx⟩,_⟩:=h.2 rfl
 obtain ⟨ts,rfl,_⟩:=exists_map AV.i (fun _=>True) xs fun x hxm=>by
  obtain ⟨a,rfl,_⟩:=Fits_i64 ((hx x hxm).2 rfl).1
  exact ⟨a,rfl,trivial⟩
 rw [List.length_map] at hl
 exact ⟨ts,rfl,hl⟩
theorem one3 {α:Type} (e:α→AV) (mk:Int→Int→Int→α) (he:∀ a b c,e (mk a b c)=.agg [.i a,.i b,.i c]) {y:AV} (h:FitsA (true,[.int .i64,.int .i64,.int .i64]) y):∃ t:α,y=e t:=by
 obtain ⟨cs,rfl,hc⟩:=h.1 rfl
 obtain ⟨_,_,rfl,f1,hc⟩:=FitsL_cons hc
 obtain ⟨_,_,rfl,f2,hc⟩:=FitsL_cons hc
 obtain ⟨_,_,rfl,f3,hc⟩:=FitsL_cons hc
 obtain rfl:=FitsL_nil hc
 obtain ⟨a,rfl,_⟩:=Fits_i64 f1
 obtain ⟨b,rfl,_⟩:=Fits_i64 f2
 obtain ⟨c,rfl,_⟩:=Fits_i64 f3
 exact ⟨mk a b c,(he a b c).symm⟩
theorem int1 {y:AV} (h:FitsA (false,[.int .i64]) y):∃ n:Int,y=.i n:=by
 obtain ⟨⟨n,rfl,_⟩,_⟩:=h.2 rfl
 exact ⟨n,rfl⟩
end Vs

namespace Vs
open Go Go.Proofs
theorem fl_StringS {a:AV} (h:Fits (.sl false [.str]) a):∃ xs:List ByteArray,a=.lst .o 1 (xs.map AV.z)∧ok_StringS xs:=by
 obtain ⟨xs,rfl,hl,hx⟩:=h
 obtain ⟨ts,rfl,ht⟩:=exists_map (AV.z) (fun x=>x.size≤9223372036854775807) xs fun x hxm=>by
  have hc:=((hx x hxm).2 rfl).1
  obtain ⟨s4,rfl,hs4⟩:=hc
  exact ⟨s4,rfl,(by simpa [maxLen] using hs4)⟩
 rw [List.length_map] at hl
 exact ⟨ts,rfl,⟨by simpa [maxLen] using hl,ht⟩⟩
theorem fl_FiberS {a:AV} (h:Fits (.sl true [.int .i64,.int .i64,.int .i64,.int .i64]) a):∃ xs:List TFiber,a=.lst .o 4 (xs.map (e_TFiber .o))∧ok_FiberS xs:=by
 obtain ⟨xs,rfl,hl,hx⟩:=h
 obtain ⟨ts,rfl,ht⟩:=exists_map ((e_TFiber .o)) (fun _=>True) xs fun x hxm=>by
  obtain ⟨cs,rfl,hc⟩:=(hx x hxm).1 rfl
  obtain ⟨_,_,rfl,f6,hc⟩:=FitsL_cons hc
  obtain ⟨_,_,rfl,f7,hc⟩:=FitsL_cons hc
  obtain ⟨_,_,rfl,f8,hc⟩:=FitsL_cons hc
  obtain ⟨_,_,rfl,f9,hc⟩:=FitsL_cons hc
  obtain rfl:=FitsL_nil hc
  obtain ⟨n10,rfl,_⟩:=Fits_i64 f6
  obtain ⟨n11,rfl,_⟩:=Fits_i64 f7
  obtain ⟨n12,rfl,_⟩:=Fits_i64 f8
  obtain ⟨n13,rfl,_⟩:=Fits_i64 f9
  exact ⟨⟨n10,n11,n12,n13⟩,rfl,trivial⟩
 rw [List.length_map] at hl
 exact ⟨ts,rfl,by simpa [maxLen,ok_FiberS] using hl⟩
theorem rd_Network {y:AV} (h:FitsA (true,[.sl false [.str],.sl true [.int .i64,.int .i64,.int .i64,.int .i64]]) y):∃ x:TNetwork,y=(e_TNetwork .o) x∧ok_Network x:=by
 obtain ⟨cs,rfl,hc⟩:=h.1 rfl
 obtain ⟨_,_,rfl,f1,hc⟩:=FitsL_cons hc
 obtain ⟨_,_,rfl,f2,hc⟩:=FitsL_cons hc
 obtain rfl:=FitsL_nil hc
 obtain ⟨l3,rfl,hl3⟩:=fl_StringS f1
 obtain ⟨l5,rfl,hl5⟩:=fl_FiberS f2
 exact ⟨⟨l3,l5⟩,rfl,⟨hl3,hl5⟩⟩
theorem fl_IntS {a:AV} (h:Fits (.sl false [.int .i64]) a):∃ xs:List Int,a=.lst .o 1 (xs.map AV.i)∧ok_IntS xs:=by
 obtain ⟨xs,rfl,hl,hx⟩:=h
 obtain ⟨ts,rfl,ht⟩:=exists_map (AV.i) (fun _=>True) xs fun x hxm=>by
  have hc:=((hx x hxm).2 rfl).1
  obtain ⟨n14,rfl,_⟩:=Fits_i64 hc
  exact ⟨n14,rfl,trivial⟩
 rw [List.length_map] at hl
 exact ⟨ts,rfl,by simpa [maxLen,ok_IntS] using hl⟩
theorem ok9 (ys:List AV) (h:FitsAll [(true,[.sl false [.str],.sl true [.int .i64,.int .i64,.int .i64,.int .i64]]),(false,[.sl false [.int .i64]]),(false,[.int .i64])] ys):Ok Try.prog 9 ys (.b true):=by
 match ys,h with
 | [a1, a2, a3], ⟨h1, h2, h3, _⟩ =>
   obtain ⟨x1,rfl,o1⟩:=rd_Network h1
   obtain ⟨x2,rfl,o2⟩:=fl_IntS (h2.2 rfl).1
   obtain ⟨x3,rfl⟩:=int1 h3
   exact w_du x1 x2 x3 (p_FnExactSwitchedRoutes x1 x2 x3 o1 o2)
end Vs
namespace Go.Proofs.Yteilpiddonoikaa.fnExactSwitchedRoutes
open Go.ChangeShapes Go.WideShapes Go.ChangeAt Go.RowKit
theorem own:ownKnob Try.prog.godebug=none:=by kernel_rfl
set_option maxRecDepth 100000 in
theorem lifted (os:Os) (started:os.Started) (H:Type) (enc:TypeId×Value→H) :
 ReturnsInHanded {} Try.checked os 9 .any (Rows.fnExactSwitchedRoutesSpec.pre6 enc Try.prog Try.f9 Rows.fnExactSwitchedRoutesRow.domain false) (Rows.fnExactSwitchedRoutesSpec.post enc Try.prog Try.f9 false true false false):=by
 refine returnsInHanded_of_change (C:=Try.checked) own started (by kernel_rfl) Try.func9
  (ChangeSpec.witness6 (enc:=enc) (C:=Try.checked) false ⟨#[],#[.agg #[.slice none 0 0,.slice none 0 0],.slice none 0 0,.int .i64 0],[]⟩ 8 (by kernel_rfl) (by kernel_rfl) (by kernel_rfl) (by kernel_rfl)) ?_
 intro W base args ds gs before hval hW _ _
 exact Vs.law_calls (k:=40) (ss:=[(true,[.sl false [.str],.sl true [.int .i64,.int .i64,.int .i64,.int .i64]]),(false,[.sl false [.int .i64]]),(false,[.int .i64])]) rfl (fun ds h=>by
  match ds,h with
  | [d1,d2,d3],_=>rfl) rfl (by kernel_rfl) (by kernel_rfl) Vs.ok9 hval hW
theorem over:Rows.fnExactSwitchedRoutesRow.holds Try.pinned (OpenSpec.ofChange Rows.fnExactSwitchedRoutesSpec) :=
 OpenClaim.holds_of_wide 9 Try.f9 rfl rfl rfl rfl rfl rfl rfl ⟨rfl,rfl,rfl,rfl,rfl⟩ rfl rfl rfl rfl rfl (by kernel_rfl) Try.func9 (by kernel_rfl)
  (of_decide_eq_true (by kernel_rfl)) (by unfold Func.isWrapper; first | (rw [if_pos (by decide +kernel)]; kernel_rfl) | (rw [if_neg (by decide +kernel)]; exact ⟨rfl,rfl⟩))
  (fun os started H enc _=>lifted os started H enc)
theorem proved:Rows.FnExactSwitchedRoutesSaid:=over
end Go.Proofs.Yteilpiddonoikaa.fnExactSwitchedRoutes

