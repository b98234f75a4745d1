/-
  Part of the proof that the law FnExactFailFibers returns true at every input; no condition beside the row's own.
-/
import Derived.Test.YtgpbibgbfklikaaGreatXe
import Derived.Test.YtgpbibgbfklikaaGreatKc
import Derived.Test.YtgpbibgbfklikaaGreatKb
import Derived.Test.YtgpbibgbfklikaaGreatRows
import Derived.WalkKit
import Derived.ProofKit
import Derived.OpenShut
import Derived.JoinedCond
set_option linter.defProp false
set_option linter.unusedSimpArgs false
set_option linter.unusedVariables false
namespace Vs
open Go
theorem exists_map {α:Type} (e:α→AV) (p:α→Prop):∀ (xs:List AV),(∀ x∈xs,∃ t,x=e t∧p t)→∃ ts:List α,xs=ts.map e∧∀ t∈ts,p t
 | [],_=>⟨[],rfl,by simp⟩
 | x :: xs, h => by
   obtain ⟨t,h1,h2⟩:=h x (by simp)
   obtain ⟨ts,h3,h4⟩:=exists_map e p xs fun y hy=>h y (by simp [hy])
   exact ⟨t::ts,by simp [h1,h3],fun s hs=>by
    rcases List.mem_cons.1 hs with rfl | hs
    · exact h2
    · exact h4 s hs⟩
theorem FitsL_cons {l:Lf} {ls:List Lf}:∀ {al:List AV},FitsL (l::ls) al→∃ a al',al=a::al'∧Fits l a∧FitsL ls al'
 | a::al,h=>⟨a,al,rfl,h.1,h.2⟩
 | [],h=>h.elim
theorem FitsL_nil:∀ {al:List AV},FitsL [] al→al=[]
 | [],_=>rfl
 | _::_,h=>h.elim
theorem i64_of_wf {n:Int} (h:(Lit.int .i64 n).wf=true):I64 n:=by
 simpa [Lit.wf,IntKind.min,IntKind.max,IntKind.signed,IntKind.bits,I64] using h
theorem Fits_i64 {a:AV} (h:Fits (.int .i64) a):∃ n,a=.i n∧I64 n:=by
 obtain ⟨n,h1,h2⟩:=h
 exact ⟨n,h1,i64_of_wf h2⟩
theorem rec3 {α:Type} (e:α→AV) (mk:Int→Int→Int→α) (he:∀ a b c,e (mk a b c)=.agg [.i a,.i b,.i c]) {y:AV} (h:FitsA (false,[.sl true [.int .i64,.int .i64,.int .i64]]) y):∃ ts:List α,y=.lst .o 3 (ts.map e)∧ts.length≤maxLen:=by
 obtain ⟨⟨xs,rfl,hl,hx⟩,_⟩:=h.2 rfl
 obtain ⟨ts,rfl,_⟩:=exists_map e (fun _=>True) xs fun x hxm=>by
  obtain ⟨cs,rfl,hc⟩:=(hx x hxm).1 rfl
  obtain ⟨_,_,rfl,f1,hc⟩:=FitsL_cons hc
  obtain ⟨_,_,rfl,f2,hc⟩:=FitsL_cons hc
  obtain ⟨_,_,rfl,f3,hc⟩:=FitsL_cons hc
  obtain rfl:=FitsL_nil hc
  obtain ⟨a,rfl,_⟩:=Fits_i64 f1
  obtain ⟨b,rfl,_⟩:=Fits_i64 f2
  obtain ⟨c,rfl,_⟩:=Fits_i64 f3
  exact ⟨mk a b c,(he a b c).symm,trivial⟩
 rw [List.length_map] at hl
 exact ⟨ts,rfl,hl⟩
theorem ints {y:AV} (h:FitsA (false,[.sl false [.int .i64]]) y):∃ ts:List Int,y=.lst .o 1 (ts.map AV.i)∧ts.length≤maxLen:=by
 obtain ⟨⟨xs,rfl,hl,hx⟩,_⟩:=h.2 rfl
 obtain ⟨ts,rfl,_⟩:=exists_map AV.i (fun _=>True) xs fun x hxm=>by
  obtain ⟨a,rfl,_⟩:=Fits_i64 ((hx x hxm).2 rfl).1
  exact ⟨a,rfl,trivial⟩
 rw [List.length_map] at hl
 exact ⟨ts,rfl,hl⟩
theorem one3 {α:Type} (e:α→AV) (mk:Int→Int→Int→α) (he:∀ a b c,e (mk a b c)=.agg [.i a,.i b,.i c]) {y:AV} (h:FitsA (true,[.int .i64,.int .i64,.int .i64]) y):∃ t:α,y=e t:=by
 obtain ⟨cs,rfl,hc⟩:=h.1 rfl
 obtain ⟨_,_,rfl,f1,hc⟩:=FitsL_cons hc
 obtain ⟨_,_,rfl,f2,hc⟩:=FitsL_cons hc
 obtain ⟨_,_,rfl,f3,hc⟩:=FitsL_cons hc
 obtain rfl:=FitsL_nil hc
 obtain ⟨a,rfl,_⟩:=Fits_i64 f1
 obtain ⟨b,rfl,_⟩:=Fits_i64 f2
 obtain ⟨c,rfl,_⟩:=Fits_i64 f3
 exact ⟨mk a b c,(he a b c).symm⟩
theorem int1 {y:AV} (h:FitsA (false,[.int .i64]) y):∃ n:Int,y=.i n:=by
 obtain ⟨⟨n,rfl,_⟩,_⟩:=h.2 rfl
 exact ⟨n,rfl⟩
end Vs

namespace Vs
open Go Go.Proofs
theorem fl_StringS {a:AV} (h:Fits (.sl false [.str]) a):∃ xs:List ByteArray,a=.lst .o 1 (xs.map AV.z)∧ok_StringS xs:=by
 obtain ⟨xs,rfl,hl,hx⟩:=h
 obtain ⟨ts,rfl,ht⟩:=exists_map (AV.z) (fun x=>x.size≤9223372036854775807) xs fun x hxm=>by
  have hc:=((hx x hxm).2 rfl).1
  obtain ⟨s7,rfl,hs7⟩:=hc
  exact ⟨s7,rfl,(by simpa [maxLen] using hs7)⟩
 rw [List.length_map] at hl
 exact ⟨ts,rfl,⟨by simpa [maxLen] using hl,ht⟩⟩
theorem fl_FiberS {a:AV} (h:Fits (.sl true [.int .i64,.int .i64,.int .i64,.int .i64]) a):∃ xs:List TFiber,a=.lst .o 4 (xs.map (e_TFiber .o))∧ok_FiberS xs:=by
 obtain ⟨xs,rfl,hl,hx⟩:=h
 obtain ⟨ts,rfl,ht⟩:=exists_map ((e_TFiber .o)) (fun _=>True) xs fun x hxm=>by
  obtain ⟨cs,rfl,hc⟩:=(hx x hxm).1 rfl
  obtain ⟨_,_,rfl,f9,hc⟩:=FitsL_cons hc
  obtain ⟨_,_,rfl,f10,hc⟩:=FitsL_cons hc
  obtain ⟨_,_,rfl,f11,hc⟩:=FitsL_cons hc
  obtain ⟨_,_,rfl,f12,hc⟩:=FitsL_cons hc
  obtain rfl:=FitsL_nil hc
  obtain ⟨n13,rfl,_⟩:=Fits_i64 f9
  obtain ⟨n14,rfl,_⟩:=Fits_i64 f10
  obtain ⟨n15,rfl,_⟩:=Fits_i64 f11
  obtain ⟨n16,rfl,_⟩:=Fits_i64 f12
  exact ⟨⟨n13,n14,n15,n16⟩,rfl,trivial⟩
 rw [List.length_map] at hl
 exact ⟨ts,rfl,by simpa [maxLen,ok_FiberS] using hl⟩
theorem fl_IntS {a:AV} (h:Fits (.sl false [.int .i64]) a):∃ xs:List Int,a=.lst .o 1 (xs.map AV.i)∧ok_IntS xs:=by
 obtain ⟨xs,rfl,hl,hx⟩:=h
 obtain ⟨ts,rfl,ht⟩:=exists_map (AV.i) (fun _=>True) xs fun x hxm=>by
  have hc:=((hx x hxm).2 rfl).1
  obtain ⟨n26,rfl,_⟩:=Fits_i64 hc
  exact ⟨n26,rfl,trivial⟩
 rw [List.length_map] at hl
 exact ⟨ts,rfl,by simpa [maxLen,ok_IntS] using hl⟩
theorem fl_LightS {a:AV} (h:Fits (.sl true [.int .i64,.int .i64,.sl false [.int .i64],.int .i64,.int .i64]) a):∃ xs:List TLight,a=.lst .o 5 (xs.map (e_TLight .o))∧ok_LightS xs:=by
 obtain ⟨xs,rfl,hl,hx⟩:=h
 obtain ⟨ts,rfl,ht⟩:=exists_map ((e_TLight .o)) (fun x=>ok_Light x) xs fun x hxm=>by
  obtain ⟨cs,rfl,hc⟩:=(hx x hxm).1 rfl
  obtain ⟨_,_,rfl,f18,hc⟩:=FitsL_cons hc
  obtain ⟨_,_,rfl,f19,hc⟩:=FitsL_cons hc
  obtain ⟨_,_,rfl,f20,hc⟩:=FitsL_cons hc
  obtain ⟨_,_,rfl,f21,hc⟩:=FitsL_cons hc
  obtain ⟨_,_,rfl,f22,hc⟩:=FitsL_cons hc
  obtain rfl:=FitsL_nil hc
  obtain ⟨n23,rfl,_⟩:=Fits_i64 f18
  obtain ⟨n24,rfl,_⟩:=Fits_i64 f19
  obtain ⟨l25,rfl,hl25⟩:=fl_IntS f20
  obtain ⟨n27,rfl,_⟩:=Fits_i64 f21
  obtain ⟨n28,rfl,_⟩:=Fits_i64 f22
  exact ⟨⟨n23,⟨n24,l25⟩,⟨n27,n28⟩⟩,rfl,hl25⟩
 rw [List.length_map] at hl
 exact ⟨ts,rfl,⟨by simpa [maxLen] using hl,ht⟩⟩
theorem rd_Restoration {y:AV} (h:FitsA (true,[.sl false [.str],.sl true [.int .i64,.int .i64,.int .i64,.int .i64],.sl true [.int .i64,.int .i64,.sl false [.int .i64],.int .i64,.int .i64],.sl true [.int .i64,.int .i64,.sl false [.int .i64],.int .i64,.int .i64],.sl false [.int .i64]]) y):∃ x:TRestoration,y=(e_TRestoration .o) x∧ok_Restoration x:=by
 obtain ⟨cs,rfl,hc⟩:=h.1 rfl
 obtain ⟨_,_,rfl,f1,hc⟩:=FitsL_cons hc
 obtain ⟨_,_,rfl,f2,hc⟩:=FitsL_cons hc
 obtain ⟨_,_,rfl,f3,hc⟩:=FitsL_cons hc
 obtain ⟨_,_,rfl,f4,hc⟩:=FitsL_cons hc
 obtain ⟨_,_,rfl,f5,hc⟩:=FitsL_cons hc
 obtain rfl:=FitsL_nil hc
 obtain ⟨l6,rfl,hl6⟩:=fl_StringS f1
 obtain ⟨l8,rfl,hl8⟩:=fl_FiberS f2
 obtain ⟨l17,rfl,hl17⟩:=fl_LightS f3
 obtain ⟨l29,rfl,hl29⟩:=fl_LightS f4
 obtain ⟨l30,rfl,hl30⟩:=fl_IntS f5
 exact ⟨⟨⟨⟨l6,l8⟩,l17⟩,l29,l30⟩,rfl,⟨⟨⟨hl6,hl8⟩,hl17⟩,hl29,hl30⟩⟩
theorem ok9 (ys:List AV) (h:FitsAll [(true,[.sl false [.str],.sl true [.int .i64,.int .i64,.int .i64,.int .i64],.sl true [.int .i64,.int .i64,.sl false [.int .i64],.int .i64,.int .i64],.sl true [.int .i64,.int .i64,.sl false [.int .i64],.int .i64,.int .i64],.sl false [.int .i64]]),(false,[.sl false [.int .i64]])] ys):Ok Tryz.prog 9 ys (.b true):=by
 match ys,h with
 | [a1, a2], ⟨h1, h2, _⟩ =>
   obtain ⟨x1,rfl,o1⟩:=rd_Restoration h1
   obtain ⟨x2,rfl,o2⟩:=fl_IntS (h2.2 rfl).1
   exact w_fo x1 x2 (p_FnExactFailFibers x1 x2 o1 o2)
end Vs
namespace Go.Proofs.YtgpbibgbfklikaaGreat.fnExactFailFibers
open Go.ChangeShapes Go.WideShapes Go.ChangeAt Go.RowKit
theorem own:ownKnob Tryz.prog.godebug=none:=by kernel_rfl
set_option maxRecDepth 100000 in
theorem lifted (os:Os) (started:os.Started) (H:Type) (enc:TypeId×Value→H) :
 ReturnsInHanded {} Tryz.checked os 9 .any (Rows.fnExactFailFibersSpec.pre6 enc Tryz.prog Tryz.f9 Rows.fnExactFailFibersRow.domain false) (Rows.fnExactFailFibersSpec.post enc Tryz.prog Tryz.f9 false true false false):=by
 refine returnsInHanded_of_change (C:=Tryz.checked) own started (by kernel_rfl) Tryz.func9
  (ChangeSpec.witness6 (enc:=enc) (C:=Tryz.checked) false ⟨#[],#[.agg #[.slice none 0 0,.slice none 0 0,.slice none 0 0,.slice none 0 0,.slice none 0 0],.slice none 0 0],[]⟩ 8 (by kernel_rfl) (by kernel_rfl) (by kernel_rfl) (by kernel_rfl)) ?_
 intro W base args ds gs before hval hW _ _
 exact Vs.law_calls (k:=40) (ss:=[(true,[.sl false [.str],.sl true [.int .i64,.int .i64,.int .i64,.int .i64],.sl true [.int .i64,.int .i64,.sl false [.int .i64],.int .i64,.int .i64],.sl true [.int .i64,.int .i64,.sl false [.int .i64],.int .i64,.int .i64],.sl false [.int .i64]]),(false,[.sl false [.int .i64]])]) rfl (fun ds h=>by
  match ds,h with
  | [d1,d2],_=>rfl) rfl (by kernel_rfl) (by kernel_rfl) Vs.ok9 hval hW
theorem cl0:(Rows.fnExactFailFibersRow.wf (OpenSpec.ofChange Rows.fnExactFailFibersSpec))=true:=by kernel_rfl
theorem cl1:(laidOutB Tryz.pinned.checked.prog)=true:=by kernel_rfl
theorem cl2:(mapsRowed Tryz.pinned.checked.prog)=true:=by kernel_rfl
theorem cl3:(Tryz.f9.params.all (Tryz.pinned.checked.prog.readableRec ·))=true:=by kernel_rfl
theorem cl4:(namedTie Tryz.pinned.checked.prog Rows.fnExactFailFibersRow.named Rows.fnExactFailFibersSpec.vars)=true:=by kernel_rfl
theorem cl5:(Rows.fnExactFailFibersRow.stops==[])=true:=by kernel_rfl
theorem cl6:(Tryz.pinned.checked.prog.stops==[])=true:=by kernel_rfl
theorem cl7:(Rows.fnExactFailFibersRow.knobs==[])=true:=by kernel_rfl
theorem cl8:(Tryz.pinned.checked.prog.stopKnobs==[])=true:=by kernel_rfl
theorem cl9:(Rows.fnExactFailFibersRow.inPlace==Tryz.pinned.checked.prog.inPlace 9)=true:=by kernel_rfl
theorem cl10:(Rows.fnExactFailFibersRow.unfollowed==Tryz.pinned.checked.prog.unfollowed 9)=true:=by kernel_rfl
theorem cl11:(Rows.fnExactFailFibersRow.recurses==Tryz.pinned.checked.prog.recurses 9)=true:=by kernel_rfl
theorem cl12:(Rows.fnExactFailFibersRow.named==Tryz.pinned.checked.prog.varsNamed 9)=true:=by kernel_rfl
theorem cl13:(Rows.fnExactFailFibersRow.maps==(Tryz.f9.params.toList++Rows.fnExactFailFibersSpec.plain.varTypes Tryz.pinned.checked.prog).any (Tryz.pinned.checked.prog.mapsRec ·))=true:=by kernel_rfl
theorem cl14:(Rows.fnExactFailFibersRow.ifaces==(Tryz.f9.params.toList++Rows.fnExactFailFibersSpec.plain.varTypes Tryz.pinned.checked.prog).any (Tryz.pinned.checked.prog.ifacesRec ·))=true:=by kernel_rfl
theorem cl15:(Rows.fnExactFailFibersRow.mapsOut==Tryz.pinned.checked.prog.mapsAmong Tryz.f9.resultTypes.toList)=true:=by kernel_rfl
theorem cl16:(Rows.fnExactFailFibersRow.loops==(Tryz.f9.params.toList++Rows.fnExactFailFibersSpec.plain.varTypes Tryz.pinned.checked.prog).any (Tryz.pinned.checked.prog.loopsFrom ·))=true:=by kernel_rfl
theorem cl17:(Rows.fnExactFailFibersRow.wideKeys==(Tryz.f9.params.toList++Rows.fnExactFailFibersSpec.plain.varTypes Tryz.pinned.checked.prog++Tryz.f9.resultTypes.toList).any (Tryz.pinned.checked.prog.wideKeysFrom ·))=true:=by kernel_rfl
theorem cl18:(Rows.fnExactFailFibersSpec.vars.all (Tryz.pinned.checked.prog.varReadable ·))=true:=by kernel_rfl
theorem cl19:(Tryz.f9.resultTypes.all (fun t=>Tryz.pinned.checked.prog.readableRec t&&decide (t < Tryz.pinned.checked.prog.types.size)))=true:=by kernel_rfl
theorem cl20:(Rows.fnExactFailFibersRow.ifacesOut==Tryz.f9.resultTypes.toList.any (Tryz.pinned.checked.prog.ifacesRec ·))=true:=by kernel_rfl
theorem cl21:(Rows.fnExactFailFibersRow.loopsOut==Tryz.f9.resultTypes.toList.any (Tryz.pinned.checked.prog.loopsFrom ·))=true:=by kernel_rfl
theorem cl22:(Rows.fnExactFailFibersRow.plainKeys==Tryz.pinned.checked.prog.plainKeys)=true:=by kernel_rfl
theorem cl23:(Rows.fnExactFailFibersRow.shortTexts.isNone)=true:=by kernel_rfl
theorem cl24:(Tryz.pinned.checked.prog.stopsHeard)=true:=by kernel_rfl
theorem cl25:(Tryz.pinned.checked.prog.mayEnter)=true:=by kernel_rfl
theorem cl26:(Rows.fnExactFailFibersRow.lifted==Tryz.pinned.checked.prog.liftsFinal)=true:=by kernel_rfl
theorem cl27:(Tryz.pinned.checked.prog.make==some Rows.fnExactFailFibersRow.make)=true:=by kernel_rfl
theorem cl29:(Rows.fnExactFailFibersRow.pinned==Rows.fnExactFailFibersRow.pinnedBy)=true:=by kernel_rfl
theorem cl30:(Rows.fnExactFailFibersRow.veiled==(Tryz.f9.params.toList++Rows.fnExactFailFibersSpec.plain.varTypes Tryz.pinned.checked.prog++Tryz.f9.resultTypes.toList).any (Tryz.pinned.checked.prog.veiledRec ·))=true:=by kernel_rfl
theorem cl31:(Rows.fnExactFailFibersRow.veiledFits Tryz.pinned.checked.prog Tryz.f9.params.toList (Tryz.f9.params.toList++Rows.fnExactFailFibersSpec.plain.varTypes Tryz.pinned.checked.prog++Tryz.f9.resultTypes.toList))=true:=by kernel_rfl
theorem closed:joinedFacts Tryz.pinned.checked.prog 9 Tryz.f9 Rows.fnExactFailFibersSpec Rows.fnExactFailFibersRow=true:=by
 unfold joinedFacts
 rw [cl0,cl1,cl2,cl3,cl4,cl5,cl6,cl7,cl8,cl9,cl10,cl11,cl12,cl13,cl14,cl15,cl16,cl17,cl18,cl19,cl20,cl21,cl22,cl23,cl24,cl25,cl26,cl27,cl29,cl30,cl31]
 kernel_rfl
theorem over:Rows.fnExactFailFibersRow.holds Tryz.pinned (OpenSpec.ofChange Rows.fnExactFailFibersSpec) :=
 OpenClaim.holds_of_wide 9 Tryz.f9 rfl rfl rfl rfl rfl rfl rfl ⟨rfl,rfl,rfl,rfl,rfl⟩ rfl rfl rfl rfl rfl (by kernel_rfl) Tryz.func9 closed
  (of_decide_eq_true (by kernel_rfl)) (by unfold Func.isWrapper; first | (rw [if_pos (by decide +kernel)]; kernel_rfl) | (rw [if_neg (by decide +kernel)]; exact ⟨rfl,rfl⟩))
  (fun os started H enc _=>lifted os started H enc)
theorem proved:Rows.FnExactFailFibersSaid:=over
end Go.Proofs.YtgpbibgbfklikaaGreat.fnExactFailFibers

