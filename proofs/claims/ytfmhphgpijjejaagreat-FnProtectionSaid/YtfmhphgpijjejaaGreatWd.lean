/-
  Part of the proof that FnProtection returns true at every input.
-/
import Derived.Test.YtfmhphgpijjejaaGreatWc
import Derived.Orders
set_option linter.defProp false
set_option linter.unusedSimpArgs false
set_option linter.unusedVariables false
open List renaming getElem?_eq_getElem -> A0, getElem?_map -> A2, mem_singleton -> A5, getElem?_eq_some_iff -> A6, all_eq_true -> B0, map_congr_left -> B1, mem_append_right -> B2, mem_of_getElem? -> B3, mem_append -> B4, mem_range -> B8, range -> C0, not_mem_nil -> C1, mem_map -> C3, getElem?_set -> C5, mem_cons -> C6, map_cons -> D0, getElem_mem -> D3, mem_append_left -> D5, take_succ_cons -> D6, mem_flatMap -> E0, take_length -> E9, drop_drop -> F3
open Option renaming map_eq_some_iff -> A1, map_some -> B9, isSome_some -> D8, bind_some -> D9, getD_some -> E8
open Bool renaming and_eq_true -> A3, or_eq_true -> A9, false_eq_true -> C8, or_false -> D7
open Nat renaming zero_add -> A7, lt_trichotomy -> B5, lt_or_ge -> C2, le_refl -> C9, add_comm -> F4
open Array renaming getElem?_eq_getElem -> A8, getElem_setIfInBounds -> B6, getElem?_eq_some_iff -> B7, all_eq_true_iff_forall_mem -> C4, getD_eq_getD_getElem? -> C7, replicate -> D4, ext -> F0
namespace Vs
open Go Go.RowKit
variable{ok:Oks}{g g':X->AV}{ρ ρ':Nat->Option Row}{d:Nat}{K:AV->List (Nat×Row)->Prop}
variable{E:(AV->List (Nat×Row)->Prop)->Prop}
def One(v:AV)(u:List (Nat×Row))(v':AV)(u':List (Nat×Row)):Prop:=v'=v/\u'=u
def Det(E:(AV->List (Nat×Row)->Prop)->Prop):Prop:=∀K,E K->∃v u,K v u/\∀K':AV->List (Nat×Row)->Prop,K' v u->E K'
def Det.one(h:Det E):∀K,E K->∃v u,K v u/\E (One v u):=fun K hK=>let⟨v,u,h1,h2⟩:=h K hK;⟨v,u,h1,h2 _ ⟨rfl,rfl⟩⟩
def Det.mono(h:Det E){K K':AV->List (Nat×Row)->Prop}(hK:E K)(hm:∀v u,K v u->K' v u):E K':=let⟨v,u,h1,h2⟩:=h K hK;h2 _ (hm v u h1)
def Dh(h:(∀K,¬E K)\/∃(C:Prop)(v:AV)(u:List (Nat×Row)),∀K,E K↔C/\K v u):Det E:=by
 intro K hK
 grind
def dC(C:Prop)(v:AV)(u:List (Nat×Row))(E:(AV->List (Nat×Row)->Prop)->Prop)(h:∀K,E K↔C/\K v u):Det E:=Dh (.inr ⟨C,v,u,h⟩)
def br(v:AV)(u:List (Nat×Row))(E:(AV->List (Nat×Row)->Prop)->Prop)(h:∀K,E K↔K v u):Det E:=Dh (.inr ⟨True,v,u,by simpa using h⟩)
theorem bh(E:(AV->List (Nat×Row)->Prop)->Prop)(h:∀K,¬E K):Det E:=Dh (.inl h)
theorem aM{C:Prop}(h:Det E):Det (fun K=>C/\E K):=by
 rintro K ⟨c,hK⟩;obtain⟨v,u,h1,h2⟩:=h K hK
 grind
theorem bo{α:Type}(o:Option α)(E:(AV->List (Nat×Row)->Prop)->α->Prop)(h:∀x,Det (fun K=>E K x)):Det (fun K=>opt o (E K)):=by
 cases o with
 |none=>exact bh _ fun _ h=>h
 |some x=>exact h x
theorem dH(x:AV):Det (fun K=>k1 K x):=br x [] _ fun _=>Iff.rfl
def qc(k:IntKind)(m:Int):Det (fun K=>ofI k m (k1 K)):=by
 unfold ofI;exact dH _
def WY(op:BinOp)(x y:AV):Det (fun K=>dA op x y (k1 K)):=by
 unfold dA;split
 ·split
  ·unfold fg;exact aM (qc _ _)
  ·unfold fg;exact aM (dH _)
  ·refine aM ?_;unfold eb;split;all_goals first|exact aM (qc _ _)|exact aM (dH _)|exact qc _ _|exact dH _|grind [bh]
 ·split;all_goals first|exact dH _|exact aM (dH _)|grind [bh]
 grind [bh]
def aay(op:UnOp)(x:AV):Det (fun K=>unV op x (k1 K)):=by
 unfold unV;split
 ·exact qc _ _
 ·exact dH _
 grind [bh]
def ux(f:Nat)(args:List AV):Det (gC ok ρ d f args):=by
 rintro K ⟨res,h1,h2,h3,h4⟩;exact⟨_,_,h4,fun K' hk=>⟨res,h1,h2,h3,hk⟩⟩
def vo(f:Nat)(args:List AV)(rs:List Nat):Det (callM ok ρ d f args rs):=by
 rintro K ⟨res,outs,h1,h2,h3,h4⟩;exact⟨_,_,h4,fun K' hk=>⟨res,outs,h1,h2,h3,hk⟩⟩
def FJ(op:AOp):Det (fun K=>eff ok g ρ d op K):=by
 cases op<;>simp only[eff]
 case mv x=>exact br _ _ _ fun _=>Iff.rfl
 case pick c a b=>
  unfold lN;split
  ·rename_i t _;cases t
   ·exact br (g b) [] _ fun K=>by simp
   ·exact br (g a) [] _ fun K=>by simp
  grind [bh]
 case alloc z=>exact dC _ _ _ _ fun _=>Iff.rfl
 case box n x=>exact aM (dC _ _ _ _ fun _=>Iff.rfl)
 case build z ps=>exact dC _ _ _ _ fun _=>Iff.rfl
 case bsl n fr ps=>exact aM (aM (aM (dC _ _ _ _ fun _=>Iff.rfl)))
 case bsm n ps=>exact aM (aM (aM (dC _ _ _ _ fun _=>Iff.rfl)))
 case fdv av off x=>
  refine aM ?_;unfold mt;split
  ·exact br _ _ _ fun _=>Iff.rfl
  ·exact dC _ _ _ _ fun _=>Iff.rfl
  grind [bh]
 case load n ag x=>
  unfold eP;split
  ·exact bo _ _ fun x=>dH x
  ·unfold eT;split
   ·exact aM (bo _ _ fun x=>dH x)
   ·exact bo _ _ fun x=>bo _ _ fun x=>dH x
   grind [bh]
  grind [bh]
 case store n x v=>
  unfold dQ;split
  ·refine aM ?_;unfold ej;split
   ·exact aM (bo _ _ fun x=>br _ _ _ fun _=>Iff.rfl)
   ·refine bo _ _ fun x=>?_;unfold qD;exact aM (aM (aM (bo _ _ fun x=>br _ _ _ fun _=>Iff.rfl)))
   grind [bh]
  grind [bh]
 case ldv av n ag x=>
  refine aM ?_;unfold eP;split
  ·exact bo _ _ fun x=>dH x
  ·unfold eT;split
   ·exact aM (bo _ _ fun x=>dH x)
   ·exact bo _ _ fun x=>bo _ _ fun x=>dH x
   grind [bh]
  grind [bh]
 case lde av n ag x=>
  refine aM ?_;unfold eP;split
  ·exact bo _ _ fun x=>dH x
  ·unfold eT;split
   ·exact aM (bo _ _ fun x=>dH x)
   ·exact bo _ _ fun x=>bo _ _ fun x=>dH x
   grind [bh]
  grind [bh]
 case str n x v=>
  refine aM (aM ?_);unfold dQ;split
  ·refine aM ?_;unfold ej;split
   ·exact aM (bo _ _ fun x=>br _ _ _ fun _=>Iff.rfl)
   ·refine bo _ _ fun x=>?_;unfold qD;exact aM (aM (aM (bo _ _ fun x=>br _ _ _ fun _=>Iff.rfl)))
   grind [bh]
  grind [bh]
 case lda n ag x=>
  refine aM ?_;unfold eP;split
  ·exact bo _ _ fun x=>dH x
  ·unfold eT;split
   ·exact aM (bo _ _ fun x=>dH x)
   ·exact bo _ _ fun x=>bo _ _ fun x=>dH x
   grind [bh]
  grind [bh]
 case stv n x v=>
  refine aM ?_;unfold dQ;split
  ·refine aM ?_;unfold ej;split
   ·exact aM (bo _ _ fun x=>br _ _ _ fun _=>Iff.rfl)
   ·refine bo _ _ fun x=>?_;unfold qD;exact aM (aM (aM (bo _ _ fun x=>br _ _ _ fun _=>Iff.rfl)))
   grind [bh]
  grind [bh]
 case stw r n x v=>
  refine aM ?_;unfold dQ;split
  ·refine aM ?_;unfold ej;split
   ·exact aM (bo _ _ fun x=>br _ _ _ fun _=>Iff.rfl)
   ·refine bo _ _ fun x=>?_;unfold qD;exact aM (aM (aM (bo _ _ fun x=>br _ _ _ fun _=>Iff.rfl)))
   grind [bh]
  grind [bh]
 case bin op x y=>exact WY _ _ _
 case beq neg x y=>
  unfold yA;split
  ·exact br _ _ _ fun _=>Iff.rfl
  grind [bh]
 case aeq neg x y=>
  unfold AU;split
  ·exact br _ _ _ fun _=>Iff.rfl
  grind [bh]
 case un op x=>exact aay _ _
 case conv k x=>
  unfold si;split
  ·exact br _ _ _ fun _=>Iff.rfl
  grind [bh]
 case mkf f cs=>exact br _ _ _ fun _=>Iff.rfl
 case mks n z bytes l c=>
  unfold tw;split
  ·exact aM (aM (aM (aM (aM (dC _ _ _ _ fun _=>Iff.rfl)))))
  grind [bh]
 case slc n x lo hi mx=>
  unfold su;split
  ·refine aM (aM (aM (aM (aM ?_))));split
   ·exact br _ _ _ fun _=>Iff.rfl
   ·exact aM (aM (dC _ _ _ _ fun _=>Iff.rfl))
  ·exact aM (aM (aM (aM (aM (dC _ _ _ _ fun _=>Iff.rfl)))))
  grind [bh]
 case slz x lo hi=>
  unfold VR;split
  ·exact aM (aM (aM (dC _ _ _ _ fun _=>Iff.rfl)))
  grind [bh]
 case fad off x=>
  unfold mt;split
  ·exact br _ _ _ fun _=>Iff.rfl
  ·exact dC _ _ _ _ fun _=>Iff.rfl
  grind [bh]
 case idx n x i=>
  unfold ke;split
  ·exact aM (aM (bo _ _ fun x=>br _ _ _ fun _=>Iff.rfl))
  ·exact aM (aM (dC _ _ _ _ fun _=>Iff.rfl))
  grind [bh]
 case idv av n x i=>
  refine aM ?_;unfold ke;split
  ·exact aM (aM (bo _ _ fun x=>br _ _ _ fun _=>Iff.rfl))
  ·exact aM (aM (dC _ _ _ _ fun _=>Iff.rfl))
  grind [bh]
 case fld off n ag x=>simp_all [aM,bo,dH,HR]
 case stri x i=>
  unfold qT;split
  ·exact aM (bo _ _ fun x=>br _ _ _ fun _=>Iff.rfl)
  grind [bh]
 case ext x j=>
  unfold Db;split
  ·exact bo _ _ fun x=>dH x
  grind [bh]
 case call f xs=>exact ux _ _
 case dyn x xs=>
  unfold xA;split
  ·exact ux _ _
  grind [bh]
 case bad=>grind [bh]
 case callM f xs rs=>exact vo _ _ _
 case dynM x xs rs=>
  unfold rQ;split
  ·exact vo _ _ _
  grind [bh]
 case len x=>
  unfold lx;split
  ·exact br _ _ _ fun _=>Iff.rfl
  ·exact br _ _ _ fun _=>Iff.rfl
  ·exact dC _ _ _ _ fun _=>Iff.rfl
  grind [bh]
 case lnv av x=>
  refine aM ?_;unfold lx;split
  ·exact br _ _ _ fun _=>Iff.rfl
  ·exact br _ _ _ fun _=>Iff.rfl
  ·exact dC _ _ _ _ fun _=>Iff.rfl
  grind [bh]
 case lenz x=>
  unfold sG;split
  ·exact br _ _ _ fun _=>Iff.rfl
  grind [bh]
 case capn x=>
  unfold qH;split
  ·exact br _ _ _ fun _=>Iff.rfl
  grind [bh]
 case apz n z bytes x l=>
  unfold JY;split
  ·exact aM (aM (aM (aM (aM (dC _ _ _ _ fun _=>Iff.rfl)))))
  grind [bh]
 case slg n x hi=>
  unfold Dp;split
  ·exact aM (aM (br _ _ _ fun _=>Iff.rfl))
  grind [bh]
 case b2s x=>
  unfold XR;split
  ·exact aM (bo _ _ fun x=>br _ _ _ fun _=>Iff.rfl)
  ·unfold FH;split
   ·exact aM (bo _ _ fun x=>br _ _ _ fun _=>Iff.rfl)
   grind [bh]
  grind [bh]
 case isn neg x=>
  have dn:∀e,Det (fun K=>tq K neg e):=fun e=>br _ _ _ fun _=>Iff.rfl;unfold yn;split
  ·exact dn _
  ·exact dn _
  ·exact aM (dn _)
  grind [bh]
 case apq n x y=>
  unfold Ki;split
  ·refine bo _ _ fun x=>?_;unfold Pv;split
   ·exact aM (aM (br _ _ _ fun _=>Iff.rfl))
   grind [bh]
  grind [bh]
 case slx n x lo hi=>
  unfold AG;split
  ·unfold uU;split
   ·exact aM (aM (aM (aM (aM (br _ _ _ fun _=>Iff.rfl)))))
   grind [bh]
  grind [bh]
 case slm n x lo hi mx=>
  unfold HM;split
  ·unfold zg;split
   ·exact aM (aM (aM (aM (aM (br _ _ _ fun _=>Iff.rfl)))))
   grind [bh]
  grind [bh]
 case clr n z x=>
  unfold Hv;split
  ·unfold xC;split
   ·exact aM (aM (br _ _ _ fun _=>Iff.rfl))
   grind [bh]
  grind [bh]
 case cpy n x y=>
  unfold Ia;split
  ·refine bo _ _ fun x=>?_;unfold zX;split
   ·exact aM (br _ _ _ fun _=>Iff.rfl)
   grind [bh]
  grind [bh]
 case app n bytes mv x y=>
  unfold vE;split
  ·refine aM (bo _ _ fun p=>?_);unfold qi;split
   ·exact aM (aM (dC _ _ _ _ fun _=>Iff.rfl))
   grind [bh]
  ·refine aM (bo _ _ fun p=>?_);unfold xW;exact aM (aM (dC _ _ _ _ fun _=>Iff.rfl))
  grind [bh]
 case nilc x=>
  unfold tN;split
  ·exact br _ _ _ fun _=>Iff.rfl
  ·exact dC _ _ _ _ fun _=>Iff.rfl
  grind [bh]
 case mn x y=>
  unfold eMn;split
  ·exact dC _ _ _ _ fun _=>Iff.rfl
  grind [bh]
 case mx x y=>
  unfold eMx;split
  ·exact dC _ _ _ _ fun _=>Iff.rfl
  grind [bh]
def AOp.xs:AOp->List X
 | .mv x=>[x]
 | .pick c a b=>[c,a,b]
 | .alloc _=>[]
 | .box _ x=>[x]
 | .build _ ps=>ps.map (·.2.2)
 | .bsl _ _ ps=>ps
 | .load _ _ x=>[x]
 | .store _ x v=>[x,v]
 | .bin _ x y=>[x,y]
 | .beq _ x y=>[x,y]
 | .aeq _ x y=>[x,y]
 | .un _ x=>[x]
 | .conv _ x=>[x]
 | .mkf _ cs=>cs
 | .mks _ _ _ l c=>[l,c]
 | .slc _ x lo hi m=>x::(lo.toList++hi.toList++m.toList)
 | .slz x lo hi=>x::(lo.toList++hi.toList)
 | .fad _ x=>[x]
 | .idx _ x i=>[x,i]
 | .idv _ _ x i=>[x,i]
 | .fld _ _ _ x=>[x]
 | .stri x i=>[x,i]
 | .ext x _=>[x]
 | .call _ xs=>xs
 | .dyn x xs=>x::xs
 | .callM _ xs _=>xs
 | .dynM x xs _=>x::xs
 | .len x=>[x]
 | .lenz x=>[x]
 | .capn x=>[x]
 | .slg _ x hi=>[x,hi]
 | .apz _ _ _ x l=>[x,l]
 | .b2s x=>[x]
 | .isn _ x=>[x]
 | .apq _ x y=>[x,y]
 | .slx _ x lo hi=>x::(lo.toList++hi.toList)
 | .slm _ x lo hi m=>[x,lo,hi,m]
 | .clr _ _ x=>[x]
 | .cpy _ x y=>[x,y]
 | .ldv _ _ _ x=>[x]
 | .lde _ _ _ x=>[x]
 | .str _ x v=>[x,v]
 | .lda _ _ x=>[x]
 | .stv _ x v=>[x,v]
 | .stw _ _ x v=>[x,v]
 | .lnv _ x=>[x]
 | .fdv _ _ x=>[x]
 | .bsm _ ps=>ps
 | .app _ _ _ x y=>[x,y]
 | .nilc x=>[x]
 | .mn x y=>[x,y]
 | .mx x y=>[x,y]
 | .bad=>[]
theorem ml{o:Option X}(h:∀x∈o.toList,g x=g' x):o.map g=o.map g':=by
 cases o with
 |none=>rfl
 |some x=>simp[h x (by simp)]
def PX(op:AOp)(h:∀x∈op.xs,g x=g' x):eff ok g ρ d op K=eff ok g' ρ d op K:=by
 cases op<;>simp only[AOp.xs,C6,C1,or_false,forall_eq_or_imp,forall_eq,B4] at h<;>simp only[eff]
 case build z ps=>
  grind [List.map_congr_left]
 case bsl n fr ps=>
  grind [List.map_congr_left]
 case bsm n ps=>
  grind [List.map_congr_left]
 case mkf f cs=>grind [List.map_congr_left]
 case call f xs=>grind [List.map_congr_left]
 case dyn x xs=>grind [List.map_congr_left]
 case callM f xs rs=>grind [List.map_congr_left]
 case dynM x xs rs=>grind [List.map_congr_left]
 case slc n x lo hi mx=>grind [ml]
 case slx n x lo hi=>grind [ml]
 case slz x lo hi=>grind [ml]
 all_goals simp only[h]
def AOp.quiet:AOp->Bool
 | .mv _| .pick _ _ _| .bin _ _ _| .beq _ _ _| .aeq _ _ _| .un _ _| .conv _ _| .mkf _ _| .fld _ _ _ _| .stri _ _| .ext _ _| .mn _ _| .mx _ _| .lenz _| .capn _| .slg _ _ _| .build _ _| .slz _ _ _=>true
 |_=>false
def AOp.calm:AOp->Bool
 | .load _ _ _| .idx _ _ _| .fad _ _| .nilc _| .len _| .slc _ _ _ _ _| .alloc _| .box _ _| .mks _ _ _ _ _| .call _ _| .dyn _ _| .slx _ _ _ _=>true
 | .bsl _ fr _=>fr
 |_=>false
def uK{op:AOp}(h:op.quiet=true):eff ok g ρ d op K=eff ok g ρ' d op K:=by
 cases op<;>simp[AOp.quiet] at h<;>simp only[eff]
end Vs

namespace Vs
open Go Go.RowKit
variable{ok:Oks}{g g':X->AV}{ρ ρ':Nat->Option Row}{d:Nat}{v:AV}{u:List (Nat×Row)}
variable{op:AOp}
theorem ga:∀(k:Nat)(x:AV),(∀r∈x.ments,ρ r=ρ' r)->lift ρ k x=lift ρ' k x
 |0,x,_=>by simp only[lift]
 | k + 1, x, h => by
   cases x<;>simp only[lift]
   case sl r i n=>rw[h r (by simp[AV.ments])]
   case agg cs=>
    congr 1;exact B1 fun c hc=>ga k c fun r hr=>h r (by simp only[AV.ments];exact bE.2 ⟨c,hc,hr⟩)
   case tup cs=>
    congr 1;exact B1 fun c hc=>ga k c fun r hr=>h r (by simp only[AV.ments];exact bE.2 ⟨c,hc,hr⟩)
structure yg(ρ ρ':Nat->Option Row):Prop where
 same:∀r x y,ρ r=some x->ρ' r=some y->x=y
 closed:∀r x,ρ r=some (.var x)->ρ' r=some (.var x)->∀q∈x.ments,(ρ q).isSome/\(ρ' q).isSome
def yg.at(h:yg ρ ρ'){r:Nat}(hr:(ρ r).isSome/\(ρ' r).isSome):ρ r=ρ' r:=by
 obtain⟨h1,h2⟩:=hr;cases e:ρ r with
 |none=>rw[e] at h1;cases h1
 | some x => cases e' : ρ' r with
   |none=>rw[e'] at h2;cases h2
   |some y=>rw[h.same r x y e e']
theorem lg(h:yg ρ ρ'):∀(k:Nat)(x:AV),(∀r∈x.ments,(ρ r).isSome/\(ρ' r).isSome)->snp ρ k x=snp ρ' k x
 |0,x,_=>by simp only[snp]
 | k + 1, x, hx => by
   cases x<;>simp only[snp]
   case sl r i n=>rw[h.at (hx r (by simp[AV.ments]))]
   case pt r i off=>
    have e:=h.at (hx r (by simp[AV.ments]));cases hr:ρ r with
    |none=>rw[hr] at e;rw[<-e];rfl
    | some row =>
      rw[hr] at e;rw[<-e];cases row with
      |dead=>rfl
      |arr n es=>rfl
      |var y=>simp only[mD];rw[lg h k y (h.closed r y hr e.symm)]
   case agg cs=>
    congr 1;exact B1 fun c hc=>lg h k c fun r hr=>hx r (by simp only[AV.ments];exact bE.2 ⟨c,hc,hr⟩)
   case fn f cs=>
    congr 1;exact B1 fun c hc=>lg h k c fun r hr=>hx r (by simp only[AV.ments];exact bE.2 ⟨c,hc,hr⟩)
def qj(h:yg ρ ρ'){f:Nat}{args:List AV}(hx:∀r∈aP args,(ρ r).isSome/\(ρ' r).isSome)(he:gC ok ρ d f args (One v u))(hnew:∀p∈u,ρ' p.1=none):
 gC ok ρ' d f args (One v u):=by
 obtain⟨res,h1,h2,h3,h4,h5⟩:=he;refine⟨res,?_,h2,?_,h4,h5⟩
 ·grind [List.map_congr_left,lg,bE]
 grind
def yU(hc:op.calm=true)(h:yg ρ ρ')(hx:∀x∈op.xs,∀r∈(g x).ments,(ρ r).isSome/\(ρ' r).isSome)(he:eff ok g ρ d op (One v u))(hnew:∀p∈u,ρ' p.1=none):
 eff ok g ρ' d op (One v u):=by
 cases op<;>simp[AOp.calm] at hc<;>simp only[AOp.xs,C6,C1,or_false,forall_eq_or_imp,forall_eq,B4] at hx<;>simp only[eff] at he⊢
 case alloc z=>
  obtain⟨h1,h2,h3⟩:=he;exact⟨hnew (d,.var z) (by rw[<-h3];exact A5.2 rfl),h2,h3⟩
 case box n x=>
  obtain⟨h1,h2,h3,h4⟩:=he;exact⟨hnew (d,.var (g x)) (by rw[<-h4];exact A5.2 rfl),h2,h3,h4⟩
 case bsl n fr ps=>
  obtain⟨h1,h2,h3,h4,h5,h6⟩:=he;have hm:=h1 hc;have e:(ps.map g).map (lift ρ 2)=(ps.map g).map (lift ρ' 2):=B1 fun c hc=>ga 2 c fun r hr=>by
   have:=bE.2 ⟨c,hc,hr⟩;rw[hm] at this;cases this
  refine⟨h1,hnew (d,.arr n ((ps.map g).map (lift ρ 2))) (by rw[<-h6];exact B2 _ (A5.2 rfl)),h3,h4,h5,?_⟩;rw[<-e];exact h6
 case load n ag x=>
  cases e:g x<;>rw[e] at he hx<;>simp only[eP] at he⊢
  case bp=>exact he
  case pt r i off=>rw[<-h.at (hx r (by simp[AV.ments]))];exact he
 case mks n z bytes l c=>
  unfold tw at he⊢;split at he
  ·obtain⟨h1,h2,h3,h4,h5,h6,h7,h8⟩:=he;exact⟨hnew (d,_) (by rw[<-h8];exact A5.2 rfl),h2,h3,h4,h5,h6,h7,h8⟩
  ·exact he.elim
 case slc n x lo hi mx=>
  have hx:=hx.1;cases e:g x<;>rw[e] at he hx<;>simp only[su] at he⊢
  case lst=>exact he
  case sl r i m=>rw[<-h.at (hx r (by simp[AV.ments]))];exact he
 case fad off x=>
  cases e:g x<;>rw[e] at he hx<;>simp only[mt] at he⊢
  case bp=>exact he
  case pt r i off=>rw[<-h.at (hx r (by simp[AV.ments]))];exact he
 case idx n x i=>
  have hx:=hx.1;cases e:g x<;>rw[e] at he hx
  case lst=>
   unfold ke at he⊢;split at he
   ·exact he
   ·rename_i e1 _;cases e1
   ·exact he.elim
  case sl r j m=>
   unfold ke at he⊢;split at he
   ·rename_i e1 _;cases e1
   ·rename_i e1 _;cases e1;rw[<-h.at (hx r (by simp[AV.ments]))];exact he
   ·exact he.elim
  all_goals exact he.elim
 case call f xs=>
  refine qj h (fun r hr=>?_) he hnew;obtain⟨c,hc,hr⟩:=bE.1 hr;obtain⟨x,hx',rfl⟩:=C3.1 hc;exact hx x hx' r hr
 case dyn x xs=>
  have hx0:=hx.1;cases e:g x<;>rw[e] at he hx0<;>simp only[xA] at he⊢
  case fn f cs=>
   refine qj h (fun r hr=>?_) he hnew;obtain⟨c,hc,hr⟩:=bE.1 hr;rw[B4] at hc;rcases hc with hc|hc
   ·obtain⟨x,hx',rfl⟩:=C3.1 hc;exact hx.2 x hx' r hr
   ·exact hx0 r (by simp only[AV.ments];exact bE.2 ⟨c,hc,hr⟩)
 case len x=>
  cases e:g x<;>rw[e] at he hx<;>simp only[lx] at he⊢
  case lst=>exact he
  case tg=>exact he
  case sl r i m=>rw[<-h.at (hx r (by simp[AV.ments]))];exact he
 case nilc x=>
  cases e:g x<;>rw[e] at he hx<;>simp only[tN] at he⊢
  case bp=>exact he
  case pt r i off=>rw[<-h.at (hx r (by simp[AV.ments]))];exact he
 case slx n x lo hi=>
  have hx0:=hx.1;cases e:g x<;>rw[e] at he hx0<;>simp only[AG] at he⊢
  case sl r i m=>rw[<-h.at (hx0 r (by simp[AV.ments]))];exact he
def dK{ρ:Nat->Option Row}{w:AV}(h:One v u w []):∀p∈u,ρ p.1=none:=by
 intro p hp;rw[<-h.2] at hp;cases hp
def Eo{w:AV}{row:Row}(hd:ρ d=none)(h:One v u w [(d,row)]):∀p∈u,ρ p.1=none:=by
 intro p hp;rw[<-h.2] at hp;rw[A5.1 hp];exact hd
def vX(hc:op.calm=true)(he:eff ok g ρ d op (One v u)):∀p∈u,ρ p.1=none:=by
 cases op<;>simp[AOp.calm] at hc<;>simp only[eff] at he
 case alloc z=>exact Eo he.1 he.2
 case box n x=>exact Eo he.1 he.2.2
 case bsl n fr ps=>
  have:=he.2.2.2.2;rw[he.1 hc] at this;exact Eo he.2.1 this
 case load n ag x=>
  cases e:g x<;>rw[e] at he<;>simp only[eP] at he
  case bp=>obtain⟨y,_,h⟩:=cM he;exact dK h
  case pt r i off=>
   unfold eT at he;split at he
   ·obtain⟨y,_,h⟩:=cM he.2;exact dK h
   ·obtain⟨y,_,h⟩:=cM he;obtain⟨y,_,h⟩:=cM h;exact dK h
   ·exact he.elim
 case mks n z bytes l c=>
  unfold tw at he;split at he
  ·exact Eo he.1 he.2.2.2.2.2.2
  ·exact he.elim
 case slc n x lo hi mx=>
  unfold su at he;split at he
  ·obtain⟨_,_,_,_,_,he⟩:=he;split at he
   ·exact dK he
   ·exact dK he.2.2.2
  ·exact dK he.2.2.2.2.2.2
  ·exact he.elim
 case slx n x lo hi=>
  unfold AG at he;split at he
  ·unfold uU at he;split at he
   ·exact dK he.2.2.2.2.2
   ·exact he.elim
  ·exact he.elim
 case fad off x=>
  unfold mt at he;split at he
  ·exact dK he
  ·exact dK he.2
  ·exact he.elim
 case idx n x i=>
  unfold ke at he;split at he
  ·obtain⟨y,_,h⟩:=cM he.2.2;exact dK h
  ·exact dK he.2.2.2
  ·exact he.elim
 case call f xs=>obtain⟨res,_,_,h3,h4⟩:=he;rw[<-h4.2];exact fun p hp=>(h3 p hp).1
 case dyn x xs=>
  unfold xA at he;split at he
  ·obtain⟨res,_,_,h3,h4⟩:=he;rw[<-h4.2];exact fun p hp=>(h3 p hp).1
  ·exact he.elim
 case len x=>
  unfold lx at he;split at he
  ·exact dK he
  ·exact dK he
  ·exact dK he.2
  ·exact he.elim
 case nilc x=>
  unfold tN at he;split at he
  ·exact dK he
  ·exact dK he.2
  ·exact he.elim
theorem nY{x:AV}(h:k1 (One v u) x):u=[]:=h.2.symm
theorem KB{k:IntKind}{m:Int}(h:ofI k m (k1 (One v u))):u=[]:=by
 exact nY h
def pc(hc:op.quiet=true)(he:eff ok g ρ d op (One v u)):u=[]:=by
 cases op<;>simp[AOp.quiet] at hc<;>simp only[eff] at he
 case mv x=>exact he.2.symm
 case pick c a b=>
  unfold lN at he;split at he
  ·rename_i t _;cases t
   ·exact(he.2 rfl).2.symm
   ·exact(he.1 rfl).2.symm
  ·exact he.elim
 case build z ps=>exact he.2.2.symm
 case bin op x y=>
  unfold dA at he;split at he
  ·split at he
   ·exact KB he.2
   ·exact nY he.2
   ·obtain⟨_,he⟩:=he;unfold eb at he
    grind [KB,nY]
  ·grind [nY]
  ·exact he.elim
 case beq neg x y=>
  unfold yA at he;split at he
  ·exact he.2.symm
  ·exact he.elim
 case aeq neg x y=>
  unfold AU at he;split at he
  ·exact he.2.symm
  ·exact he.elim
 case un op x=>
  unfold unV at he
  grind [KB,nY]
 case conv k x=>
  unfold si at he;split at he
  ·exact he.2.symm
  ·exact he.elim
 case mkf f cs=>exact he.2.symm
 case slz x lo hi=>
  unfold VR at he;split at he
  ·exact he.2.2.2.2.2.symm
  ·exact he.elim
 case fld off n ag x=>
  unfold HR at he;obtain⟨y,_,h⟩:=cM he.2;exact nY h
 case stri x i=>
  unfold qT at he;split at he
  ·obtain⟨y,_,h⟩:=cM he.2;exact h.2.symm
  ·exact he.elim
 case ext x j=>
  unfold Db at he;split at he
  ·obtain⟨y,_,h⟩:=cM he;exact nY h
  ·exact he.elim
 case lenz x=>
  unfold sG at he;split at he
  ·exact he.2.symm
  ·exact he.elim
 case capn x=>
  unfold qH at he;split at he
  ·exact he.2.symm
  ·exact he.elim
 case slg n x hi=>
  unfold Dp at he;split at he
  ·exact he.2.2.2.symm
  ·exact he.elim
 case mn x y=>
  unfold eMn at he;split at he
  ·exact he.2.2.symm
  ·exact he.elim
 case mx x y=>
  unfold eMx at he;split at he
  ·exact he.2.2.symm
  ·exact he.elim
def AOp.appy:AOp->Bool
 | .app _ _ _ _ _| .bsm _ _=>true
 |_=>false
def AOp.still:AOp->Bool
 | .load _ _ _| .idx _ _ _| .len _| .slc _ _ _ _ _| .alloc _| .mks _ _ _ _ _| .fad _ _| .nilc _=>true
 | .bsl _ fr _=>fr
 |_=>false
def fA(h:op.still=true):op.calm=true:=by cases op<;>simp[AOp.still] at h<;>simp[AOp.calm,h]
def kj(h:op.appy=true):op.quiet=false/\op.calm=false:=by cases op<;>simp[AOp.appy] at h<;>exact⟨rfl,rfl⟩
def IE(hc:op.still=true)(h:∀r x y,ρ r=some x->ρ' r=some y->x=y\/x=.dead)(hx:∀x∈op.xs,∀r∈(g x).ments,(ρ r).isSome/\(ρ' r).isSome)(he:eff ok g ρ d op (One v u))(hnew:∀p∈u,ρ' p.1=none):
 eff ok g ρ' d op (One v u):=by
 have same:∀r,(ρ r).isSome/\(ρ' r).isSome->ρ r=some .dead\/ρ r=ρ' r:=by
  intro r hr;obtain⟨h1,h2⟩:=hr;cases e:ρ r with
  |none=>rw[e] at h1;cases h1
  | some x => cases e' : ρ' r with
    |none=>rw[e'] at h2;cases h2
    | some y =>
      rcases h r x y e e' with e2|e2
      ·right;rw[e2]
      ·left;rw[e2]
 cases op<;>simp[AOp.still] at hc<;>simp only[AOp.xs,C6,C1,or_false,forall_eq_or_imp,forall_eq,B4] at hx<;>simp only[eff] at he⊢
 case alloc z=>
  obtain⟨h1,h2,h3⟩:=he;exact⟨hnew (d,.var z) (by rw[<-h3];exact A5.2 rfl),h2,h3⟩
 case bsl n fr ps=>
  obtain⟨h1,h2,h3,h4,h5,h6⟩:=he;have hm:=h1 hc;have e:(ps.map g).map (lift ρ 2)=(ps.map g).map (lift ρ' 2):=B1 fun c hc=>ga 2 c fun r hr=>by
   have:=bE.2 ⟨c,hc,hr⟩;rw[hm] at this;cases this
  refine⟨h1,hnew (d,.arr n ((ps.map g).map (lift ρ 2))) (by rw[<-h6];exact B2 _ (A5.2 rfl)),h3,h4,h5,?_⟩;rw[<-e];exact h6
 case load n ag x=>
  cases e:g x<;>rw[e] at he hx<;>simp only[eP] at he⊢
  case bp=>exact he
  case pt r i off=>
   rcases same r (hx r (by simp[AV.ments])) with e2|e2
   ·rw[e2] at he;exact he.elim
   ·rw[<-e2];exact he
 case mks n z bytes l c=>
  unfold tw at he⊢;split at he
  ·obtain⟨h1,h2,h3,h4,h5,h6,h7,h8⟩:=he;exact⟨hnew (d,_) (by rw[<-h8];exact A5.2 rfl),h2,h3,h4,h5,h6,h7,h8⟩
  ·exact he.elim
 case slc n x lo hi mx=>
  have hx:=hx.1;cases e:g x<;>rw[e] at he hx<;>simp only[su] at he⊢
  case lst=>exact he
  case sl r i m=>
   rcases same r (hx r (by simp[AV.ments])) with e2|e2
   ·rw[e2] at he;obtain⟨⟨_,h3⟩,_⟩:=he;cases h3
   ·rw[<-e2];exact he
 case idx n x i=>
  have hx:=hx.1;cases e:g x<;>rw[e] at he hx
  case lst=>
   unfold ke at he⊢;split at he
   ·exact he
   ·rename_i e1 _;cases e1
   ·exact he.elim
  case sl r j m=>
   unfold ke at he⊢;split at he
   ·rename_i e1 _;cases e1
   ·rename_i e1 _;cases e1;rcases same r (hx r (by simp[AV.ments])) with e2|e2
    ·rw[e2] at he;obtain⟨⟨_,h3⟩,_⟩:=he;cases h3
    ·rw[<-e2];exact he
   ·exact he.elim
  all_goals exact he.elim
 case len x=>
  cases e:g x<;>rw[e] at he hx<;>simp only[lx] at he⊢
  case lst=>exact he
  case tg=>exact he
  case sl r i m=>
   rcases same r (hx r (by simp[AV.ments])) with e2|e2
   ·rw[e2] at he;obtain⟨⟨_,_,h3⟩,_⟩:=he;cases h3
   ·rw[<-e2];exact he
 case fad off x=>
  cases e:g x<;>rw[e] at he hx<;>simp only[mt] at he⊢
  case bp=>exact he
  case pt r i o=>
   rcases same r (hx r (by simp[AV.ments])) with e2|e2
   ·rw[e2] at he;exact he.1.elim
   ·rw[<-e2];exact he
 case nilc x=>
  cases e:g x<;>rw[e] at he hx<;>simp only[tN] at he⊢
  case bp=>exact he
  case pt r i o=>
   rcases same r (hx r (by simp[AV.ments])) with e2|e2
   ·rw[e2] at he;exact he.1.elim
   ·rw[<-e2];exact he
theorem Lv{n:Nat}{mv:Bool}{y:AV}{q:List AV×List (Nat×Row)}(h:mh ρ n mv y=some q):∀p∈q.2,p.2=.dead/\∃w es,ρ p.1=some (.arr w es):=by
 have hcp:∀o,kt o=some q->q.2=[]:=by
  intro o h;cases o<;>simp[kt] at h;rw[<-h]
 unfold mh at h;split at h
 ·rename_i r m;cases e:ρ r with
  |none=>rw[e] at h;cases h
  | some row =>
    rw[e] at h;cases row with
    | arr w ys =>
      simp only[zd] at h
      grind
    |dead=>cases h
    |var x=>cases h
 grind
def uF{n:Nat}{mv:Bool}{y:AV}{q:List AV×List (Nat×Row)}(hk:∀r x,ρ r=some x->ρ' r=some x)(h:mh ρ n mv y=some q):mh ρ' n mv y=some q:=by
 have hel:∀z,dX n ρ y=some z->dX n ρ' y=some z:=by
  intro z hz;cases y<;>simp_all [dX]<;>try exact hz
  rename_i r i k;cases e:ρ r with
  |none=>rw[e] at hz;cases hz
  |some x=>simp_all
 have hcp:kt (dX n ρ y)=some q->kt (dX n ρ' y)=some q:=by
  intro h;cases e:dX n ρ y with
  |none=>rw[e] at h;cases h
  |some z=>simp_all
 unfold mh at h⊢;split at h
 ·rename_i r m;cases e:ρ r with
  |none=>rw[e] at h;cases h
  |some row=>simp_all
 ·exact hcp h
def oy(hc:op.appy=true)(he:eff ok g ρ d op (One v u)):∀p∈u,ρ p.1=none\/p.2=.dead/\∃w es,ρ p.1=some (.arr w es):=by
 cases op<;>simp[AOp.appy] at hc
 case bsm n ps=>
  simp only[eff] at he;obtain⟨h1,h2,_,_,h5⟩:=he;intro p hp;rw[<-h5.2] at hp;simp only[B4,A5] at hp;rcases hp with hp|rfl
  ·right;simp only[bP,C3] at hp;obtain⟨r,hr,rfl⟩:=hp;have:=h1 r hr;refine⟨rfl,?_⟩;cases e:ρ r with
   |none=>rw[e] at this;exact this.elim
   | some row => cases row with
     |arr w es=>exact⟨w,es,rfl⟩
     |var y=>rw[e] at this;exact this.elim
     |dead=>rw[e] at this;exact this.elim
  ·exact .inl h2
 rename_i n bytes mv x y;simp only[eff] at he;unfold vE at he;split at he
 ·obtain⟨h1,h2⟩:=he;obtain⟨q,hq,h3⟩:=cM h2;unfold qi at h3;split at h3
  ·rename_i w es hr;obtain⟨_,_,_,h4⟩:=h3;intro p hp;rw[<-h4.2] at hp;simp only[List.cons_append,C6,B4,C1,or_false] at hp
   grind [Lv]
  ·exact h3.elim
 ·obtain⟨h1,h2⟩:=he;obtain⟨q,hq,h3⟩:=cM h2;obtain⟨_,_,_,h4⟩:=h3;intro p hp;rw[<-h4.2] at hp;simp only[B4,C6,C1,or_false] at hp
  grind [Lv]
 ·exact he.elim
theorem mS(hc:op.appy=true)(hk:∀r x,ρ r=some x->ρ' r=some x)(he:eff ok g ρ d op (One v u))(hnew:∀p∈u,ρ p.1=none->ρ' p.1=none):eff ok g ρ' d op (One v u):=by
 cases op<;>simp[AOp.appy] at hc
 case bsm n ps=>
  simp only[eff] at he⊢;obtain⟨h1,h2,h3,h4,h5⟩:=he;have hr:∀r∈aP (ps.map g),ρ r=ρ' r:=fun r hr=>by
   have:=h1 r hr;cases e:ρ r with
   |none=>rw[e] at this;exact this.elim
   |some x=>exact(hk r x e).symm
  have e:(ps.map g).map (lift ρ 2)=(ps.map g).map (lift ρ' 2):=B1 fun c hc=>ga 2 c fun r hr'=>hr r (bE.2 ⟨c,hc,hr'⟩);refine⟨fun r hr'=>by simp_all,hnew (d,_) (by rw[<-h5.2];exact B2 _ (A5.2 rfl)) h2,h3,h4,?_⟩;rw[<-e];exact h5
 rename_i n bytes mv x y;simp only[eff] at he⊢;unfold vE at he⊢;split at he
 ·obtain⟨h1,h2⟩:=he;obtain⟨q,hq,h3⟩:=cM h2;rw[uF hk hq];unfold qi at h3;split at h3
  ·rename_i w es hr;obtain⟨a1,a2,a3,h4⟩:=h3;refine⟨hnew _ (by rw[<-h4.2];exact B2 _ (A5.2 rfl)) h1,?_⟩
   simp_all
  ·exact h3.elim
 ·obtain⟨h1,h2⟩:=he;obtain⟨q,hq,h3⟩:=cM h2;rw[uF hk hq];have h4:=h3.2.2.2;exact⟨hnew _ (by rw[<-h4.2];exact B2 _ (A5.2 rfl)) h1,h3⟩
 ·exact he.elim
def AOp.cally:AOp->Bool
 | .callM _ _ _| .dynM _ _ _=>true
 |_=>false
def AOp.mk:AOp->Bool
 | .alloc _| .mks _ _ _ _ _=>true
 | .bsl _ fr _=>fr
 |_=>false
def fP(h:op.mk=true):op.calm=true:=by cases op<;>simp[AOp.mk] at h<;>simp[AOp.calm,h]
def fG(h:op.cally=true):op.quiet=false/\op.calm=false/\op.appy=false:=by cases op<;>simp[AOp.cally] at h<;>exact⟨rfl,rfl,rfl⟩
def Pn(hc:op.mk=true)(he:eff ok g ρ d op (One v u))(hnew:∀p∈u,ρ' p.1=none):eff ok g ρ' d op (One v u):=by
 cases op<;>simp[AOp.mk] at hc<;>simp only[eff] at he⊢
 case alloc z=>
  obtain⟨h1,h2,h3⟩:=he;exact⟨hnew _ (by rw[<-h3];exact A5.2 rfl),h2,h3⟩
 case bsl n fr ps=>
  obtain⟨h1,h2,h3,h4,h5,h6⟩:=he;have e:aP (ps.map g)=[]:=h1 hc;have hl:∀(σ1:Nat->Option Row),(ps.map g).map (lift σ1 2)=(ps.map g).map (lift ρ 2):=fun σ1=>B1 fun c hc=>ga 2 c fun r hr=>by
   have:r∈aP (ps.map g):=bE.2 ⟨c,hc,hr⟩;rw[e] at this;cases this
  rw[hl ρ'];refine⟨h1,hnew (d,.arr n ((ps.map g).map (lift ρ 2))) ?_,h3,h4,h5,h6⟩;rw[<-h6];exact B2 _ (A5.2 rfl)
 case mks n z bytes l c=>
  unfold tw at he⊢;split at he
  ·obtain⟨h1,h2,h3,h4,h5,h6,h7,h8⟩:=he;exact⟨hnew _ (by rw[<-h8];exact A5.2 rfl),h2,h3,h4,h5,h6,h7,h8⟩
  ·exact he.elim
theorem td{f:Nat}{args:List AV}{rs:List Nat}(hk:∀r x,ρ r=some x->ρ' r=some x)(he:callM ok ρ d f args rs (One v u))(hnew:∀p∈u,ρ p.1=none->ρ' p.1=none):callM ok ρ' d f args rs (One v u):=by
 obtain⟨res,outs,h1,⟨h2,h3,h4,h5⟩,⟨h6,h7,h8⟩,h9,h10⟩:=he;have same:∀r∈rs,ρ' r=ρ r:=by
  intro r hr;have:=h3 r hr;cases e:ρ r with
  |none=>rw[e] at this;exact this.elim
  |some x=>exact hk r x e
 have e1:rs.map (gV ρ' rs)=rs.map (gV ρ rs):=B1 fun r hr=>by simp_all [gV]
 refine⟨res,outs,by rw[e1];exact h1,⟨h2,fun r hr=>by simp_all,fun r hr=>by grind,h5⟩,⟨h6,h7,fun p hp hlt=>?_⟩,h9,h10⟩;refine⟨hnew (fS d rs p) ?_ (h8 p hp hlt).1,(h8 p hp hlt).2⟩
 grind
def lL(hc:op.cally=true)(hk:∀r x,ρ r=some x->ρ' r=some x)(he:eff ok g ρ d op (One v u))(hnew:∀p∈u,ρ p.1=none->ρ' p.1=none):eff ok g ρ' d op (One v u):=by
 cases op<;>simp[AOp.cally] at hc<;>simp only[eff] at he⊢
 case callM f xs rs=>grind [td]
 case dynM x xs rs=>
  unfold rQ at he⊢
  grind [td]
end Vs

namespace Vs
open Go Go.RowKit
variable{P:Program}{n:Nat}{w0:World}{S0:Fx}{σ τ:St}{a:Act}{w w':World}{tag tag':Nat->Tag}{β β':Nat->Option Own}{H:World->Prop}[HS S0 H]
structure Eqv(σ τ:St):Prop where
 env:∀s,aB s σ.env=aB s τ.env
 rows:∀r,aB r σ.rows=aB r τ.rows
def Eqv.refl(σ:St):Eqv σ σ:=⟨fun _=>rfl,fun _=>rfl⟩
def Eqv.symm(h:Eqv σ τ):Eqv τ σ:=⟨fun s=>(h.env s).symm,fun s=>(h.rows s).symm⟩
def Eqv.trans{υ:St}(h:Eqv σ τ)(h':Eqv τ υ):Eqv σ υ:=⟨fun s=>(h.env s).trans (h'.env s),fun s=>(h.rows s).trans (h'.rows s)⟩
def Eqv.get(h:Eqv σ τ):σ.get=τ.get:=funext fun s=>by simp only[St.get,h.env]
def Eqv.row(h:Eqv σ τ):σ.row=τ.row:=funext fun s=>by simp only[St.row,h.rows]
def Eqv.gx(h:Eqv σ τ):σ.gx=τ.gx:=funext fun x=>by cases x<;>simp only[St.gx,h.get]
def RR.eqv(h:RR n w0 S0 σ a w tag β)(e:Eqv σ τ):RR n w0 S0 τ a w tag β where
 nn:=h.nn
 frm:=h.frm
 keep:=h.keep
 kimm:=h.kimm
 bk:=fun r hr hl=>h.bk r hr (by rw[e.rows];exact hl)
 below:=h.below
 sz:=h.sz
 nodef:=h.nodef
 s0lt:=h.s0lt
 lt:=h.lt
 old:=h.old
 env:=fun k x hk=>by
  rw[<-e.env] at hk;obtain⟨h1,h2⟩:=h.env k x hk;exact⟨h1,fun r hr=>by rw[<-e.rows];exact h2 r hr⟩
 rows:=fun r=>by rw[<-e.rows];exact h.rows r
 wfr:=fun r x hr q hq=>by
  rw[<-e.rows] at hr⊢;exact h.wfr r x hr q hq
def R.eqv(h:R n w0 S0 σ a w)(e:Eqv σ τ):R n w0 S0 τ a w:=let⟨tag,β,h⟩:=h;⟨tag,β,h.eqv e⟩
theorem fM(r:Nat):∀(u rows:List (Nat×Row)),aB r (bg u rows)=(aB r (bg u [])).or (aB r rows)
 |[],rows=>by simp[bg,aB]
 | p :: u, rows => by
   have e:∀rows,bg (p::u) rows=bg u (put p.1 p.2 rows):=fun _=>rfl;rw[e,e,fM r u (put p.1 p.2 rows),fM r u (put p.1 p.2 []),aQ,aQ];split<;>cases aB r (bg u [])<;>simp[aB]
theorem rH{r:Nat}:∀{u:List (Nat×Row)},aB r (bg u [])≠none->∃p∈u,p.1=r
 |[],h=>by simp[bg,aB] at h
 | p :: u, h => by
   have e:bg (p::u) []=bg u (put p.1 p.2 []):=rfl;rw[e,fM] at h;by_cases hu:aB r (bg u [])=none
   ·rw[hu,aQ] at h;by_cases hp:r=p.1
    ·exact⟨p,by simp,hp.symm⟩
    ·simp[hp,aB] at h
   ·obtain⟨q,hq,hr⟩:=rH hu;exact⟨q,by simp[hq],hr⟩
theorem ft{p:Nat×Row}:∀{u:List (Nat×Row)},p∈u->aB p.1 (bg u [])≠none
 |[],h=>by cases h
 | q :: u, h => by
   have e:bg (q::u) []=bg u (put q.1 q.2 []):=rfl;rw[e,fM];cases h with
   | head =>
     rw[aQ];cases aB p.1 (bg u [])<;>simp
   | tail _ h =>
     have:=ft h;cases hl:aB p.1 (bg u []) with
     |none=>exact(this hl).elim
     |some x=>simp
def fo{α:Type}:List (Option α)->Nat->(Nat->Bool)->Option α->Option α
 |[],_,_,acc=>acc
 |f::fs,k,D,acc=>fo fs (k+1) D (if D k then f.or acc else acc)
theorem dm{α:Type}{D D':Nat->Bool}:∀(fs:List (Option α))(k:Nat)(acc:Option α),(∀j x,fs[j]?=some (some x)->D (k+j)=D' (k+j))->fo fs k D acc=fo fs k D' acc
 |[],k,acc,_=>rfl
 | f :: fs, k, acc, h => by
   simp only[fo];have e:(if D k then f.or acc else acc)=if D' k then f.or acc else acc:=by
    cases f with
    |none=>simp
    |some x=>rw[show D k=D' k from h 0 x rfl]
   rw[e];exact dm fs (k+1) _ fun j x hj=>by
    have:=h (j+1) x (by simpa using hj);rwa[show k+(j+1)=k+1+j by omega] at this
theorem mH{α:Type}{D:Nat->Bool}:∀(fs:List (Option α))(k:Nat)(acc:Option α),(∀j,k<=j->D j=false)->fo fs k D acc=acc
 |[],k,acc,_=>rfl
 | f :: fs, k, acc, h => by
   simp only[fo,h k (C9 _),C8,if_false];exact mH fs (k+1) acc fun j hj=>h j (by omega)
theorem fm{α:Type}{D:Nat->Bool}:∀(fs:List (Option α))(k:Nat)(acc:Option α),fo fs k D acc≠none->acc≠none\/∃j x,fs[j]?=some (some x)/\D (k+j)=true
 |[],k,acc,h=>.inl h
 | f :: fs, k, acc, h => by
   simp only[fo] at h;rcases fm fs (k+1) _ h with h|⟨j,x,h1,h2⟩
   ·by_cases hD:D k=true
    ·cases f with
     |none=>left;simpa[hD] using h
     |some x=>exact .inr ⟨0,x,rfl,hD⟩
    ·left;simpa[hD] using h
   ·exact .inr ⟨j+1,x,by simpa using h1,by rwa[show k+(j+1)=k+1+j by omega]⟩
theorem ge{α:Type}{D:Nat->Bool}:∀(fs:List (Option α))(k:Nat)(acc:Option α),acc≠none->fo fs k D acc≠none
 |[],k,acc,h=>h
 | f :: fs, k, acc, h => by
   simp only[fo];refine ge fs (k+1) _ ?_;split
   ·cases f<;>simp[h]
   ·exact h
theorem uH{α:Type}{D:Nat->Bool}:∀(fs:List (Option α))(k:Nat)(acc:Option α)(j:Nat)(x:α),fs[j]?=some (some x)->D (k+j)=true->fo fs k D acc≠none
 |[],k,acc,j,x,h,_=>by simp at h
 | f :: fs, k, acc, 0, x, h, hD => by
   simp_all [ge,fo]
 | f :: fs, k, acc, j + 1, x, h, hD => by
   simp only[fo];exact uH fs (k+1) _ j x (by simpa using h) (by rwa[show k+1+j=k+(j+1) by omega])
def LK{α:Type}{f g:Option α}{acc:Option α}(h:f=none\/g=none):f.or (g.or acc)=g.or (f.or acc):=by
 grind
theorem Et{α:Type}{D:Nat->Bool}{g:Option α}:∀(fs:List (Option α))(k:Nat)(acc:Option α),(∀j f,fs[j]?=some f->D (k+j)=true->f=none\/g=none)->fo fs k D (g.or acc)=g.or (fo fs k D acc)
 |[],k,acc,_=>rfl
 | f :: fs, k, acc, h => by
   simp only[fo];have e:(if D k then f.or (g.or acc) else g.or acc)=g.or (if D k then f.or acc else acc):=by
    split
    ·rename_i hD;exact LK (h 0 f rfl hD)
    ·rfl
   rw[e];exact Et fs (k+1) _ fun j f' hj hD=>h (j+1) f' (by simpa using hj) (by rwa[show k+(j+1)=k+1+j by omega])
theorem sP{α:Type}{D D':Nat->Bool}:∀(fs:List (Option α))(k:Nat)(acc:Option α)(i:Nat)(g:Option α),fs[i]?=some g->D (k+i)=false->(∀j,D' j=(D j||j==k+i))->
 (∀j f,i<j->fs[j]?=some f->D (k+j)=true->f=none\/g=none)->fo fs k D' acc=g.or (fo fs k D acc)
 |[],k,acc,i,g,h,_,_,_=>by simp at h
 | f :: fs, k, acc, 0, g, h, hD, hD', hx => by
   simp at h;subst h;simp only[fo];have h1:D' k=true:=by rw[hD'];simp
   have h2:D k=false:=hD;simp only[h1,h2,if_true,C8,if_false];have e:fo fs (k+1) D' (f.or acc)=fo fs (k+1) D (f.or acc):=dm _ _ _ fun j x hj=>by
    grind
   rw[e];exact Et fs (k+1) acc fun j f' hj hDj=>hx (j+1) f' (by omega) (by simpa using hj) (by grind)
 | f :: fs, k, acc, i + 1, g, h, hD, hD', hx => by
   simp only[fo];have e:D' k=D k:=by
    rw[hD'];have:(k==k+(i+1))=false:=by simp
    simp[this]
   rw[e];exact sP fs (k+1) _ i g (by simpa using h) (by rwa[show k+1+i=k+(i+1) by omega]) (fun j=>by rw[hD',show k+(i+1)=k+1+i by omega])
    fun j f' hij hj hDj=>hx (j+1) f' (by omega) (by simpa using hj) (by rwa[show k+(j+1)=k+1+j by omega])
structure Upd where
 d:Option Nat
 v:AV
 u:List (Nat×Row)
def lF(s:Nat)(p:Upd):Option AV:=if p.d=some s then some p.v else none
def ck(r:Nat)(p:Upd):Option Row:=aB r (bg p.u [])
def St.up(σ:St)(p:Upd):St:=σ.app p.d p.v p.u
def oC(σ:St)(p:Upd)(s:Nat):aB s (σ.up p).env=(lF s p).or (aB s σ.env):=by
 simp only[St.up,St.app,lF];cases p.d with
 |none=>simp
 | some d =>
   simp only[aQ,Option.some.injEq]
   grind
def gP(σ:St)(p:Upd)(r:Nat):aB r (σ.up p).rows=(ck r p).or (aB r σ.rows):=fM r p.u σ.rows
def Eqv.up(h:Eqv σ τ)(p:Upd):Eqv (σ.up p) (τ.up p):=⟨fun s=>by rw[oC,oC,h.env],fun r=>by rw[gP,gP,h.rows]⟩
structure At(ps:List Upd)(σ0:St)(D:Nat->Bool)(τ:St):Prop where
 env:∀s,aB s τ.env=fo (ps.map (lF s)) 0 D (aB s σ0.env)
 rows:∀r,aB r τ.rows=fo (ps.map (ck r)) 0 D (aB r σ0.rows)
def Did(ok:Oks)(o:bl)(σ:St)(p:Upd):Prop:=
 p.d = o.d ∧ (((o.gd = none ∨ ∃ s b, o.gd = some (s, b) ∧ σ.get s = .b b) ∧ eff ok σ.gx σ.row (o.d.getD 0) o.op (One p.v p.u)) ∨
   (∃s b,o.gd=some (s,b)/\(σ.get s=.b (!b)\/σ.get s=.tup []))/\p.v=.tup []/\p.u=[])
def bT:List Upd->St->St
 |[],σ=>σ
 |p::ps,σ=>bT ps (σ.up p)
def iw(ok:Oks):List bl->List Upd->St->Prop
 |[],[],_=>True
 |o::os,p::ps,σ=>Did ok o σ p/\iw ok os ps (σ.up p)
 |_,_,_=>False
def Did.eqv{ok:Oks}{o:bl}{p:Upd}(h:Did ok o σ p)(e:Eqv σ τ):Did ok o τ p:=by
 unfold Did at*
 rw[<-e.gx,<-e.row,<-e.get];exact h
theorem iw.eqv{ok:Oks}:∀{os:List bl}{ps:List Upd}{σ τ:St},iw ok os ps σ->Eqv σ τ->iw ok os ps τ
 |[],[],_,_,_,_=>trivial
 |_::_,p::_,_,_,h,e=>⟨h.1.eqv e,iw.eqv h.2 (e.up p)⟩
 |[],_::_,_,_,h,_=>h.elim
 |_::_,[],_,_,h,_=>h.elim
def Aq{s:Nat}{b:Bool}(h:σ.get s=.b b):Eqv σ (σ.know s b):=by
 refine⟨fun k=>?_,fun _=>rfl⟩;simp only[St.know,aQ];split
 ·rename_i e;subst e;simp only[St.get] at h;cases hk:aB k σ.env with
  |none=>rw[hk] at h;cases h
  |some x=>simp_all
 ·rfl
theorem gj{ok:Oks}{K:St->Prop}:∀(os:List bl)(σ σ':St),Eqv σ σ'->fd ok os K σ->∃ps τ,iw ok os ps σ'/\K τ/\Eqv τ (bT ps σ')
 |[],σ,σ',e,h=>⟨[],σ,trivial,h,e⟩
 | o :: os, σ, σ', e, h => by
   simp only[fd,abe] at h;have run:∀υ:St,Eqv σ υ->(o.gd=none\/∃s b,o.gd=some (s,b)/\σ.get s=.b b)->Bk ok o.d o.op (fd ok os K) υ->∃ps τ,iw ok (o::os) ps σ'/\K τ/\Eqv τ (bT ps σ'):=by
    intro υ eυ hg hgo;obtain⟨v,u,h1,h2⟩:=(FJ o.op).one _ hgo;obtain⟨ps,τ,h3,h4,h5⟩:=gj os (υ.app o.d v u) (σ'.up ⟨o.d,v,u⟩) ((eυ.symm.trans e).up ⟨o.d,v,u⟩) h1;refine⟨⟨o.d,v,u⟩::ps,τ,⟨⟨rfl,.inl ⟨?_,?_⟩⟩,h3⟩,h4,h5⟩
    ·rw[<-e.get];exact hg
    ·rw[<-(eυ.symm.trans e).gx,<-(eυ.symm.trans e).row];exact h2
   cases hgd:o.gd with
   |none=>rw[hgd] at h;exact run σ (.refl _) (.inl hgd) h
   | some sb =>
     obtain⟨s,b⟩:=sb;rw[hgd] at h;simp only[fy] at h;split at h
     ·rename_i t ht;by_cases htb:t=b
      ·subst htb;exact run _ (Aq ht) (.inr ⟨s,t,hgd,ht⟩) (h.1 rfl)
      ·have htb':t=!b:=by cases t<;>cases b<;>simp_all
       have hg':σ.get s=.b (!b):=by rw[ht,htb']
       have ek:=Aq hg';have h2:=h.2 htb';simp only[NE] at h2;obtain⟨ps,τ,h3,h4,h5⟩:=gj os _ (σ'.up ⟨o.d,.tup [],[]⟩) ((ek.symm.trans e).up ⟨o.d,.tup [],[]⟩) h2;exact⟨⟨o.d,.tup [],[]⟩::ps,τ,⟨⟨rfl,.inr ⟨⟨s,b,hgd,by rw[<-e.get];exact .inl hg'⟩,rfl,rfl⟩⟩,h3⟩,h4,h5⟩
     ·rename_i ht;simp only[NE] at h;obtain⟨ps,τ,h3,h4,h5⟩:=gj os _ (σ'.up ⟨o.d,.tup [],[]⟩) (e.up ⟨o.d,.tup [],[]⟩) h;exact⟨⟨o.d,.tup [],[]⟩::ps,τ,⟨⟨rfl,.inr ⟨⟨s,b,hgd,by rw[<-e.get];exact .inr ht⟩,rfl,rfl⟩⟩,h3⟩,h4,h5⟩
     ·exact h.elim
theorem lc{ok:Oks}:∀{os:List bl}{ps:List Upd}{σ:St},iw ok os ps σ->os.length=ps.length
 |[],[],_,_=>rfl
 |_::_,_::_,_,h=>by simp[lc h.2]
 |[],_::_,_,h=>h.elim
 |_::_,[],_,h=>h.elim
theorem dx{ok:Oks}:∀{os:List bl}{ps:List Upd}{σ:St}(i:Nat){o:bl},iw ok os ps σ->os[i]?=some o->∃p,ps[i]?=some p/\Did ok o (bT (ps.take i) σ) p
 |[],_,_,i,o,_,h=>by simp at h
 |_::_,[],_,_,_,h,_=>h.elim
 | o' :: os, p :: ps, σ, 0, o, h, ho => by
   simp at ho;subst ho;exact⟨p,rfl,h.1⟩
 | o' :: os, p :: ps, σ, i + 1, o, h, ho => by
   obtain⟨q,h1,h2⟩:=dx i h.2 (by simpa using ho);exact⟨q,by simpa using h1,by simpa[bT] using h2⟩
theorem yP(s:Nat):∀(ps:List Upd)(i k:Nat)(σ:St)(acc:Option AV),aB s σ.env=acc->aB s (bT (ps.take i) σ).env=fo (ps.map (lF s)) k (fun j=>decide (j<k+i)) acc
 |[],i,k,σ,acc,h=>by simpa[bT,fo] using h
 | p :: ps, 0, k, σ, acc, h => by
   simp_all [mH,bT]
 | p :: ps, i + 1, k, σ, acc, h => by
   simp only[D6,bT,D0,fo];rw[yP s ps i (k+1) (σ.up p) ((lF s p).or acc) (by rw[oC,h])]
   grind
theorem ur(s:Nat):∀(ps:List Upd)(i k:Nat)(σ:St)(acc:Option Row),aB s σ.rows=acc->aB s (bT (ps.take i) σ).rows=fo (ps.map (ck s)) k (fun j=>decide (j<k+i)) acc
 |[],i,k,σ,acc,h=>by simpa[bT,fo] using h
 | p :: ps, 0, k, σ, acc, h => by
   simp_all [mH,bT]
 | p :: ps, i + 1, k, σ, acc, h => by
   simp only[D6,bT,D0,fo];rw[ur s ps i (k+1) (σ.up p) ((ck s p).or acc) (by rw[gP,h])]
   grind
def cL(ps:List Upd)(σ:St)(i:Nat):At ps σ (fun j=>decide (j<i)) (bT (ps.take i) σ):=
 ⟨fun s=>by grind [yP],fun r=>by grind [ur]⟩
def aik{P:Program}{o:Oper}{a:Act}{w:World}{next:Act->World->Prop}(h:o.wp P a w next fun _ _ _=>False):∃a' w',next a' w':=by
 unfold Oper.wp at h;cases hr:(execOp a.eval o).run P w with
 | ok nx w' =>
   rw[hr] at h;cases nx<;>simp only[Oper.upon] at h
   case value v=>exact⟨_,_,h⟩
   case skip=>exact⟨_,_,h⟩
   case defer d=>exact⟨_,_,h⟩
   case enter f args=>
    obtain⟨e,w'',_,hR,_⟩:=h [];cases e with
    |returned v=>exact⟨_,_,hR⟩
    |panicked c=>exact hR.elim
    |outgrown=>obtain⟨_,_,hR⟩:=hR;exact hR.elim
   case row row args=>
    obtain⟨v,w'',hR,_⟩:=h default [];exact⟨_,_,hR⟩
 | halt x w' =>
   rw[hr] at h;cases x<;>grind [Oper.upon]
def Did.wanted(h:RR n w0 S0 σ a w tag β){o:Oper}{ao:bl}{ops:Array Oper}{p:Upd}(hm:fu P n ops o ao=true)(hd:Did (OkT H P) ao σ p):
 (Region.wanted o (yielded ops a.tmps)=true/\Snd P n w0 S0 σ o (One p.v p.u) a w)\/(Region.wanted o (yielded ops a.tmps)=false/\p.v=.tup []/\p.u=[]):=by
 have hm':=hm;unfold fu at hm;simp only[A3,decide_eq_true_eq] at hm;obtain⟨⟨⟨h1,h2⟩,h3⟩,h4⟩:=hm;have yld:∀(s j:Nat)(t:Bool),(ops[j]?).bind (·.dst)=some s->σ.get s=.b t->yielded ops a.tmps j=some t:=by
  intro s j t hj hs;have:=(h.get s).1;rw[hs] at this;have hv:=this.bool_inv;unfold yielded;rw[hj];simp only[D9];cases hh:a.tmps[s]? with
  |none=>rw[C7,hh] at hv;cases hv
  |some x=>simp_all
 have yldN:∀(s j:Nat),(ops[j]?).bind (·.dst)=some s->σ.get s=.tup []->∀b,(yielded ops a.tmps j==some b)=false:=by
  intro s j hj hs b;have:=(h.get s).1;rw[hs] at this;obtain⟨vs,hv,hz,_⟩:=this.tup_inv;have:vs=#[]:=Array.eq_empty_of_size_eq_zero (by simpa using hz);subst this;unfold yielded;rw[hj];simp only[D9];cases hh:a.tmps[s]? with
  |none=>simp
  | some x =>
    simp_all
 obtain⟨_,hd⟩:=hd;rcases hd with⟨hg,he⟩|⟨⟨s,b,hg,hs⟩,hv,hu⟩
 ·left;refine⟨?_,GH h hm' he⟩;unfold Region.wanted
  grind
 ·right;refine⟨?_,hv,hu⟩;unfold Region.wanted
  grind
def Did.step(h:RR n w0 S0 σ a w tag β){o:Oper}{ao:bl}{ops:Array Oper}{p:Upd}(hm:fu P n ops o ao=true)(hd:Did (OkT H P) ao σ p){K:Act->World->Prop}{Q:Exit->Act->World->Prop}
 (hK:∀a' w',R n w0 S0 (σ.up p) a' w'->K a' w'):
 if Region.wanted o (yielded ops a.tmps) then o.wp P a w K Q\/(o.asks P a w/\LetsOut Q) else K (a.put o.dst undef) w:=by
 have hm':=hm;unfold fu at hm;simp only[A3,decide_eq_true_eq] at hm;have hpd:p.d=o.dst:=hd.1.trans hm.1.1.1.symm;rcases hd.wanted h hm' with⟨hw,hs⟩|⟨hw,hv,hu⟩
 ·rw[u7 hw];refine .inl (hs K Q fun a' w' x u hxu hR=>hK a' w' ?_);obtain⟨rfl,rfl⟩:=hxu
  simp_all [St.up]
 ·rw[u6 (by simp[hw])];refine hK _ _ ?_;simp only[St.up,hpd,hv,hu];cases hdst:o.dst with
  |none=>exact⟨tag,β,by simpa[St.app,bg,Act.put] using h⟩
  | some d =>
    have hlt:d<n:=by
     have:=hm.1.2;rw[<-hm.1.1.1,hdst] at this;simp at this;exact this.1
    exact⟨tag,β,h.step hlt (.tup #[] [] rfl (by simp)) (by simp[St.dom,AV.ments,aP])⟩
def Did.exists(h:RR n w0 S0 σ a w tag β){o:Oper}{ao:bl}{ops:Array Oper}{p:Upd}(hm:fu P n ops o ao=true)(hd:Did (OkT H P) ao σ p):∃a' w',R n w0 S0 (σ.up p) a' w':=by
 have:=Did.step (K:=fun a' w'=>R n w0 S0 (σ.up p) a' w') (Q:=fun _ _ _=>False) h hm hd (fun _ _ h=>h);split at this
 ·rcases this with h|⟨_,_,_,h⟩
  ·exact aik h
  ·exact h.elim
 grind
theorem wI{ops:Array Oper}:∀{os:List Oper}{aos:List bl}{ps:List Upd}{σ:St},iw (OkT H P) aos ps σ->bZ P n ops os aos=true->(∃a w,R n w0 S0 σ a w)->∀i,∃a w,R n w0 S0 (bT (ps.take i) σ) a w
 |_,[],[],σ,_,_,hR,i=>by simpa[bT] using hR
 |_,[],_::_,σ,h,_,_,_=>h.elim
 |_,_::_,[],σ,h,_,_,_=>h.elim
 |[],_::_,_::_,σ,_,hm,_,_=>by simp[bZ] at hm
 |o::os,ao::aos,p::ps,σ,h,hm,hR,0=>by simpa[bT] using hR
 | o :: os, ao :: aos, p :: ps, σ, h, hm, hR, i + 1 => by
   simp only[bZ,A3] at hm;obtain⟨a,w,tag,β,hRR⟩:=hR;have:=wI h.2 hm.2 (h.1.exists hRR hm.1) i;simpa[bT] using this
end Vs

namespace Vs
open Go Go.RowKit
variable{P:Program}{n:Nat}{w0:World}{S0:Fx}{σ τ:St}{a:Act}{w w':World}{tag tag':Nat->Tag}{β β':Nat->Option Own}{H:World->Prop}[HS S0 H]
variable{op:AOp}{aos:List bl}{y:bl}{bs:List (List Nat)}{ops:Array Oper}{k:Bool}{x:bl}{j i:Nat}{ps:List Upd}{σ0:St}{s:Nat}{Q:Exit->Act->World->Prop}{r m:Nat}{ok:Oks}{g:X->AV}{ρ:Nat->Option Row}{d:Nat}{D:Nat->Bool}
theorem kx:∀{os:List Oper}{aos:List bl}(i:Nat){o:Oper},bZ P n ops os aos=true->os[i]?=some o->∃ao,aos[i]?=some ao/\fu P n ops o ao=true
 |[],_,i,o,_,h=>by simp at h
 |_::_,[],_,_,h,_=>by simp[bZ] at h
 | o' :: os, ao :: aos, 0, o, h, ho => by
   simp only[bZ,A3] at h;simp at ho;subst ho;exact⟨ao,rfl,h.1⟩
 | o' :: os, ao :: aos, i + 1, o, h, ho => by
   simp only[bZ,A3] at h;obtain⟨x,h1,h2⟩:=kx i h.2 (by simpa using ho);exact⟨x,by simpa using h1,h2⟩
theorem gL:∀{os:List Oper}{aos:List bl},bZ P n ops os aos=true->os.length=aos.length
 |[],[],_=>rfl
 |[],_::_,h=>by simp[bZ] at h
 |_::_,[],h=>by simp[bZ] at h
 | o :: os, ao :: aos, h => by
   simp only[bZ,A3] at h;simp[gL h.2]
theorem qU:∀(m k:Nat)(aos:List bl)(ps:List Upd)(σ:St)(a:Act)(w:World),k+m=ops.size->bZ P n ops (ops.toList.drop k) aos=true->iw (OkT H P) aos ps σ->
 R n w0 S0 σ a w->(∀a w,R n w0 S0 (bT ps σ) a w->Q .normal a w)->wpOps P ops Q (List.range' k m) a w
 | 0, k, aos, ps, σ, a, w, hk, hm, hc, hR, hQ => by
   have hd:ops.toList.drop k=[]:=List.drop_eq_nil_of_le (by simp;omega);rw[hd] at hm;cases aos with
   |cons x xs=>simp[bZ] at hm
   | nil => cases ps with
     |nil=>exact hQ _ _ hR
     |cons x xs=>exact hc.elim
 | m + 1, k, aos, ps, σ, a, w, hk, hm, hc, hR, hQ => by
   have hlt:k<ops.size:=by omega
   have hd:ops.toList.drop k=ops[k]::ops.toList.drop (k+1):=by
    rw[List.drop_eq_getElem_cons (by simpa using hlt)];simp
   rw[hd] at hm;cases aos with
   |nil=>simp[bZ] at hm
   | cons ao aos => cases ps with
     |nil=>exact hc.elim
     | cons p ps =>
       simp only[bZ,A3] at hm;obtain⟨tag,β,hRR⟩:=hR;simp only[List.range'_succ,wpOps,A8 hlt];exact Did.step hRR hm.1 hc.1 fun a' w' hR'=>qU m (k+1) aos ps _ a' w' (by omega) hm.2 hc.2 hR' hQ
def Gu{id:Nat}{K:St->Prop}(hm:bZ P n ops ops.toList aos=true)(hR:R n w0 S0 σ a w)(hs:fd (OkT H P) aos K σ)
 (hQ:∀τ a w,K τ->R n w0 S0 τ a w->Q .normal a w):(Code.region id ops false).wp P Q a w:=by
 obtain⟨ps,τ,hc,hK,e⟩:=gj aos σ σ (.refl σ) hs;refine wp_region ?_;rw[List.range_eq_range'];exact qU ops.size 0 aos ps σ a w (by omega) (by simpa using hm) hc hR fun a w h=>hQ τ a w hK (h.eqv e.symm)
def PU:X->List Nat
 | .t k=>[k]
 | .c _=>[]
def bl.slots(o:bl):List Nat:=o.op.xs.flatMap PU++(match o.gd with|some (s,_)=>[s]|none=>[])
def CF(ap:Bool)(a b:bl):Bool:=
 (match a.d with|some d=>!b.slots.contains d|none=>true)&&(match b.d with|some d=>!a.slots.contains d|none=>true)&&
 (a.d.isNone||decide (a.d≠b.d))&&(a.op.quiet||b.op.quiet||(a.op.calm&&b.op.calm)||(ap&&a.op.appy&&b.op.still)||(a.op.cally&&b.op.mk))
def ol(aos:List bl):Bool:=aos.dropLast.all fun o=>o.op.quiet||o.op.calm||o.op.appy
def mN(o:bl):Bool:=o.op.xs.all fun x=>match x with| .c b=>b.ments.isEmpty| .t _=>true
def ta(aos:List bl)(bs:List (List Nat)):Bool:=
 aos.all mN&&(C0 aos.length).all fun j=>(C0 j).all fun i=>(bs.getD j []).contains i||
  match aos[i]?,aos[j]? with|some x,some y=>CF (ol aos) x y|_,_=>true
def iv(ops:Array Oper)(bs:List (List Nat)):Bool:=
 (C0 ops.size).all fun j=>match ops[j]? with
  |some o=>o.after.all (fun e=>!Region.binds .any e||decide (e.on<j))&&
   (bs.getD j []).all fun i=>o.after.any fun e=>Region.binds .any e&&(e.on==i||(bs.getD e.on []).contains i)
  |none=>true
structure mE(x y:bl):Prop where
 l:∀d,x.d=some d->d∉y.slots
 r:∀d,y.d=some d->d∉x.slots
 n:∀d,x.d=some d->y.d≠some d
def mE.symm(h:mE x y):mE y x:=⟨h.r,h.l,fun d hd e=>h.n d e hd⟩
def Com(H:Prop)(x y:bl):Prop:=x.op.quiet=true\/y.op.quiet=true\/(x.op.calm=true/\y.op.calm=true)\/(x.op.appy=true/\y.op.still=true/\H)\/(x.op.cally=true/\y.op.mk=true)
theorem Au{ap:Bool}(h:CF ap x y=true):mE x y/\Com (ap=true) x y:=by
 unfold CF at h;simp only[A3,A9,decide_eq_true_eq] at h;obtain⟨⟨⟨h1,h2⟩,h3⟩,h4⟩:=h;refine⟨⟨fun d hd=>?_,fun d hd=>?_,fun d hd e=>?_⟩,by grind [Com]⟩
 ·simp_all
 ·simp_all
 simp_all
def sm(h:op.quiet=true)(h':op.calm=true):False:=by cases op<;>simp[AOp.quiet,AOp.calm] at h h'
def mg(h:ta aos bs=true)(hij:i<j)(hx:aos[i]?=some x)(hy:aos[j]?=some y)(hb:i∉bs.getD j []):mE x y/\Com (ol aos=true) x y:=by
 unfold ta at h;simp only[A3] at h;replace h:=h.2;simp only[B0,B8,A9] at h
 grind [List.getElem?_eq_some_iff,Au]
def Dl(l:Array Bool)(i:Nat):Bool:=l.getD i false
def Wb(ops:Array Oper)(l:Array Bool):Prop:=∀(j:Nat)(o:Oper),ops[j]?=some o->Dl l j=true->∀e∈o.after,Region.binds .any e=true->Dl l e.on=true
theorem ld{l:Array Bool}(he:iv ops bs=true)(hd:Wb ops l):∀(m j:Nat)(o:Oper),j<m->ops[j]?=some o->(∀e∈o.after,Region.binds .any e=true->Dl l e.on=true)->∀i∈bs.getD j [],Dl l i=true
 |0,_,_,h,_,_,_,_=>by omega
 | m + 1, j, o, hj, ho, hl, i, hi => by
   have he':=he;unfold iv at he;simp only[B0,B8] at he;have hjs:=(B7.1 ho).1;have h1:=he j hjs;rw[ho] at h1;simp only[A3,B0] at h1;have h2:=h1.2 i hi;obtain⟨e,hem,hb⟩:=Array.any_eq_true'.1 h2;simp only[A3,A9,beq_iff_eq] at hb;obtain⟨hb,hc⟩:=hb;rcases hc with rfl|hc
   ·exact hl e hem hb
   ·have hlt:e.on<j:=by
     have h3:=h1.1;rw[C4] at h3;have:=h3 e hem;simp[hb] at this;exact this
    have hes:e.on<ops.size:=by omega
    exact ld he' hd m e.on ops[e.on] (by omega) (A8 hes) (fun e' he' hb'=>hd e.on _ (A8 hes) (hl e hem hb) e' he' hb') i (by simpa using hc)
theorem oo{l:Array Bool}(hi:i<l.size)(j:Nat):Dl (l.setIfInBounds i true) j=(Dl l j||j==i):=by
 unfold Dl;by_cases h:i=j
 ·subst h;simp[hi]
 ·rw[getD_set_ne false h,beq_false_of_ne (Ne.symm h),D7]
theorem ug(p:Upd):∀(xs:List Upd)(σ:St),bT (xs++[p]) σ=(bT xs σ).up p
 |[],_=>rfl
 |x::xs,σ=>ug p xs (σ.up x)
def jk{p:Upd}(h:ps[j]?=some p)(σ:St):bT (ps.take (j+1)) σ=(bT (ps.take j) σ).up p:=by
 grind [List.take_add_one,ug]
theorem ix{z:Row}:∀{u:List (Nat×Row)},aB r (bg u [])=some z->(r,z)∈u
 |[],h=>by simp[bg,aB] at h
 | p :: u, h => by
   have e:bg (p::u) []=bg u (put p.1 p.2 []):=rfl;rw[e,fM] at h;cases hu:aB r (bg u []) with
   | some x =>
     rw[hu] at h;simp at h;subst h;exact List.mem_cons_of_mem _ (ix hu)
   | none =>
     rw[hu,aQ] at h;by_cases hp:r=p.1
     ·subst hp;simp at h;subst h;exact List.mem_cons_self
     ·simp[hp,aB] at h
def Pz(hm:bZ P n ops ops.toList aos=true)(he:iv ops bs=true)(hd:ta aos bs=true)
 (hc:iw (OkT H P) aos ps σ0) (hR0:∃a w,R n w0 S0 σ0 a w) {l:Array Bool} (hdn:Wb ops l) (hat:At ps σ0 (Dl l) τ) (hτ:RR n w0 S0 τ a w tag β)
 {i:Nat} (hil:i<l.size) {o:Oper} (ho:ops[i]?=some o) (hi:Dl l i=false) (hrd:∀e∈o.after,Region.binds .any e=true->Dl l e.on=true):
 ∃ao p,fu P n ops o ao=true/\Did (OkT H P) ao τ p/\At ps σ0 (Dl (l.setIfInBounds i true)) (τ.up p):=by
 obtain⟨ao,hao,hmo⟩:=kx i hm (by simpa using ho);obtain⟨p,hp,hdid⟩:=dx i hc hao
 -- what has been done,and what is before
 have D1:∀k ok,ops[k]?=some ok->Dl l k=true->i∉bs.getD k []:=fun k ok hk hD hmem=>by
  have:=ld he hdn (k+1) k ok (by omega) hk (fun e hem hb=>hdn k ok hk hD e hem hb) i hmem;rw[hi] at this;cases this
 have D2:∀k∈bs.getD i [],Dl l k=true:=ld he hdn (i+1) i o (by omega) ho hrd;have hlen:=lc hc;have hlen2:ops.size=aos.length:=by simpa using gL hm
 -- what stands apart
 have bad:∀k q,ps[k]?=some q->Dl l k≠decide (k<i)->∃ak,aos[k]?=some ak/\mE ak ao/\(ak.op.quiet=true\/ao.op.quiet=true\/(ak.op.calm=true/\ao.op.calm=true)\/(k<i/\ak.op.appy=true/\ao.op.still=true/\ol aos=true)\/(i<k/\ao.op.appy=true/\ak.op.still=true/\ol aos=true)\/(k<i/\ak.op.cally=true/\ao.op.mk=true)\/(i<k/\ao.op.cally=true/\ak.op.mk=true))/\Did (OkT H P) ak (bT (ps.take k) σ0) q:=by
  intro k q hq hne;have hk:k<aos.length:=by rw[hlen];exact(A6.1 hq).1
  obtain⟨q',hq',hdk⟩:=dx k hc (A0 hk);rw[hq] at hq';cases hq';rcases B5 k i with h|h|h
  ·obtain⟨b1,b2⟩:=mg hd h (A0 hk) hao fun hmem=>by
    rw[D2 k hmem] at hne;simp[h] at hne
   refine⟨aos[k],A0 hk,b1,?_,hdk⟩;rcases b2 with h1|h1|h1|h1|h1
   ·exact .inl h1
   ·exact .inr (.inl h1)
   ·exact .inr (.inr (.inl h1))
   ·exact .inr (.inr (.inr (.inl ⟨h,h1⟩)))
   ·exact .inr (.inr (.inr (.inr (.inr (.inl ⟨h,h1⟩)))))
  ·subst h;rw[hi] at hne;simp at hne
  ·obtain⟨b1,b2⟩:=mg hd h hao (A0 hk) fun hmem=>by
    have hDk:Dl l k=true:=by
     cases e:Dl l k with
     |true=>rfl
     |false=>rw[e] at hne;simp[show¬k<i by omega] at hne
    exact D1 k ops[k] (A8 (by omega)) hDk hmem
   refine⟨aos[k],A0 hk,b1.symm,?_,hdk⟩;rcases b2 with h1|h1|h1|h1|h1
   ·exact .inr (.inl h1)
   ·exact .inl h1
   ·exact .inr (.inr (.inl h1.symm))
   ·exact .inr (.inr (.inr (.inr (.inl ⟨h,h1⟩))))
   ·exact .inr (.inr (.inr (.inr (.inr (.inr ⟨h,h1⟩)))))
 -- updates of one kind and another
 have quietU:∀{ak:bl}{υ:St}{q:Upd},Did (OkT H P) ak υ q->ak.op.quiet=true->q.u=[]:=by
  intro ak υ q h hq;rcases h.2 with⟨_,h⟩|⟨_,_,h⟩
  ·exact pc hq h
  ·exact h
 have calmU:∀{ak:bl}{υ:St}{q:Upd},Did (OkT H P) ak υ q->ak.op.calm=true->∀r,ck r q≠none->aB r υ.rows=none:=by
  intro ak υ q h hq r hr;obtain⟨x,hx,rfl⟩:=rH hr;rcases h.2 with⟨_,h⟩|⟨_,_,h⟩
  ·exact vX hq h x hx
  ·rw[h] at hx;cases hx
 have rowNil:∀{q:Upd}{r:Nat},q.u=[]->ck r q=none:=by intro q r h;simp[ck,h,bg,aB]
 -- new for k:nothing before k has it
 have fresh:∀{k r:Nat},aB r (bT (ps.take k) σ0).rows=none->aB r σ0.rows=none/\∀j q,j<k->ps[j]?=some q->ck r q=none:=by
  intro k r h;rw[(cL ps σ0 k).rows r] at h;constructor
  ·cases e:aB r σ0.rows with
   |none=>rfl
   |some x=>rw[e] at h;exact(ge _ _ _ (by simp) h).elim
  ·intro j q hj hq;cases e:ck r q with
   |none=>rfl
   |some x=>exact(uH (ps.map (ck r)) 0 _ j x (by simp[hq,e]) (by simpa using hj) h).elim
 -- the slots that it looks at
 have hslots:∀s∈ao.slots,τ.get s=(bT (ps.take i) σ0).get s:=by
  intro s hs;simp only[St.get];rw[hat.env,(cL ps σ0 i).env];congr 1;refine dm _ _ _ fun k x hk=>?_;simp only[A2,A1] at hk;obtain⟨q,hq,hx⟩:=hk;simp only[A7];by_cases hne:Dl l k=decide (k<i)
  ·exact hne
  ·obtain⟨ak,_,hap,_,hdk⟩:=bad k q hq hne;unfold lF at hx;split at hx
   ·rename_i hqd;exact(hap.l s (hdk.1.symm.trans hqd) hs).elim
   ·cases hx
 have hgx:∀x∈ao.op.xs,τ.gx x=(bT (ps.take i) σ0).gx x:=by
  intro x hx;cases x with
  |c y=>rfl
  |t k=>exact hslots k (D5 _ (E0.2 ⟨.t k,hx,by simp[PU]⟩))
 have hgd:∀s b,ao.gd=some (s,b)->τ.get s=(bT (ps.take i) σ0).get s:=fun s b h=>hslots s (B2 _ (by rw[h];simp));obtain⟨at0,wt0,tagt,βt,hText⟩:=wI hc hm hR0 i
 -- the rows
 have hmine:∀r,ck r p≠none->ao.op.calm=true->aB r τ.rows=none:=by
  intro r hr hcal;have hn:=fresh (calmU hdid hcal r hr);rw[hat.rows];cases e:fo (ps.map (ck r)) 0 (Dl l) (aB r σ0.rows) with
  |none=>rfl
  | some x =>
    exfalso;rcases fm (ps.map (ck r)) 0 _ (by rw[e];simp:fo (ps.map (ck r)) 0 (Dl l) (aB r σ0.rows)≠none) with h|⟨m,y,h1,h2⟩
    ·exact h hn.1
    ·simp only[A2,A1] at h1;obtain⟨q,hq,hy⟩:=h1;simp only[A7] at h2;have hmi:¬m<i:=fun h=>by rw[hn.2 m q h hq] at hy;cases hy
     obtain⟨ak,_,_,hap,hdk⟩:=bad m q hq (by rw[h2];simp[hmi]);rcases hap with hqq|hqq|⟨hqq,_⟩|⟨hqq,_⟩|⟨_,hqq,_⟩|⟨hqq,_⟩|⟨_,hqq,_⟩
     ·rw[rowNil (quietU hdk hqq)] at hy;cases hy
     ·exact sm hqq hcal
     rotate_left
     ·exact hmi hqq
     ·rw[(kj hqq).2] at hcal;cases hcal
     ·exact hmi hqq
     ·rw[(fG hqq).2.1] at hcal;cases hcal
     ·have hmi':i<m:=by
       rcases B5 i m with h|h|h
       ·exact h
       ·subst h;rw[hi] at h2;cases h2
       ·omega
      exact hr ((fresh (calmU hdk hqq r (by rw[hy];simp))).2 i p hmi' hp)
 have heff:eff (OkT H P) (bT (ps.take i) σ0).gx (bT (ps.take i) σ0).row (ao.d.getD 0) ao.op (One p.v p.u)->eff (OkT H P) τ.gx τ.row (ao.d.getD 0) ao.op (One p.v p.u):=by
  intro h;rw[PX ao.op hgx];by_cases hq:ao.op.quiet=true
  ·rwa[uK hq (ρ':=(bT (ps.take i) σ0).row)]
  by_cases hmk:ao.op.mk=true
  ·exact Pn hmk h fun q hq'=>hmine q.1 (ft hq') (fP hmk)
  by_cases hcal:ao.op.calm=true
  ·-- not yet done,and yet the row is there
   have late:∀(k:Nat)(q:Upd)(ak:bl)(r:Nat)(y:Row),ps[k]?=some q->aos[k]?=some ak->ck r q≠none->Dl l k=false->ak.op.quiet≠true->aB r (bT (ps.take k) σ0).rows=none->aB r τ.rows=some y->False:=by
    intro k q ak r y hkq hak hz hDk hnq hnew hy;have hn:=fresh hnew;rw[hat.rows] at hy;rcases fm (ps.map (ck r)) 0 _ (by rw[hy];simp:fo (ps.map (ck r)) 0 (Dl l) (aB r σ0.rows)≠none) with h'|⟨m,y',h1,h2⟩
    ·exact h' hn.1
    ·simp only[A2,A1] at h1;obtain⟨qm,hqm,hy'⟩:=h1;simp only[A7] at h2;have hkm:k<m:=by
      rcases B5 m k with h3|h3|h3
      ·rw[hn.2 m qm h3 hqm] at hy';cases hy'
      ·subst h3;rw[hDk] at h2;cases h2
      ·exact h3
     have hml:m<aos.length:=by rw[hlen];exact(A6.1 hqm).1
     obtain⟨qm',hqm',hdm⟩:=dx m hc (A0 hml);rw[hqm] at hqm';cases hqm';have hmq:aos[m].op.quiet≠true:=fun e=>by rw[rowNil (quietU hdm e)] at hy';cases hy'
     have hmc:aos[m].op.calm≠true:=fun e=>hz ((fresh (calmU hdm e r (by rw[hy'];simp))).2 k q hkm hkq);have hmi:m<i:=by
      rcases C2 m i with h3|h3
      ·exact h3
      ·obtain⟨am,ham,_,hapm,_⟩:=bad m qm hqm (by rw[h2];simp[show¬m<i by omega]);rw[A0 hml] at ham;cases ham;rcases hapm with h4|h4|⟨h4,_⟩|⟨h4,_⟩|⟨_,h4,_⟩|⟨h4,_⟩|⟨_,h4,_⟩
       ·exact(hmq h4).elim
       ·exact(hq h4).elim
       ·exact(hmc h4).elim
       ·exact h4
       ·rw[(kj h4).2] at hcal;cases hcal
       ·exact h4
       ·rw[(fG h4).2.1] at hcal;cases hcal
     have hkl:k<aos.length:=by rw[hlen];exact(A6.1 hkq).1
     rw[A0 hkl] at hak;cases hak;have hkbm:k∈bs.getD m []:=by
      apply Decidable.byContradiction;intro hnb;rcases(mg hd hkm (A0 hkl) (A0 hml) hnb).2 with h4|h4|⟨_,h4⟩|⟨_,h4,_⟩|⟨_,h4⟩
      ·exact hnq h4
      ·exact hmq h4
      ·exact hmc h4
      ·exact hmc (fA h4)
      ·exact hmc (fP h4)
     have hms:m<ops.size:=by omega
     have:=ld he hdn (m+1) m ops[m] (by omega) (A8 hms) (fun e hem hb=>hdn m _ (A8 hms) h2 e hem hb) k hkbm;rw[hDk] at this;cases this
   have hagree:∀r x y,(bT (ps.take i) σ0).row r=some x->τ.row r=some y->x=y\/(x=.dead/\ao.op.still=true):=by
    intro r x y hx hy;by_cases hB:∃k q ak,ps[k]?=some q/\ck r q≠none/\Dl l k=false/\k<i/\aos[k]?=some ak/\ak.op.appy=true/\ao.op.still=true/\ol aos=true
    ·obtain⟨k,q,ak,hkq,hz,hDk,hki,hak,hap,hst,hall⟩:=hB;right;refine⟨?_,hst⟩;obtain⟨q',hq',hdk⟩:=dx k hc hak;rw[hkq] at hq';cases hq';have hu:∀p∈q.u,aB p.1 (bT (ps.take k) σ0).rows=none\/p.2=.dead/\∃w es,aB p.1 (bT (ps.take k) σ0).rows=some (.arr w es):=by
      rcases hdk.2 with⟨_,h⟩|⟨_,_,h⟩
      ·exact oy hap h
      ·rw[h];intro p hp;cases hp
     cases ez:ck r q with
     |none=>exact(hz ez).elim
     | some z =>
       rcases hu _ (ix ez) with h1|⟨h1,_⟩
       ·exact(late k q ak r y hkq hak hz hDk (by rw[(kj hap).1];simp) h1 hy).elim
       ·simp only at h1;subst h1;have stays:∀j,k<j->j<=i->aB r (bT (ps.take j) σ0).rows=some .dead:=by
         intro j;induction j with
         |zero=>intro h;omega
         | succ j ih =>
           intro hkj hji;rcases C2 k j with h2|h2
           ·have hj:=ih h2 (by omega);have hjl:j<aos.length:=by
             have:=(A6.1 hao).1;omega
            obtain⟨pj,hpj,hdj⟩:=dx j hc (A0 hjl);rw[jk hpj,gP,hj];have:ck r pj=none:=by
             have hkind:=hall;unfold ol at hkind;simp only[B0,A9] at hkind;rcases hkind aos[j] (B3 (by rw[List.getElem?_dropLast,u7 (show j<aos.length-1 by have:=(A6.1 hao).1;omega)];exact A0 hjl)) with(h3|h3)|h3
             ·exact rowNil (quietU hdj h3)
             ·apply Decidable.byContradiction;intro h4;have:=calmU hdj h3 r h4;rw[hj] at this;cases this
             ·cases e4:ck r pj with
              |none=>rfl
              | some z4 =>
                rcases hdj.2 with⟨_,h⟩|⟨_,_,h⟩
                ·rcases oy h3 h _ (ix e4) with h5|⟨_,w,es,h5⟩
                 ·simp only[St.row] at h5;rw[hj] at h5;cases h5
                 ·simp only[St.row] at h5;rw[hj] at h5;cases h5
                ·rw[rowNil h] at e4;cases e4
            rw[this];rfl
           ·have:j=k:=by omega
            subst this;rw[jk hkq,gP,ez];rfl
        have:=stays i hki (C9 i);simp only[St.row] at hx;rw[this] at hx;exact(Option.some.inj hx).symm
    left;have:aB r τ.rows=aB r (bT (ps.take i) σ0).rows:=by
     rw[hat.rows,(cL ps σ0 i).rows];refine dm _ _ _ fun k z hk=>?_;simp only[A2,A1] at hk;obtain⟨q,hkq,hz⟩:=hk;simp only[A7];by_cases hne:Dl l k=decide (k<i)
     ·exact hne
     ·exfalso;obtain⟨ak,hak,_,hap,hdk⟩:=bad k q hkq hne;rcases hap with hqq|hqq|⟨hqq,_⟩|⟨h4,hqq,hst,hall⟩|⟨_,hqq,_⟩|⟨_,_,hqq⟩|⟨_,hqq,_⟩
      ·rw[rowNil (quietU hdk hqq)] at hz;cases hz
      ·exact hq hqq
      ·by_cases hki:k<i
       ·have hDk:Dl l k=false:=by
         cases e:Dl l k with
         |false=>rfl
         |true=>rw[e] at hne;simp[hki] at hne
        exact late k q ak r y hkq hak (by rw[hz];simp) hDk (fun h=>sm h hqq) (calmU hdk hqq r (by rw[hz];simp)) hy
       ·-- done ahead:yet the row was there before
        have hn:=fresh (calmU hdk hqq r (by rw[hz];simp));simp only[St.row] at hx;rw[(cL ps σ0 i).rows] at hx;rcases fm (ps.map (ck r)) 0 _ (by rw[hx];simp:fo (ps.map (ck r)) 0 (fun j=>decide (j<i)) (aB r σ0.rows)≠none) with h'|⟨m,y',h1,h2⟩
        ·exact h' hn.1
        ·simp only[A2,A1] at h1;obtain⟨qm,hqm,hy'⟩:=h1;simp only[A7,decide_eq_true_eq] at h2;rw[hn.2 m qm (by omega) hqm] at hy';cases hy'
      ·have hDk:Dl l k=false:=by
        cases e:Dl l k with
        |false=>rfl
        |true=>rw[e] at hne;simp[h4] at hne
       exact hB ⟨k,q,ak,hkq,by rw[hz];simp,hDk,h4,hak,hqq,hst,hall⟩
      ·rw[(kj hqq).2] at hcal;cases hcal
      ·exact hmk hqq
      ·rw[(fG hqq).2.1] at hcal;cases hcal
    simp only[St.row] at hx hy;rw[this,hx] at hy;exact Option.some.inj hy
   have hxs:∀x∈ao.op.xs,∀r∈((bT (ps.take i) σ0).gx x).ments,((bT (ps.take i) σ0).row r).isSome/\(τ.row r).isSome:=by
    intro x hx r hr;have h1:∀{υ:St}{a:Act}{w:World}{tag:Nat->Tag}{β:Nat->Option Own},RR n w0 S0 υ a w tag β->∀y:X,(∀b,y=.c b->b.ments=[])->∀r∈(υ.gx y).ments,(υ.row r).isSome:=by
     intro υ a w tag β hυ y hy r hr;cases y with
     |t k=>exact(hυ.get k).2 r hr
     |c b=>simp only[St.gx] at hr;rw[hy b rfl] at hr;cases hr
    have hcst:∀b,x=.c b->b.ments=[]:=by
     intro b hb;subst hb;unfold ta at hd;simp only[A3,B0] at hd;have:=hd.1 ao (B3 hao);unfold mN at this;simp only[B0] at this;simpa using this _ hx
    exact⟨h1 hText x hcst r hr,by rw[<-hgx x hx] at hr;exact h1 hτ x hcst r hr⟩
   by_cases hst:ao.op.still=true
   ·exact IE hst (fun r x y h1 h2=>(hagree r x y h1 h2).imp id fun h=>h.1) hxs h fun q hq'=>hmine q.1 (ft hq') hcal
   ·refine yU hcal ⟨fun r x y h1 h2=>(hagree r x y h1 h2).resolve_right fun h=>hst h.2,fun r x h1 h2 q hq'=>⟨hText.wfr r x h1 q hq',hτ.wfr r x h2 q hq'⟩⟩ hxs h (fun q hq'=>hmine q.1 (ft hq') hcal)
  by_cases happ:ao.op.appy=true
  ·have hcn:ao.op.calm≠true:=by rw[(kj happ).2];simp
   refine mS happ (fun r x hx=>?_) h (fun p' hp' hpn=>?_)
   ·have:aB r τ.rows=aB r (bT (ps.take i) σ0).rows:=by
     rw[hat.rows,(cL ps σ0 i).rows];refine dm _ _ _ fun k z hk=>?_;simp only[A2,A1] at hk;obtain⟨q,hkq,hz⟩:=hk;simp only[A7];by_cases hne:Dl l k=decide (k<i)
     ·exact hne
     ·exfalso;obtain⟨ak,hak,_,hap,hdk⟩:=bad k q hkq hne;rcases hap with hqq|hqq|⟨_,hqq⟩|⟨_,_,hst,_⟩|⟨hik,_,hst,_⟩|⟨_,_,hst⟩|⟨_,hst,_⟩
      ·rw[rowNil (quietU hdk hqq)] at hz;cases hz
      ·exact hq hqq
      ·exact hcn hqq
      ·exact hcn (fA hst)
      ·have hn:=fresh (calmU hdk (fA hst) r (by rw[hz];simp));simp only[St.row] at hx;rw[(cL ps σ0 i).rows] at hx;rcases fm (ps.map (ck r)) 0 _ (by rw[hx];simp:fo (ps.map (ck r)) 0 (fun j=>decide (j<i)) (aB r σ0.rows)≠none) with h'|⟨m,y',h1,h2⟩
       ·exact h' hn.1
       ·simp only[A2,A1] at h1;obtain⟨qm,hqm,hy'⟩:=h1;simp only[A7,decide_eq_true_eq] at h2;rw[hn.2 m qm (by omega) hqm] at hy';cases hy'
      ·exact hmk hst
      ·rw[(fG hst).2.2] at happ;cases happ
    simp only[St.row] at hx⊢;rw[this,hx]
   ·simp only[St.row] at hpn⊢;cases e:aB p'.1 τ.rows with
    |none=>rfl
    | some y =>
      exfalso;rw[hat.rows] at e;rw[(cL ps σ0 i).rows] at hpn;rcases fm (ps.map (ck p'.1)) 0 _ (by rw[e];simp:fo (ps.map (ck p'.1)) 0 (Dl l) (aB p'.1 σ0.rows)≠none) with h'|⟨m,y',h1,h2⟩
      ·exact ge _ _ _ h' hpn
      ·have h1':=h1;simp only[A2,A1] at h1;obtain⟨qm,hqm,hy'⟩:=h1;simp only[A7] at h2;have hmi:¬m<i:=fun h3=>uH (ps.map (ck p'.1)) 0 _ m y' h1' (by simpa using h3) hpn;obtain⟨ak,_,_,hap,hdk⟩:=bad m qm hqm (by rw[h2];simp[hmi]);rcases hap with hqq|hqq|⟨_,hqq⟩|⟨h3,_⟩|⟨him,_,hst,_⟩|⟨_,_,hst⟩|⟨_,hst,_⟩
       ·rw[rowNil (quietU hdk hqq)] at hy';cases hy'
       ·exact hq hqq
       ·exact hcn hqq
       ·exact hmi h3
       ·exact ft hp' ((fresh (calmU hdk (fA hst) p'.1 (by rw[hy'];simp))).2 i p him hp)
       ·exact hmk hst
       ·rw[(fG hst).2.2] at happ;cases happ
  by_cases hcy:ao.op.cally=true
  ·have hcn:ao.op.calm≠true:=by rw[(fG hcy).2.1];simp
   refine lL hcy (fun r x hx=>?_) h (fun p' hp' hpn=>?_)
   ·have:aB r τ.rows=aB r (bT (ps.take i) σ0).rows:=by
     rw[hat.rows,(cL ps σ0 i).rows];refine dm _ _ _ fun k z hk=>?_;simp only[A2,A1] at hk;obtain⟨q,hkq,hz⟩:=hk;simp only[A7];by_cases hne:Dl l k=decide (k<i)
     ·exact hne
     ·exfalso;obtain⟨ak,hak,_,hap,hdk⟩:=bad k q hkq hne;rcases hap with hqq|hqq|⟨_,hqq⟩|⟨_,_,hst,_⟩|⟨_,hst,_⟩|⟨_,_,hst⟩|⟨hik,_,hst⟩
      ·rw[rowNil (quietU hdk hqq)] at hz;cases hz
      ·exact hq hqq
      ·exact hcn hqq
      ·exact hcn (fA hst)
      ·rw[(fG hcy).2.2] at hst;cases hst
      ·exact hmk hst
      ·have hn:=fresh (calmU hdk (fP hst) r (by rw[hz];simp));simp only[St.row] at hx;rw[(cL ps σ0 i).rows] at hx;rcases fm (ps.map (ck r)) 0 _ (by rw[hx];simp:fo (ps.map (ck r)) 0 (fun j=>decide (j<i)) (aB r σ0.rows)≠none) with h'|⟨m,y',h1,h2⟩
       ·exact h' hn.1
       ·simp only[A2,A1] at h1;obtain⟨qm,hqm,hy'⟩:=h1;simp only[A7,decide_eq_true_eq] at h2;rw[hn.2 m qm (by omega) hqm] at hy';cases hy'
    simp only[St.row] at hx⊢;rw[this,hx]
   ·simp only[St.row] at hpn⊢;cases e:aB p'.1 τ.rows with
    |none=>rfl
    | some y =>
      exfalso;rw[hat.rows] at e;rw[(cL ps σ0 i).rows] at hpn;rcases fm (ps.map (ck p'.1)) 0 _ (by rw[e];simp:fo (ps.map (ck p'.1)) 0 (Dl l) (aB p'.1 σ0.rows)≠none) with h'|⟨m,y',h1,h2⟩
      ·exact ge _ _ _ h' hpn
      ·have h1':=h1;simp only[A2,A1] at h1;obtain⟨qm,hqm,hy'⟩:=h1;simp only[A7] at h2;have hmi:¬m<i:=fun h3=>uH (ps.map (ck p'.1)) 0 _ m y' h1' (by simpa using h3) hpn;obtain⟨ak,_,_,hap,hdk⟩:=bad m qm hqm (by rw[h2];simp[hmi]);rcases hap with hqq|hqq|⟨_,hqq⟩|⟨h3,_⟩|⟨_,hst,_⟩|⟨_,_,hst⟩|⟨him,_,hst⟩
       ·rw[rowNil (quietU hdk hqq)] at hy';cases hy'
       ·exact hq hqq
       ·exact hcn hqq
       ·exact hmi h3
       ·rw[(fG hcy).2.2] at hst;cases hst
       ·exact hmk hst
       ·exact ft hp' ((fresh (calmU hdk (fP hst) p'.1 (by rw[hy'];simp))).2 i p him hp)
  ·have:τ.row=(bT (ps.take i) σ0).row:=by
    funext r;simp only[St.row];rw[hat.rows,(cL ps σ0 i).rows];refine dm _ _ _ fun k z hk=>?_;simp only[A2,A1] at hk;obtain⟨q,hkq,hz⟩:=hk;simp only[A7];by_cases hne:Dl l k=decide (k<i)
    ·exact hne
    ·exfalso;obtain⟨ak,hak,_,hap,hdk⟩:=bad k q hkq hne;rcases hap with hqq|hqq|⟨_,hqq⟩|⟨_,_,hqq,_⟩|⟨_,hqq,_⟩|⟨_,_,hqq⟩|⟨_,hqq,_⟩
     ·rw[rowNil (quietU hdk hqq)] at hz;cases hz
     ·exact hq hqq
     ·exact hcal hqq
     ·exact hcal (fA hqq)
     ·exact happ hqq
     ·exact hmk hqq
     ·exact hcy hqq
   rwa[this]
 refine⟨ao,p,hmo,⟨hdid.1,?_⟩,⟨fun s=>?_,fun r=>?_⟩⟩
 ·rcases hdid.2 with⟨hg,h⟩|⟨⟨s,b,hg,hs⟩,h⟩
  ·refine .inl ⟨hg.imp id ?_,heff h⟩;rintro⟨s,b,hg,hs⟩;exact⟨s,b,hg,(hgd s b hg).trans hs⟩
  ·exact .inr ⟨⟨s,b,hg,hs.imp (hgd s b hg).trans (hgd s b hg).trans⟩,h⟩
 ·rw[oC,hat.env];refine(sP (ps.map (lF s)) 0 _ i (lF s p) (by simp[hp]) (by simpa using hi) (fun j=>by rw[oo hil];simp) fun j f hij hj hD=>?_).symm;simp only[A2,A1] at hj;obtain⟨q,hq,rfl⟩:=hj;simp only[A7] at hD;obtain⟨ak,_,hap,_,hdk⟩:=bad j q hq (by rw[hD];simp;omega);unfold lF;by_cases h1:q.d=some s
  ·right;rw[u6 fun h2=>hap.n s (hdk.1.symm.trans h1) (hdid.1.symm.trans h2)]
  ·left;rw[u6 h1]
 ·rw[gP,hat.rows];refine(sP (ps.map (ck r)) 0 _ i (ck r p) (by simp[hp]) (by simpa using hi) (fun j=>by rw[oo hil];simp) fun j f hij hj hD=>?_).symm;simp only[A2,A1] at hj;obtain⟨q,hq,rfl⟩:=hj;simp only[A7] at hD;obtain⟨ak,_,_,hap,hdk⟩:=bad j q hq (by rw[hD];simp;omega);rcases hap with hqq|hqq|⟨hqq,_⟩|⟨hqq,_⟩|⟨_,_,hqq,_⟩|⟨hqq,_⟩|⟨_,_,hqq⟩
  ·exact .inl (rowNil (quietU hdk hqq))
  ·exact .inr (rowNil (quietU hdid hqq))
  rotate_left
  ·omega
  ·by_cases e:ck r q=none
   ·exact .inl e
   ·exact .inr ((fresh (calmU hdk (fA hqq) r e)).2 i p hij hp)
  ·omega
  ·by_cases e:ck r q=none
   ·exact .inl e
   ·exact .inr ((fresh (calmU hdk (fP hqq) r e)).2 i p hij hp)
  ·by_cases e:ck r q=none
   ·exact .inl e
   ·exact .inr ((fresh (calmU hdk hqq r e)).2 i p hij hp)
section copies
variable{ρ ρ':Nat->Option Row}{g:X->AV}{d:Nat}{ok:Oks}{v:AV}{u:List (Nat×Row)}
def FN(aos:List bl)(bs:List (List Nat))(k:Nat):Bool:=k+1==aos.length&&(C0 k).all fun j=>(bs.getD k []).contains j
def BC(a b:bl):Bool:=
 (match a.d with|some d=>!b.slots.contains d|none=>true)&&(match b.d with|some d=>!a.slots.contains d|none=>true)&&
 (a.d.isNone||decide (a.d≠b.d))
theorem AY(h:BC x y=true):mE x y:=by
 unfold BC at h;simp only[A3,A9,decide_eq_true_eq] at h;obtain⟨⟨h1,h2⟩,h3⟩:=h;refine⟨fun d hd=>?_,fun d hd=>?_,fun d hd e=>?_⟩
 ·simp_all
 ·simp_all
 simp_all
def jr{k:Nat}(h:FN aos bs k=true):k+1=aos.length/\∀j,j<k->j∈bs.getD k []:=by
 simp_all [A3,B0,B8,beq_iff_eq,FN]
def prO:AOp->Bool
 | .ldv _ _ _ _| .fdv _ _ _=>true
 |_=>false
def wrO:AOp->Bool
 | .bsm _ _| .app _ _ _ _ _=>true
 |op=>op.calm
def Bm(o:bl):Option Nat:=match o.d,o.op,o.gd with
 |none,.stv _ (.t s) _,none=>some s
 |_,_,_=>none
def MA:AOp->Bool
 | .stv _ _ _=>true
 |_=>false
def iZ(op:AOp):Bool:=op.quiet||prO op
def rsO:AOp->List Nat
 | .callM _ _ rs=>rs
 | .stw r _ _ _=>[r]
 |_=>[]
def avO:AOp->List Nat
 | .ldv av _ _ _=>av
 | .lde av _ _ _=>av
 | .fdv av _ _=>av
 | .idv av _ _ _=>av
 | .lnv av _=>av
 |_=>[]
def prI:AOp->Bool
 | .idv _ _ _ _=>true
 | .lde _ _ _ _=>true
 | .lnv _ _=>true
 |_=>false
def pC:AOp->Bool
 | .callM _ _ _=>true
 | .stw _ _ _ _=>true
 |_=>false
def kc(op:AOp):Bool:=pC op||op.appy
def RJ(aos:List bl):Bool:=aos.all fun x=>!(prO x.op||prI x.op)||aos.all fun y=>(rsO y.op).all fun r=>(avO x.op).contains r
def uP(h:RJ aos=true)(hx:x∈aos)(hy:y∈aos)(hp:(prO x.op||prI x.op)=true)(hr:r∉avO x.op):r∉rsO y.op:=by
 intro hm;unfold RJ at h
 grind
def Qm(h:kc op=true):op.quiet=false/\op.calm=false/\prO op=false:=by cases op<;>simp[kc,pC,AOp.appy] at h<;>exact⟨rfl,rfl,rfl⟩
def allO(o:bl)(s:Nat):Bool:=match o.d,o.op,o.gd with
 |some d,.alloc _,none=>decide (d=s)
 |_,_,_=>false
def Yt(aos:List bl)(bs:List (List Nat))(k s b:Nat):Bool:=
 (match aos[b]? with|some y=>allO y s|none=>false)&&(bs.getD k []).contains b&&
  (C0 k).all fun j=>(decide (j<=b)||(match aos[j]? with|some y=>decide (y.d≠some s)|none=>true))&&(decide (j<b)||(bs.getD k []).contains j||(match aos[j]? with|some y=>y.op.quiet|none=>false)||(match aos[j]? with|some y=>prO y.op&&decide (b<=j)&&false|none=>false))
def agr(aos:List bl)(bs:List (List Nat))(k:Nat):Bool:=match aos[k]? with
 |some y=>(match Bm y with|some s=>(C0 k).any fun b=>Yt aos bs k s b|none=>false)
 |none=>false
def um(aos:List bl)(bs:List (List Nat))(k:Nat)(y:bl):Bool:=iZ y.op||wrO y.op||agr aos bs k||pC y.op||prI y.op
def pI(x y:AOp):Bool:=prI x&&(pC y||y.calm||prI y)
def XQ(aos:List bl)(bs:List (List Nat))(k:Nat):Bool:=match aos[k]? with
 |some y=>(Bm y).isSome&&(C0 aos.length).all fun j=>decide (j=k)||(match aos[j]? with|some x=>x.op.quiet|none=>false)||(if j<k then(bs.getD k []).contains j else(bs.getD j []).contains k)
 |none=>false
def YY(x y:bl):Bool:=BC x y&&(iZ x.op||iZ y.op||(x.op.calm&&y.op.calm)||(kc x.op&&y.op.mk)||pI x.op y.op||pI y.op x.op)&&(!MA x.op||y.op.quiet)
def jq(aos:List bl)(bs:List (List Nat)):Bool:=
 RJ aos&&(aos.all mN&&(C0 aos.length).all fun j=>(match aos[j]? with|some y=>um aos bs j y||FN aos bs j||XQ aos bs j|none=>true)&&
  (C0 j).all fun i=>(bs.getD j []).contains i||match aos[i]?,aos[j]? with|some x,some y=>YY x y|_,_=>true)
def iA(h:jq aos bs=true)(hy:aos[j]?=some y):um aos bs j y=true\/FN aos bs j=true\/XQ aos bs j=true:=by
 unfold jq at h
 grind
def kJ(h:jq aos bs=true)(hij:i<j)(hx:aos[i]?=some x)(hy:aos[j]?=some y)(hb:i∉bs.getD j []):mE x y/\(iZ x.op=true\/iZ y.op=true\/x.op.calm=true/\y.op.calm=true\/kc x.op=true/\y.op.mk=true\/pI x.op y.op=true\/pI y.op x.op=true)/\(MA x.op=true->y.op.quiet=true):=by
 unfold jq at h;simp only[A3] at h;have h:=B0.1 h.2.2 j (B8.2 (A6.1 hy).1);simp only[A3] at h;have h:=B0.1 h.2 i (B8.2 hij);simp only[hx,hy,A9] at h;have h:=h.resolve_left (by simpa using hb);unfold YY at h;simp only[A3,A9,Bool.not_eq_true'] at h
 grind [AY]
theorem Im(h:allO y s=true):∃z,y=⟨some s,.alloc z,none⟩:=by
 obtain⟨d,op,gd⟩:=y;unfold allO at h
 grind
def uj(h:Bm y=some s):∃m v,y=⟨none,.stv m (.t s) v,none⟩:=by
 obtain⟨d,op,gd⟩:=y;unfold Bm at h
 grind
def Gj{k:Nat}(hy:aos[k]?=some y)(h:agr aos bs k=true):
 ∃s b,Bm y=some s/\b<k/\b∈bs.getD k []/\(∃z,aos[b]?=some ⟨some s,.alloc z,none⟩)/\(∀j,j<k->b<j->∀yj,aos[j]?=some yj->yj.d≠some s)/\(∀j,j<k->∀yj,aos[j]?=some yj->j<b\/j∈bs.getD k []\/yj.op.quiet=true):=by
 unfold agr at h;rw[hy] at h;simp only at h;cases hs:Bm y with
 |none=>rw[hs] at h;cases h
 | some s =>
   rw[hs] at h;simp only[List.any_eq_true,B8] at h;obtain⟨b,hb,h⟩:=h;unfold Yt at h;simp only[A3] at h;obtain⟨⟨h1,h2⟩,h3⟩:=h;refine⟨s,b,rfl,hb,by simpa using h2,?_,fun j hj hbj yj hyj=>?_,fun j hj yj hyj=>?_⟩
   ·grind [Im]
   ·grind
   grind
def pr_u(hr:prO op=true)(he:eff ok g ρ d op (One v u)):u=[]:=by
 cases op<;>simp[prO] at hr<;>simp only[eff] at he
 case ldv av n ag x=>
  replace he:=he.2;unfold eP at he;split at he
  ·obtain⟨y,_,h⟩:=cM he;exact nY h
  ·unfold eT at he;split at he
   ·obtain⟨y,_,h⟩:=cM he.2;exact nY h
   ·obtain⟨y,_,h⟩:=cM he;obtain⟨y,_,h⟩:=cM h;exact nY h
   ·exact he.elim
  ·exact he.elim
 case fdv av off x=>
  replace he:=he.2;unfold mt at he;split at he
  ·exact he.2.symm
  ·exact he.2.2.symm
  ·exact he.elim
def so(h:prO op=true):op.quiet=false/\MA op=false:=by cases op<;>simp[prO] at h<;>exact⟨rfl,rfl⟩
def agp(hr:prO op=true)(hv:∀x∈op.xs,∀r∈(g x).ments,r∉avO op->∀y,ρ r=some (.var y)->ρ' r=some (.var y))(he:eff ok g ρ d op (One v u)):eff ok g ρ' d op (One v u):=by
 cases op<;>simp[prO] at hr<;>simp only[eff] at he⊢
 case ldv av n ag x=>
  cases e:g x<;>rw[e] at he<;>simp_all [vPt]
  case bp=>exact he
  case pt r i off=>
   cases e2:ρ r with
   |none=>rw[e2] at he;exact he.1.2.elim
   | some row =>
     cases row with
     | var y =>
       have e3:=hv x (by simp[AOp.xs]) r (by rw[e];simp[AV.ments]) he.1.1 y e2
       simp_all [eP]
     |arr w es=>rw[e2] at he;exact he.1.2.elim
     |dead=>rw[e2] at he;exact he.1.2.elim
  all_goals exact he.1.elim
 case fdv av off x=>
  cases e:g x<;>rw[e] at he<;>simp_all [vPt]
  case bp=>exact he
  case pt r i o=>
   cases e2:ρ r with
   |none=>rw[e2] at he;exact he.1.2.elim
   | some row =>
     cases row with
     | var y =>
       have e3:=hv x (by simp[AOp.xs]) r (by rw[e];simp[AV.ments]) he.1.1 y e2
       simp_all [mt]
     |arr w es=>rw[e2] at he;exact he.1.2.elim
     |dead=>rw[e2] at he;exact he.1.2.elim
  all_goals exact he.1.elim
def MZ(hr:wrO op=true)(he:eff ok g ρ d op (One v u)):∀p∈u,ρ p.1=none\/p.2=.dead/\∃w es,ρ p.1=some (.arr w es):=by
 by_cases ha:op.appy=true
 ·exact oy ha he
 by_cases hc:op.calm=true
 ·exact fun p hp=>.inl (vX hc he p hp)
 ·cases op<;>simp only[wrO] at hr<;>first|exact(hc hr).elim|skip
  case app n bytes mv x y=>exact(ha rfl).elim
  case bsm n ps=>
   simp only[eff] at he;obtain⟨h1,h2,_,_,h5⟩:=he;intro p hp;rw[<-h5.2] at hp;simp only[B4,A5] at hp;rcases hp with hp|rfl
   ·right;simp only[bP,C3] at hp;obtain⟨r,hr,rfl⟩:=hp;have:=h1 r hr;refine⟨rfl,?_⟩;cases e:ρ r with
    |none=>rw[e] at this;exact this.elim
    | some row => cases row with
      |arr w es=>exact⟨w,es,rfl⟩
      |var y=>rw[e] at this;exact this.elim
      |dead=>rw[e] at this;exact this.elim
   ·exact .inl h2
def xI(hr:pC op=true)(he:eff ok g ρ d op (One v u)):∀p∈u,ρ p.1=none\/p.1∈rsO op:=by
 cases op<;>simp[pC] at hr
 case stw r n x y=>
  simp only[eff] at he;obtain⟨h0,he⟩:=he;cases e:g x<;>rw[e] at h0<;>simp only[wPt] at h0
  case pt q i off=>
   obtain⟨h9,h0⟩:=h0;rw[e] at he;simp only[dQ] at he;cases e2:ρ q with
   |none=>rw[e2] at h0;exact h0.elim
   | some row =>
     cases row with
     |dead=>rw[e2] at h0;exact h0.elim
     |arr w' es=>rw[e2] at h0;exact h0.elim
     | var z =>
       rw[e2] at he;simp only[ej] at he;obtain⟨x',_,h⟩:=cM he.2.2;have hu:=h.2
       grind [List.mem_singleton,rsO]
 case callM f xs rs=>
  simp only[eff] at he;obtain⟨res,outs,_,_,⟨_,h7,h8⟩,_,h10⟩:=he;intro p hp;rw[<-h10] at hp;rcases B4.1 hp with hp|hp
  ·simp only[bP,C3] at hp;obtain⟨r,hr,rfl⟩:=hp;exact .inr hr
  ·obtain⟨q,hq,rfl⟩:=C3.1 hp;rcases C2 q.1 1000000000 with h|h
   ·exact .inl (h8 q hq h).1
   ·right;have h7:=h7 q hq h;show bkn d rs q.1∈rs
    simp_all [if_pos,List.getD_eq_getElem?_getD,A0,D3,bkn]
theorem zf(hc:pC op=true)(hk:∀r x,ρ r=some x->ρ' r=some x)(he:eff ok g ρ d op (One v u))(hnew:∀p∈u,ρ p.1=none->ρ' p.1=none):eff ok g ρ' d op (One v u):=by
 cases op<;>simp[pC] at hc
 case callM f xs rs=>exact lL rfl hk he hnew
 case stw r n x y=>
  simp only[eff] at he⊢;obtain⟨h0,he⟩:=he;cases e:g x<;>rw[e] at h0 he<;>simp only[wPt] at h0
  case pt q i off=>
   obtain⟨h9,h0⟩:=h0;simp only[dQ] at he;cases e2:ρ q with
   |none=>rw[e2] at h0;exact h0.elim
   | some row =>
     cases row with
     |dead=>rw[e2] at h0;exact h0.elim
     |arr w' es=>rw[e2] at h0;exact h0.elim
     | var z =>
       have e3:=hk q _ e2;rw[e2] at he;simp only[wPt,dQ,e3];exact⟨⟨h9,trivial⟩,he⟩
def zY(hc:kc op=true)(hk:∀r x,ρ r=some x->ρ' r=some x)(he:eff ok g ρ d op (One v u))(hnew:∀p∈u,ρ p.1=none->ρ' p.1=none):eff ok g ρ' d op (One v u):=by
 unfold kc at hc;rcases Bool.or_eq_true_iff.1 hc with h|h
 ·grind [zf]
 grind [mS]
theorem FW(h:prI op=true):op.quiet=false/\op.calm=false/\prO op=false/\kc op=false/\op.mk=false:=by cases op<;>simp[prI] at h<;>exact⟨rfl,rfl,rfl,rfl,rfl⟩
def Nf(h:prI op=true):iZ op=false:=by simp_all [FW,iZ]
def kZ{x y:AOp}(h:pI x y=true):prI x=true/\(pC y=true\/y.calm=true\/prI y=true):=by
 simp_all [A3,A9,or_assoc,pI]
def ahc(hr:prI op=true)(he:eff ok g ρ d op (One v u)):u=[]:=by
 cases op<;>simp[prI] at hr
 case lnv av x=>
  simp only[eff] at he;replace he:=he.2;unfold lx at he;split at he
  ·exact he.2.symm
  ·exact he.2.symm
  ·exact he.2.2.symm
  ·exact he.elim
 case idv av n x i=>
  simp only[eff] at he;replace he:=he.2;unfold ke at he;split at he
  ·obtain⟨y,_,h⟩:=cM he.2.2;exact h.2.symm
  ·exact he.2.2.2.2.symm
  ·exact he.elim
 case lde av n ag x=>
  simp only[eff] at he;replace he:=he.2;unfold eP at he;split at he
  ·obtain⟨y,_,h⟩:=cM he;exact nY h
  ·unfold eT at he;split at he
   ·obtain⟨y,_,h⟩:=cM he.2;exact nY h
   ·obtain⟨y,_,h⟩:=cM he;obtain⟨y,_,h⟩:=cM h;exact nY h
   ·exact he.elim
  ·exact he.elim
def VD(hr:prI op=true)(hv:∀x∈op.xs,∀r∈(g x).ments,r∉avO op->∀y,ρ r=some y->ρ' r=some y)(he:eff ok g ρ d op (One v u)):eff ok g ρ' d op (One v u):=by
 cases op<;>simp[prI] at hr
 case lnv av x=>
  simp only[eff] at he⊢;refine⟨he.1,?_⟩;have h1:=he.1;have h2:=he.2;unfold lx at h2⊢;split at h2
  ·exact h2
  ·exact h2
  ·rename_i r a m e1;obtain⟨⟨w,es,hes⟩,h3⟩:=h2;rw[e1] at h1;exact⟨⟨w,es,hv x (by simp[AOp.xs]) r (by rw[e1];simp[AV.ments]) h1 _ hes⟩,h3⟩
  ·exact h2.elim
 case idv av n x i=>
  simp only[eff] at he⊢;refine⟨he.1,?_⟩;have h1:=he.1;have h2:=he.2;unfold ke at h2⊢;split at h2
  ·exact h2
  ·rename_i r a m q j e1 e2;obtain⟨⟨es,hes⟩,h3⟩:=h2;rw[e1] at h1;exact⟨⟨es,hv x (by simp[AOp.xs]) r (by rw[e1];simp[AV.ments]) h1 _ hes⟩,h3⟩
  ·exact h2.elim
 case lde av n ag x=>
  simp only[eff] at he⊢;refine⟨he.1,?_⟩;have h1:=he.1;have h2:=he.2;unfold eP at h2⊢;split at h2
  ·exact h2
  ·rename_i r a o e1;rw[e1] at h1;cases e2:ρ r with
   |none=>rw[e2] at h2;unfold eT at h2;exact h2.elim
   | some y =>
     rw[hv x (by simp[AOp.xs]) r (by rw[e1];simp[AV.ments]) h1 _ e2];rw[e2] at h2;exact h2
  ·exact h2.elim
def Gv{x y:X}(he:eff ok g ρ d (.stv m x y) (One v u)):∀p∈u,(∃z,p.2=.var z)/\∃z,ρ p.1=some (.var z):=by
 simp only[eff] at he;obtain⟨h0,he⟩:=he;cases e:g x<;>rw[e] at h0<;>simp only[vPv] at h0
 case pt r i off=>
  rw[e] at he;simp only[dQ] at he;cases e2:ρ r with
  |none=>rw[e2] at h0;exact h0.elim
  | some row =>
    cases row with
    |dead=>rw[e2] at h0;exact h0.elim
    |arr w' es=>rw[e2] at h0;exact h0.elim
    | var z =>
      rw[e2] at he;simp only[ej] at he;obtain⟨x',_,h⟩:=cM he.2.2;have hu:=h.2
      grind
def kW{k:Nat}(h:XQ aos bs k=true):(∃y s,aos[k]?=some y/\Bm y=some s)/\∀j x,aos[j]?=some x->j≠k->x.op.quiet=true\/(j<k/\j∈bs.getD k [])\/(k<j/\k∈bs.getD j []):=by
 unfold XQ at h;cases e:aos[k]? with
 |none=>rw[e] at h;cases h
 | some y =>
   rw[e] at h;simp only[A3] at h;obtain⟨h1,h2⟩:=h;refine⟨⟨y,(Option.isSome_iff_exists.1 h1).imp fun s hs=>⟨rfl,hs⟩⟩,fun j x hx hne=>?_⟩
   grind
def isV:Row->Bool
 | .var _=>true
 |_=>false
def Hp(hm:bZ P n ops ops.toList aos=true)(he:iv ops bs=true)(hd:jq aos bs=true)
 (hc:iw (OkT H P) aos ps σ0) (hR0:∃a w,R n w0 S0 σ0 a w) {l:Array Bool} (hdn:Wb ops l) (hat:At ps σ0 (Dl l) τ) (hτ:RR n w0 S0 τ a w tag β)
 {i:Nat} (hil:i<l.size) {o:Oper} (ho:ops[i]?=some o) (hi:Dl l i=false) (hrd:∀e∈o.after,Region.binds .any e=true->Dl l e.on=true):
 ∃ao p,fu P n ops o ao=true/\Did (OkT H P) ao τ p/\At ps σ0 (Dl (l.setIfInBounds i true)) (τ.up p):=by
 obtain⟨ao,hao,hmo⟩:=kx i hm (by simpa using ho);obtain⟨p,hp,hdid⟩:=dx i hc hao;have hlen:=lc hc;have hlen2:ops.size=aos.length:=by simpa using gL hm
 have D1:∀k,k<aos.length->Dl l k=true->∀j∈bs.getD k [],Dl l j=true:=fun k hk hD j hmem=>by
  have hks:k<ops.size:=by omega
  exact ld he hdn (k+1) k ops[k] (by omega) (A8 hks) (fun e hem hb=>hdn k _ (A8 hks) hD e hem hb) j hmem
 have D2:∀k∈bs.getD i [],Dl l k=true:=ld he hdn (i+1) i o (by omega) ho hrd;have hilen:i<aos.length:=(A6.1 hao).1;have bad:∀k q,ps[k]?=some q->Dl l k≠decide (k<i)->∃ak,aos[k]?=some ak/\mE ak ao/\Did (OkT H P) ak (bT (ps.take k) σ0) q/\(um aos bs k ak=true\/ao.op.quiet=true)/\(iZ ak.op=true\/iZ ao.op=true\/ak.op.calm=true/\ao.op.calm=true\/(k<i/\kc ak.op=true/\ao.op.mk=true)\/(i<k/\kc ao.op=true/\ak.op.mk=true)\/prI ak.op=true\/(prI ao.op=true/\(pC ak.op=true\/ak.op.calm=true)))/\(k<i->MA ak.op=true->ao.op.quiet=true)/\(i<k->Dl l k=true/\i∉bs.getD k [])/\(k<i\/i<k):=by
  intro k q hq hne;have hk:k<aos.length:=by rw[hlen];exact(A6.1 hq).1
  obtain⟨q',hq',hdk⟩:=dx k hc (A0 hk);rw[hq] at hq';cases hq';rcases B5 k i with h|h|h
  ·have hnm:k∉bs.getD i []:=fun hmem=>by
    rw[D2 k hmem] at hne;simp[h] at hne
   obtain⟨p1,p2,p3⟩:=kJ hd h (A0 hk) hao hnm;have p4:iZ aos[k].op=true\/iZ ao.op=true\/aos[k].op.calm=true/\ao.op.calm=true\/(k<i/\kc aos[k].op=true/\ao.op.mk=true)\/(i<k/\kc ao.op=true/\aos[k].op.mk=true)\/prI aos[k].op=true\/(prI ao.op=true/\(pC aos[k].op=true\/aos[k].op.calm=true)):=by
    rcases p2 with h4|h4|h4|h4|h4|h4
    ·exact .inl h4
    ·exact .inr (.inl h4)
    ·exact .inr (.inr (.inl h4))
    ·exact .inr (.inr (.inr (.inl ⟨h,h4⟩)))
    ·exact .inr (.inr (.inr (.inr (.inr (.inl (kZ h4).1)))))
    ·obtain⟨h5,h6|h6|h6⟩:=kZ h4
     ·exact .inr (.inr (.inr (.inr (.inr (.inr ⟨h5,.inl h6⟩)))))
     ·exact .inr (.inr (.inr (.inr (.inr (.inr ⟨h5,.inr h6⟩)))))
     ·exact .inr (.inr (.inr (.inr (.inr (.inl h6)))))
   refine⟨aos[k],A0 hk,p1,hdk,?_,p4,fun _=>p3,fun h'=>by omega,.inl h⟩
   ·rcases iA hd (A0 hk) with hl|hl|hl
    ·exact .inl hl
    ·have:=(jr hl).1;omega
    ·rcases(kW hl).2 i ao hao (by omega) with h4|h4|h4
     ·exact .inr h4
     ·omega
     ·exact(hnm h4.2).elim
  ·subst h;rw[hi] at hne;simp at hne
  ·have hDk:Dl l k=true:=by
    cases e:Dl l k with
    |true=>rfl
    |false=>rw[e] at hne;simp[show¬k<i by omega] at hne
   have hnm:i∉bs.getD k []:=fun hmem=>by
    have:=D1 k hk hDk i hmem;rw[hi] at this;cases this
   obtain⟨p1,p2,p3⟩:=kJ hd h hao (A0 hk) hnm;have p4:iZ aos[k].op=true\/iZ ao.op=true\/aos[k].op.calm=true/\ao.op.calm=true\/(k<i/\kc aos[k].op=true/\ao.op.mk=true)\/(i<k/\kc ao.op=true/\aos[k].op.mk=true)\/prI aos[k].op=true\/(prI ao.op=true/\(pC aos[k].op=true\/aos[k].op.calm=true)):=by
    rcases p2 with h4|h4|h4|h4|h4|h4
    ·exact .inr (.inl h4)
    ·exact .inl h4
    ·exact .inr (.inr (.inl h4.symm))
    ·exact .inr (.inr (.inr (.inr (.inl ⟨h,h4⟩))))
    ·obtain⟨h5,h6|h6|h6⟩:=kZ h4
     ·exact .inr (.inr (.inr (.inr (.inr (.inr ⟨h5,.inl h6⟩)))))
     ·exact .inr (.inr (.inr (.inr (.inr (.inr ⟨h5,.inr h6⟩)))))
     ·exact .inr (.inr (.inr (.inr (.inr (.inl h6)))))
    ·exact .inr (.inr (.inr (.inr (.inr (.inl (kZ h4).1)))))
   refine⟨aos[k],A0 hk,p1.symm,hdk,?_,p4,fun h'=>by omega,fun _=>⟨hDk,hnm⟩,.inr h⟩
   ·rcases iA hd (A0 hk) with hl|hl|hl
    ·exact .inl hl
    ·exact(hnm ((jr hl).2 i h)).elim
    ·rcases(kW hl).2 i ao hao (by omega) with h4|h4|h4
     ·exact .inr h4
     ·exact(hnm h4.2).elim
     ·omega
 have rowNil:∀{q:Upd}{r:Nat},q.u=[]->ck r q=none:=by intro q r h;simp[ck,h,bg,aB]
 have noU:∀{ak:bl}{υ:St}{q:Upd}{r:Nat},Did (OkT H P) ak υ q->iZ ak.op=true->ck r q=none:=by
  intro ak υ q r h hq;unfold iZ at hq;simp only[A9] at hq;rcases h.2 with⟨_,h⟩|⟨_,_,h⟩
  ·rcases hq with hq|hq
   ·exact rowNil (pc hq h)
   ·exact rowNil (pr_u hq h)
  ·exact rowNil h
 have noUI:∀{ak:bl}{υ:St}{q:Upd}{r:Nat},Did (OkT H P) ak υ q->prI ak.op=true->ck r q=none:=by
  intro ak υ q r h hq;rcases h.2 with⟨_,h⟩|⟨_,_,h⟩
  ·exact rowNil (ahc hq h)
  ·exact rowNil h
 have fresh:∀{k r:Nat},aB r (bT (ps.take k) σ0).rows=none->aB r σ0.rows=none/\∀j q,j<k->ps[j]?=some q->ck r q=none:=by
  intro k r h;rw[(cL ps σ0 k).rows r] at h;constructor
  ·cases e:aB r σ0.rows with
   |none=>rfl
   |some x=>rw[e] at h;exact(ge _ _ _ (by simp) h).elim
  ·intro j q hj hq;cases e:ck r q with
   |none=>rfl
   |some x=>exact(uH (ps.map (ck r)) 0 _ j x (by simp[hq,e]) (by simpa using hj) h).elim
 have absent:∀{k r:Nat},aB r σ0.rows=none->(∀j q,j<k->ps[j]?=some q->ck r q=none)->aB r (bT (ps.take k) σ0).rows=none:=by
  intro k r h0 hj;rw[(cL ps σ0 k).rows r];cases e:fo (ps.map (ck r)) 0 (fun j=>decide (j<k)) (aB r σ0.rows) with
  |none=>rfl
  | some x =>
    exfalso;rcases fm (ps.map (ck r)) 0 _ (by rw[e];simp:fo (ps.map (ck r)) 0 (fun j=>decide (j<k)) (aB r σ0.rows)≠none) with h|⟨m,y,h1,h2⟩
    ·exact h h0
    ·simp only[A2,A1] at h1;obtain⟨q,hq,hy⟩:=h1;simp only[A7,decide_eq_true_eq] at h2;rw[hj m q h2 hq] at hy;cases hy
 -- a new variable
 have newA:∀{b s:Nat}{z:AV},aos[b]?=some ⟨some s,.alloc z,none⟩->∃q,ps[b]?=some q/\q.d=some s/\q.v=.pt s 0 0/\ck s q≠none/\aB s (bT (ps.take b) σ0).rows=none:=by
  intro b s z hb;obtain⟨q,hq,hdb⟩:=dx b hc hb;rcases hdb.2 with⟨_,h⟩|⟨⟨_,_,h,_⟩,_⟩
  ·simp only[eff,E8] at h;obtain⟨h2,h6,h7⟩:=h;exact⟨q,hq,hdb.1,h6.symm,ft (p:=(s,.var z)) (by rw[<-h7];exact A5.2 rfl),h2⟩
  ·cases h
 -- what an operation does to a row
 have touch:∀{k r:Nat}{q:Upd}{ak:bl}{y:Row},ps[k]?=some q->aos[k]?=some ak->um aos bs k ak=true->Did (OkT H P) ak (bT (ps.take k) σ0) q->ck r q=some y->
  aB r (bT (ps.take k) σ0).rows=none\/(isV y=false/\∃x,aB r (bT (ps.take k) σ0).rows=some x/\isV x=false)\/
  (isV y=true/\(∃x,aB r (bT (ps.take k) σ0).rows=some x/\isV x=true)/\MA ak.op=true/\∃b z,b<k/\aos[b]?=some ⟨some r,.alloc z,none⟩/\b∈bs.getD k []/\∀j,j<k->∀yj,aos[j]?=some yj->j<b\/j∈bs.getD k []\/yj.op.quiet=true)\/r∈rsO ak.op:=by
  intro k r q ak y hkq hak hkind hdk hr;unfold um at hkind;simp only[A9] at hkind;rcases hkind with(((hq|hq)|hq)|hq)|hq;rotate_right
  ·rw[noUI hdk hq] at hr;cases hr
  rotate_right
  ·rcases hdk.2 with⟨_,h⟩|⟨_,_,h⟩
   ·rcases xI hq h _ (ix hr) with h1|h1
    ·exact .inl h1
    ·exact .inr (.inr (.inr h1))
   ·rw[rowNil h] at hr;cases hr
  ·rw[noU hdk hq] at hr;cases hr
  ·rcases hdk.2 with⟨_,h⟩|⟨_,_,h⟩
   ·rcases MZ hq h _ (ix hr) with h1|⟨h1,w',es,h2⟩
    ·exact .inl h1
    ·simp only at h1 h2;exact .inr (.inl ⟨by rw[h1];rfl,_,h2,rfl⟩)
   ·rw[rowNil h] at hr;cases hr
  ·obtain⟨s,b,hs,hbk,hbm,⟨z,hb⟩,hno,hin⟩:=Gj hak hq;obtain⟨m',v',rfl⟩:=uj hs;have slot:∀j,b<j->j<=k->aB s (bT (ps.take j) σ0).env=some (.pt s 0 0):=by
    intro j;induction j with
    |zero=>intro h;omega
    | succ j ih =>
      intro hbj hjk;have hjl:j<aos.length:=by have:=(A6.1 hak).1;omega
      obtain⟨pj,hpj,hdj⟩:=dx j hc (A0 hjl);rw[jk hpj,oC];rcases C2 b j with h3|h3
      ·have:lF s pj=none:=by
        unfold lF;rw[u6];intro h4;exact hno j (by omega) h3 _ (A0 hjl) (hdj.1.symm.trans h4)
       rw[this,ih h3 (by omega)];rfl
      ·have:j=b:=by omega
       subst this;obtain⟨qb,hqb,h4,h5,_⟩:=newA hb;rw[hpj] at hqb;cases hqb;unfold lF;rw[u7 h4,h5];rfl
   rcases hdk.2 with⟨_,h⟩|⟨⟨_,_,h,_⟩,_⟩;rotate_left
   ·cases h
   have hg:(bT (ps.take k) σ0).gx (.t s)=.pt s 0 0:=by
    simp only[St.gx,St.get,slot k hbk (C9 k),E8]
   simp only[eff,hg,vPv,dQ] at h;obtain⟨h0,_,h⟩:=h;cases e:(bT (ps.take k) σ0).row s with
   |none=>rw[e] at h0;exact h0.elim
   | some row =>
     rw[e] at h h0;cases row with
     |dead=>exact h0.elim
     |arr w' es=>exact h0.elim
     | var x =>
       simp only[ej] at h;obtain⟨x',_,h⟩:=cM h.2;have hu:=h.2;have:=ix hr;rw[<-hu] at this;simp only[A5,Prod.mk.injEq] at this;obtain⟨rfl,rfl⟩:=this;exact .inr (.inr (.inl ⟨rfl,⟨_,e,rfl⟩,rfl,b,z,hbk,hb,hbm,hin⟩))
 -- a row that is there stays,and stays a variable or none
 have keep:∀{r j:Nat}{x:Row},(∀y∈aos,r∉rsO y.op)->aB r (bT (ps.take j) σ0).rows=some x->∀m,j<=m->m<aos.length->∃y,aB r (bT (ps.take m) σ0).rows=some y/\isV y=isV x:=by
  intro r j x hrn hx m;induction m with
  | zero => intro h _; have : j = 0 := by omega
            subst this;exact⟨x,hx,rfl⟩
  | succ m ih =>
    intro hjm hml;rcases C2 m j with h1|h1
    ·have:j=m+1:=by omega
     subst this;exact⟨x,hx,rfl⟩
    ·obtain⟨y,hy,hv⟩:=ih h1 (by omega);have hml':m<aos.length:=by omega
     obtain⟨pm,hpm,hdm⟩:=dx m hc (A0 hml');rw[jk hpm,gP,hy];cases e:ck r pm with
     |none=>exact⟨y,rfl,hv⟩
     | some z =>
       refine⟨z,rfl,?_⟩;rcases iA hd (A0 hml') with hkm|hl|hl;rotate_left
       ·have:=(jr hl).1;omega
       ·obtain⟨⟨ym,s,hym,hs⟩,_⟩:=kW hl;obtain⟨m',v',rfl⟩:=uj hs;rw[A0 hml'] at hym;have hym:=Option.some.inj hym;rw[hym] at hdm;rcases hdm.2 with⟨_,h⟩|⟨_,_,h⟩
        ·obtain⟨⟨z1,h2⟩,z2,h3⟩:=Gv h _ (ix e);simp only at h2 h3;simp only[St.row] at h3;rw[hy] at h3;cases h3;rw[h2,<-hv];rfl
        ·rw[rowNil h] at e;cases e
       rcases touch hpm (A0 hml') hkm hdm e with h2|⟨h2,x',h3,h4⟩|⟨h2,⟨x',h3,h4⟩,_⟩|h2;rotate_right
       ·exact(hrn _ (D3 hml') h2).elim
       ·rw[hy] at h2;cases h2
       ·rw[hy] at h3;cases h3;rw[h2,<-hv,h4]
       ·rw[hy] at h3;cases h3;rw[h2,<-hv,h4]
 have hslots:∀s∈ao.slots,τ.get s=(bT (ps.take i) σ0).get s:=by
  intro s hs;simp only[St.get];rw[hat.env,(cL ps σ0 i).env];congr 1;refine dm _ _ _ fun k x hk=>?_;simp only[A2,A1] at hk;obtain⟨q,hq,hx⟩:=hk;simp only[A7];by_cases hne:Dl l k=decide (k<i)
  ·exact hne
  ·obtain⟨ak,_,hap,hdk,_⟩:=bad k q hq hne;unfold lF at hx;split at hx
   ·rename_i hqd;exact(hap.l s (hdk.1.symm.trans hqd) hs).elim
   ·cases hx
 have hgx:∀x∈ao.op.xs,τ.gx x=(bT (ps.take i) σ0).gx x:=by
  intro x hx;cases x with
  |c y=>rfl
  |t k=>exact hslots k (D5 _ (E0.2 ⟨.t k,hx,by simp[PU]⟩))
 have hgd:∀s b,ao.gd=some (s,b)->τ.get s=(bT (ps.take i) σ0).get s:=fun s b h=>hslots s (B2 _ (by rw[h];simp))
 -- a variable that the operation in dD reads has what the text gives it
 have hvar:prO ao.op=true->∀r,r∉avO ao.op->∀y,aB r (bT (ps.take i) σ0).rows=some (.var y)->aB r τ.rows≠none->aB r τ.rows=some (.var y):=by
  intro hpr r hra y hy hsome;have hav:RJ aos=true:=by unfold jq at hd;simp only[A3] at hd;exact hd.1
  have hrn:∀y∈aos,r∉rsO y.op:=fun y hy=>uP hav (B3 hao) hy (by rw[hpr];rfl) hra;have:aB r τ.rows=aB r (bT (ps.take i) σ0).rows:=by
   rw[hat.rows,(cL ps σ0 i).rows];refine dm _ _ _ fun k z hk=>?_;simp only[A2,A1] at hk;obtain⟨q,hkq,hz⟩:=hk;simp only[A7];by_cases hne:Dl l k=decide (k<i)
   ·exact hne
   ·exfalso;obtain⟨ak,hak,_,hdk,hk1,_,b1,b2,hlt⟩:=bad k q hkq hne;have hk1:=hk1.resolve_right fun e=>by rw[(so hpr).1] at e;cases e
    have hkl:k<aos.length:=(A6.1 hak).1;rcases hlt with hki|hik
    ·have hDk:Dl l k=false:=by
      cases e:Dl l k with
      |false=>rfl
      |true=>rw[e] at hne;simp[hki] at hne
     rcases touch hkq hak hk1 hdk hz with hnew|⟨_,x',h3,h4⟩|⟨_,_,hs,_⟩|h3;rotate_right
     ·exact hrn ak (B3 hak) h3
     ·have hn:=fresh hnew;rw[hat.rows] at hsome;rcases fm (ps.map (ck r)) 0 _ hsome with h'|⟨m,y',h1,h2⟩
      ·exact h' hn.1
      ·simp only[A2,A1] at h1;obtain⟨qm,hqm,hy'⟩:=h1;simp only[A7] at h2;have hkm:k<m:=by
        rcases B5 m k with h3|h3|h3
        ·rw[hn.2 m qm h3 hqm] at hy';cases hy'
        ·subst h3;rw[hDk] at h2;cases h2
        ·exact h3
       have hml:m<aos.length:=by rw[hlen];exact(A6.1 hqm).1
       obtain⟨qm',hqm',hdm⟩:=dx m hc (A0 hml);rw[hqm] at hqm';cases hqm';have notb:k∉bs.getD m []:=fun hmem=>by
        have:=D1 m hml h2 k hmem;rw[hDk] at this;cases this
       have hkm1:um aos bs m aos[m]=true:=by
        rcases iA hd (A0 hml) with hl|hl|hl
        ·exact hl
        ·exact(notb ((jr hl).2 k hkm)).elim
        ·rcases(kW hl).2 k ak hak (by omega) with h4|h4|h4
         ·rw[noU hdk (by unfold iZ;rw[h4];rfl)] at hz;cases hz
         ·exact(notb h4.2).elim
         ·omega
       have hrow:aB r (bT (ps.take (k+1)) σ0).rows=some z:=by
        rw[jk hkq,gP,hz];rfl
       obtain⟨y2,hy2,hv2⟩:=keep hrn hrow i (by omega) hilen;rw[hy] at hy2;cases hy2;rcases touch hqm (A0 hml) hkm1 hdm hy' with h3|⟨_,x',h3,h4⟩|⟨_,_,_,b,zz,hbm,hb,hbb,_⟩|h3;rotate_right
       ·exact hrn _ (D3 hml) h3
       ·have:=(fresh h3).2 k q hkm hkq;rw[hz] at this;cases this
       ·obtain⟨y3,hy3,hv3⟩:=keep hrn hrow m (by omega) hml;rw[h3] at hy3;cases hy3;rw[h4] at hv3;rw[<-hv2] at hv3;cases hv3
       ·obtain⟨qb,hqb,_,_,h5,h6⟩:=newA hb;rcases B5 k b with h7|h7|h7
        ·have:=(fresh h6).2 k q h7 hkq;rw[hz] at this;cases this
        ·subst h7;exact notb hbb
        ·exact h5 (hn.2 b qb h7 hqb)
     ·obtain⟨y2,hy2,hv2⟩:=keep hrn h3 i (by omega) hilen;rw[hy] at hy2;cases hy2;rw[h4] at hv2;cases hv2
     ·have:=b1 hki hs;rw[(so hpr).1] at this;cases this
    ·rcases touch hkq hak hk1 hdk hz with hnew|⟨_,x',h3,h4⟩|⟨_,_,_,b,zz,hbk,hb,_,hin⟩|h3;rotate_right
     ·exact hrn ak (B3 hak) h3
     ·have hn:=fresh hnew;rw[absent hn.1 fun j q' hj hq'=>hn.2 j q' (by omega) hq'] at hy;cases hy
     ·obtain⟨y2,hy2,hv2⟩:=keep hrn hy k (by omega) hkl;rw[h3] at hy2;cases hy2;rw[h4] at hv2;cases hv2
     ·obtain⟨qb,hqb,_,_,h5,h6⟩:=newA hb;have hn:=fresh h6;rcases hin i hik ao hao with h7|h7|h7
      ·rw[absent hn.1 fun j q' hj hq'=>hn.2 j q' (by omega) hq'] at hy;cases hy
      ·exact(b2 hik).2 h7
      ·rw[(so hpr).1] at h7;cases h7
  rw[this,hy]
 obtain⟨at0,wt0,tagt,βt,hText⟩:=wI hc hm hR0 i;have hxs:∀x∈ao.op.xs,∀r∈((bT (ps.take i) σ0).gx x).ments,((bT (ps.take i) σ0).row r).isSome/\(τ.row r).isSome:=by
  intro x hx r hr;have h1:∀{υ:St}{a:Act}{w:World}{tag:Nat->Tag}{β:Nat->Option Own},RR n w0 S0 υ a w tag β->∀y:X,(∀b,y=.c b->b.ments=[])->∀r∈(υ.gx y).ments,(υ.row r).isSome:=by
   intro υ a w tag β hυ y hy r hr;cases y with
   |t k=>exact(hυ.get k).2 r hr
   |c b=>simp only[St.gx] at hr;rw[hy b rfl] at hr;cases hr
  have hcst:∀b,x=.c b->b.ments=[]:=by
   intro b hb;subst hb;unfold jq at hd;simp only[A3,B0] at hd;have:=hd.2.1 ao (B3 hao);unfold mN at this;simp only[B0] at this;simpa using this _ hx
  exact⟨h1 hText x hcst r hr,by rw[<-hgx x hx] at hr;exact h1 hτ x hcst r hr⟩
 have calmU:∀{ak:bl}{υ:St}{q:Upd},Did (OkT H P) ak υ q->ak.op.calm=true->∀r,ck r q≠none->aB r υ.rows=none:=by
  intro ak υ q h hq r hr;obtain⟨x,hx,rfl⟩:=rH hr;rcases h.2 with⟨_,h⟩|⟨_,_,h⟩
  ·exact vX hq h x hx
  ·rw[h] at hx;cases hx
 -- two that change rows,and stand unordered,only make new ones
 have late:∀{k r:Nat}{q:Upd},ps[k]?=some q->ck r q≠none->Dl l k=false->aB r (bT (ps.take k) σ0).rows=none->aB r τ.rows=none:=by
  intro k r q hkq hr hDk hnew;have hn:=fresh hnew;apply Classical.byContradiction;intro hsome;rw[hat.rows] at hsome;rcases fm (ps.map (ck r)) 0 _ hsome with h'|⟨m,y',h1,h2⟩
  ·exact h' hn.1
  ·simp only[A2,A1] at h1;obtain⟨qm,hqm,hy'⟩:=h1;simp only[A7] at h2;have hkm:k<m:=by
    rcases B5 m k with h3|h3|h3
    ·rw[hn.2 m qm h3 hqm] at hy';cases hy'
    ·subst h3;rw[hDk] at h2;cases h2
    ·exact h3
   have hml:m<aos.length:=by rw[hlen];exact(A6.1 hqm).1
   have hkl:k<aos.length:=by omega
   obtain⟨qm',hqm',hdm⟩:=dx m hc (A0 hml);rw[hqm] at hqm';cases hqm';obtain⟨qk',hqk',hdk⟩:=dx k hc (A0 hkl);rw[hkq] at hqk';cases hqk';have notb:k∉bs.getD m []:=fun hmem=>by
    have:=D1 m hml h2 k hmem;rw[hDk] at this;cases this
   rcases(kJ hd hkm (A0 hkl) (A0 hml) notb).2.1 with h3|h3|h3|h3|h3|h3;rotate_right 2
   ·exact hr (noUI hdk (kZ h3).1)
   ·rw[noUI hdm (kZ h3).1] at hy';cases hy'
   ·exact hr (noU hdk h3)
   ·rw[noU hdm h3] at hy';cases hy'
   ·exact hr ((fresh (calmU hdm h3.2 r (by rw[hy'];simp))).2 k q hkm hkq)
   ·exact hr ((fresh (calmU hdm (fP h3.2) r (by rw[hy'];simp))).2 k q hkm hkq)
 have rows:iZ ao.op=false->ao.op.calm=false->kc ao.op=false->prI ao.op=false->τ.row=(bT (ps.take i) σ0).row:=by
  intro hw hca hcm hpi;funext r;simp only[St.row];rw[hat.rows,(cL ps σ0 i).rows];refine dm _ _ _ fun k z hk=>?_;simp only[A2,A1] at hk;obtain⟨q,hkq,hz⟩:=hk;simp only[A7];by_cases hne:Dl l k=decide (k<i)
  ·exact hne
  ·exfalso;obtain⟨ak,hak,_,hdk,_,hp2,_⟩:=bad k q hkq hne;rcases hp2 with h|h|h|h|h|h|h;rotate_right 2
   ·rw[noUI hdk h] at hz;cases hz
   ·rw[hpi] at h;cases h.1
   ·rw[noU hdk h] at hz;cases hz
   ·rw[hw] at h;cases h
   ·rw[hca] at h;cases h.2
   ·have:=fP h.2.2;rw[hca] at this;cases this
   ·have:=h.2.1;rw[hcm] at this;cases this
 have hagree:iZ ao.op=false->ao.op.mk=false->kc ao.op=false->prI ao.op=false->∀r x y,(bT (ps.take i) σ0).row r=some x->τ.row r=some y->x=y:=by
  intro hw hmk hcm hpi r x y hx hy;simp only[St.row] at hx hy;have:aB r τ.rows=aB r (bT (ps.take i) σ0).rows:=by
   rw[hat.rows,(cL ps σ0 i).rows];refine dm _ _ _ fun k z hk=>?_;simp only[A2,A1] at hk;obtain⟨q,hkq,hz⟩:=hk;simp only[A7];by_cases hne:Dl l k=decide (k<i)
   ·exact hne
   ·exfalso;obtain⟨ak,hak,_,hdk,_,hp2,_,b2,hlt⟩:=bad k q hkq hne;have hr:ck r q≠none:=by rw[hz];simp
    rcases hp2 with h|h|h|h|h|h|h;rotate_right 2
    ·exact hr (noUI hdk h)
    ·rw[hpi] at h;cases h.1
    rotate_right 2
    ·have:=h.2.2;rw[hmk] at this;cases this
    ·have:=h.2.1;rw[hcm] at this;cases this
    ·exact hr (noU hdk h)
    ·rw[hw] at h;cases h
    ·have hnew:=calmU hdk h.1 r hr;rcases hlt with hki|hik
     ·have hDk:Dl l k=false:=by
       cases e:Dl l k with
       |false=>rfl
       |true=>rw[e] at hne;simp[hki] at hne
      rw[late hkq hr hDk hnew] at hy;cases hy
     ·have hn:=fresh hnew;rw[absent hn.1 fun j q' hj hq'=>hn.2 j q' (by omega) hq'] at hx;cases hx
  rw[this,hx] at hy;exact Option.some.inj hy
 have heff:eff (OkT H P) (bT (ps.take i) σ0).gx (bT (ps.take i) σ0).row (ao.d.getD 0) ao.op (One p.v p.u)->eff (OkT H P) τ.gx τ.row (ao.d.getD 0) ao.op (One p.v p.u):=by
  intro h;rw[PX ao.op hgx];cases hpi:prI ao.op with
  | true =>
    have hn:=FW hpi;refine VD hpi (fun x hx r hr hra y hy=>?_) h;have hav:RJ aos=true:=by unfold jq at hd;simp only[A3] at hd;exact hd.1
    have hrn:∀y∈aos,r∉rsO y.op:=fun y hy=>uP hav (B3 hao) hy (by rw[hpi,Bool.or_true]) hra;have hsome:=(hxs x hx r hr).2;have:aB r τ.rows=aB r (bT (ps.take i) σ0).rows:=by
     rw[hat.rows,(cL ps σ0 i).rows];refine dm _ _ _ fun k z hk=>?_;simp only[A2,A1] at hk;obtain⟨q,hkq,hz⟩:=hk;simp only[A7];by_cases hne:Dl l k=decide (k<i)
     ·exact hne
     ·exfalso;obtain⟨ak,hak,_,hdk,_,hp2,_,b2,hlt⟩:=bad k q hkq hne;have hr':ck r q≠none:=by rw[hz];simp
      have hnew:aB r (bT (ps.take k) σ0).rows=none:=by
       rcases hp2 with h1|h1|h1|h1|h1|h1|⟨_,h1|h1⟩
       ·exact(hr' (noU hdk h1)).elim
       ·rw[Nf hpi] at h1;cases h1
       ·rw[hn.2.1] at h1;cases h1.2
       ·rw[hn.2.2.2.2] at h1;cases h1.2.2
       ·rw[hn.2.2.2.1] at h1;cases h1.2.1
       ·exact(hr' (noUI hdk h1)).elim
       ·rcases hdk.2 with⟨_,h2⟩|⟨_,_,h2⟩
        ·rcases xI h1 h2 _ (ix hz) with h3|h3
         ·exact h3
         ·exact(hrn ak (B3 hak) h3).elim
        ·exact(hr' (rowNil h2)).elim
       ·exact calmU hdk h1 r hr'
      rcases hlt with hki|hik
      ·have hDk:Dl l k=false:=by
        cases e:Dl l k with
        |false=>rfl
        |true=>rw[e] at hne;simp[hki] at hne
       simp only[St.row] at hsome;rw[late hkq hr' hDk hnew] at hsome;cases hsome
      ·have hn2:=fresh hnew;simp only[St.row] at hy;rw[absent hn2.1 fun j q' hj hq'=>hn2.2 j q' (by omega) hq'] at hy;cases hy
    simp only[St.row] at hy⊢;rw[this,hy]
  |false=>
  cases hw:iZ ao.op with
  | false =>
    cases hca:ao.op.calm with
    | false =>
      cases hcm:kc ao.op with
      |false=>rwa[rows hw hca hcm hpi]
      | true =>
        refine zY hcm (fun r x hx=>?_) h (fun p' hp' hpn=>?_)
        ·have:aB r τ.rows=aB r (bT (ps.take i) σ0).rows:=by
          rw[hat.rows,(cL ps σ0 i).rows];refine dm _ _ _ fun k z hk=>?_;simp only[A2,A1] at hk;obtain⟨q,hkq,hz⟩:=hk;simp only[A7];by_cases hne:Dl l k=decide (k<i)
          ·exact hne
          ·exfalso;obtain⟨ak,hak,_,hdk,_,hp2,_⟩:=bad k q hkq hne;rcases hp2 with h1|h1|h1|h1|h1|h1|h1;rotate_right 2
           ·rw[noUI hdk h1] at hz;cases hz
           ·rw[hpi] at h1;cases h1.1
           ·rw[noU hdk h1] at hz;cases hz
           ·rw[hw] at h1;cases h1
           ·rw[hca] at h1;cases h1.2
           ·have:=fP h1.2.2;rw[hca] at this;cases this
           ·have hn:=fresh (calmU hdk (fP h1.2.2) r (by rw[hz];simp));simp only[St.row] at hx;rw[absent hn.1 fun j q' hj hq'=>hn.2 j q' (by omega) hq'] at hx;cases hx
         simp only[St.row] at hx⊢;rw[this,hx]
        ·simp only[St.row] at hpn⊢;cases e:aB p'.1 τ.rows with
         |none=>rfl
         | some y =>
           exfalso;rw[hat.rows] at e;rw[(cL ps σ0 i).rows] at hpn;rcases fm (ps.map (ck p'.1)) 0 _ (by rw[e];simp:fo (ps.map (ck p'.1)) 0 (Dl l) (aB p'.1 σ0.rows)≠none) with h'|⟨m,y',h1,h2⟩
           ·exact ge _ _ _ h' hpn
           ·have h1':=h1;simp only[A2,A1] at h1;obtain⟨qm,hqm,hy'⟩:=h1;simp only[A7] at h2;have hmi:¬m<i:=fun h3=>uH (ps.map (ck p'.1)) 0 _ m y' h1' (by simpa using h3) hpn;obtain⟨ak,_,_,hdk,_,hp2,_⟩:=bad m qm hqm (by rw[h2];simp[hmi]);rcases hp2 with h4|h4|h4|h4|h4|h4|h4;rotate_right 2
            ·rw[noUI hdk h4] at hy';cases hy'
            ·rw[hpi] at h4;cases h4.1
            ·rw[noU hdk h4] at hy';cases hy'
            ·rw[hw] at h4;cases h4
            ·rw[hca] at h4;cases h4.2
            ·exact hmi h4.1
            ·exact ft hp' ((fresh (calmU hdk (fP h4.2.2) p'.1 (by rw[hy'];simp))).2 i p h4.1 hp)
    | true =>
      cases hmk:ao.op.mk with
      |true=>exact Pn hmk h fun q hq'=>late hp (ft hq') hi (calmU hdid hca q.1 (ft hq'))
      |false=>
      have hcm:kc ao.op=false:=by
       cases e:kc ao.op with
       |false=>rfl
       |true=>rw[(Qm e).2.1] at hca;cases hca
      refine yU hca ⟨hagree hw hmk hcm hpi,fun r x h1 h2 q hq'=>⟨hText.wfr r x h1 q hq',hτ.wfr r x h2 q hq'⟩⟩ hxs h fun q hq'=>?_;exact late hp (ft hq') hi (calmU hdid hca q.1 (ft hq'))
  | true =>
    unfold iZ at hw;simp only[A9] at hw;rcases hw with hq|hq
    ·rwa[uK hq (ρ':=(bT (ps.take i) σ0).row)]
    ·exact agp hq (fun x hx r hr hra y hy=>hvar hq r hra y hy (fun e=>by have:=(hxs x hx r hr).2;simp only[St.row] at this;rw[e] at this;cases this)) h
 refine⟨ao,p,hmo,⟨hdid.1,?_⟩,⟨fun s=>?_,fun r=>?_⟩⟩
 ·rcases hdid.2 with⟨hg,h⟩|⟨⟨s,b,hg,hs⟩,h⟩
  ·refine .inl ⟨hg.imp id ?_,heff h⟩;rintro⟨s,b,hg,hs⟩;exact⟨s,b,hg,(hgd s b hg).trans hs⟩
  ·exact .inr ⟨⟨s,b,hg,hs.imp (hgd s b hg).trans (hgd s b hg).trans⟩,h⟩
 ·rw[oC,hat.env];refine(sP (ps.map (lF s)) 0 _ i (lF s p) (by simp[hp]) (by simpa using hi) (fun j=>by rw[oo hil];simp) fun j f hij hj hD=>?_).symm;simp only[A2,A1] at hj;obtain⟨q,hq,rfl⟩:=hj;simp only[A7] at hD;obtain⟨ak,_,hap,hdk,_⟩:=bad j q hq (by rw[hD];simp;omega);unfold lF;by_cases h1:q.d=some s
  ·right;rw[u6 fun h2=>hap.n s (hdk.1.symm.trans h1) (hdid.1.symm.trans h2)]
  ·left;rw[u6 h1]
 ·rw[gP,hat.rows];refine(sP (ps.map (ck r)) 0 _ i (ck r p) (by simp[hp]) (by simpa using hi) (fun j=>by rw[oo hil];simp) fun j f hij hj hD=>?_).symm;simp only[A2,A1] at hj;obtain⟨q,hq,rfl⟩:=hj;simp only[A7] at hD;obtain⟨ak,hak,_,hdk,_,hp2,_⟩:=bad j q hq (by rw[hD];simp;omega);rcases hp2 with h|h|h|h|h|h|h;rotate_right 2
  ·exact .inl (noUI hdk h)
  ·exact .inr (noUI hdid h.1)
  ·exact .inl (noU hdk h)
  ·exact .inr (noU hdid h)
  ·by_cases e:ck r q=none
   ·exact .inl e
   ·exact .inr ((fresh (calmU hdk h.1 r e)).2 i p hij hp)
  ·have:=h.1;omega
  ·by_cases e:ck r q=none
   ·exact .inl e
   ·exact .inr ((fresh (calmU hdk (fP h.2.2) r e)).2 i p hij hp)
end copies
def xh(aos:List bl)(bs:List (List Nat)):Bool:=jq aos bs
def cnt:Nat->(Nat->Bool)->Nat
 |0,_=>0
 |m+1,D=>cnt m D+if D m then 0 else 1
theorem EF{D':Nat->Bool}(hi:D i=false)(h:∀j,D' j=(D j||j==i)):∀m,(i<m->cnt m D'+1=cnt m D)/\(m<=i->cnt m D'=cnt m D)
 |0=>⟨fun h=>by omega,fun _=>rfl⟩
 | m + 1 => by
   obtain⟨h1,h2⟩:=EF hi h m;refine⟨fun hm=>?_,fun hm=>?_⟩
   ·simp only[cnt];rcases C2 i m with h3|h3
    ·have e:D' m=D m:=by rw[h,beq_false_of_ne (show m≠i by omega),D7]
     rw[e];have:=h1 h3;omega
    ·have e:m=i:=by omega
     have e':D' m=true:=by rw[h,e];simp
     have:=h2 h3;rw[e',this,e,hi];simp
   ·simp only[cnt];have e:D' m=D m:=by rw[h,beq_false_of_ne (show m≠i by omega),D7]
    rw[e,h2 (by omega)]
theorem xp:∀m,cnt m D=0->∀j,j<m->D j=true
 |0,_,j,h=>by omega
 | m + 1, h, j, hj => by
   simp only[cnt] at h;rcases C2 j m with h1|h1
   ·exact xp m (by omega) j h1
   ·have e:j=m:=by omega
    subst e;cases e:D j with
    |true=>rfl
    |false=>rw[e] at h;simp at h
def TP(hm:bZ P n ops ops.toList aos=true)(he:iv ops bs=true)(hd:(ta aos bs||xh aos bs)=true)
 (hc:iw (OkT H P) aos ps σ0) (hR0:∃a w,R n w0 S0 σ0 a w) (hQ:∀a w,R n w0 S0 (bT ps σ0) a w->Q .normal a w):
 ∀(fuel:Nat)(l:Array Bool)(τ:St)(a:Act)(w:World),l.size=ops.size->cnt ops.size (Dl l)<=fuel->Wb ops l->At ps σ0 (Dl l) τ->R n w0 S0 τ a w->wpAny P .any ops Q fuel l a w:=by
 have hlen:=lc hc;have hlen2:ops.size=aos.length:=by simpa using gL hm
 -- all done
 have done:∀(l:Array Bool)(τ:St)(a:Act)(w:World),(∀j,j<ops.size->Dl l j=true)->At ps σ0 (Dl l) τ->R n w0 S0 τ a w->Q .normal a w:=by
  intro l τ a w hall hat hR;refine hQ a w (hR.eqv ⟨fun s=>?_,fun r=>?_⟩)
  ·rw[hat.env];have:=(cL ps σ0 ps.length).env s;rw[E9] at this;rw[this];refine dm _ _ _ fun j x hj=>?_;have hj':j<ps.length:=by simpa using(A6.1 hj).1
   simp only[A7,hall j (by omega),hj',decide_true]
  ·rw[hat.rows];have:=(cL ps σ0 ps.length).rows r;rw[E9] at this;rw[this];refine dm _ _ _ fun j x hj=>?_;have hj':j<ps.length:=by simpa using(A6.1 hj).1
   simp only[A7,hall j (by omega),hj',decide_true]
 have gd:∀(l:Array Bool)(j:Nat),l.size=ops.size->j<ops.size->l.getD j true=Dl l j:=by
  intro l j hl hj;unfold Dl;simp[Array.getD,show j<l.size by omega]
 -- nothing ready:all done
 have idle:∀(l:Array Bool),l.size=ops.size->Region.ready .any ops l=[]->∀m j,j<m->j<ops.size->Dl l j=true:=by
  intro l hl hr m;induction m with
  |zero=>intro j h;omega
  | succ m ih =>
    intro j hjm hj;cases hDj:Dl l j with
    |true=>rfl
    | false =>
      exfalso;have:j∈Region.ready .any ops l:=by
       refine mem_ready.2 ⟨(gd l j hl hj).trans hDj,ops[j],A8 hj,fun e hem hb=>?_⟩;have he':=he;unfold iv at he';simp only[B0,B8] at he';have h1:=he' j hj;rw[A8 hj] at h1;simp only[A3] at h1;have h3:=h1.1;rw[C4] at h3;have:=h3 e hem;simp[hb] at this;exact ih e.on (by omega) (by omega)
      rw[hr] at this;cases this
 intro fuel;induction fuel with
 | zero =>
   intro l τ a w hl hcnt hdn hat hR;have hall:=xp ops.size (by omega:cnt ops.size (Dl l)=0);refine⟨List.eq_nil_iff_forall_not_mem.2 fun j hj=>?_,done l τ a w hall hat hR⟩;obtain⟨h1,o,ho,_⟩:=mem_ready.1 hj;have hjs:=(B7.1 ho).1;rw[gd l j hl hjs,hall j hjs] at h1;cases h1
 | succ fuel ih =>
   intro l τ a w hl hcnt hdn hat hR;refine⟨fun hr=>done l τ a w (fun j hj=>idle l hl hr (j+1) j (by omega) hj) hat hR,fun i hi=>?_⟩;obtain⟨h1,o,ho,hrd⟩:=mem_ready.1 hi;have his:=(B7.1 ho).1;rw[gd l i hl his] at h1;obtain⟨tag,β,hRR⟩:=hR;have hstep:∃ao p,fu P n ops o ao=true/\Did (OkT H P) ao τ p/\At ps σ0 (Dl (l.setIfInBounds i true)) (τ.up p):=by
    rcases A9 _ _▸hd with hd|hd
    ·exact Pz hm he hd hc hR0 hdn hat hRR (by omega) ho h1 (fun e hem hb=>hrd e hem hb)
    ·unfold xh at hd;exact Hp hm he hd hc hR0 hdn hat hRR (by omega) ho h1 (fun e hem hb=>hrd e hem hb)
   obtain⟨ao,p,hmo,hdid,hat'⟩:=hstep;unfold wpOp;rw[ho];refine Did.step hRR hmo hdid fun a' w' hR'=>ih _ _ a' w' (by simpa using hl) ?_ ?_ hat' hR'
   ·have:=(EF (D:=Dl l) (D':=Dl (l.setIfInBounds i true)) (i:=i) h1 (fun j=>oo (by omega) j) ops.size).1 his;omega
   ·intro j oj hoj hDj e hem hb;rw[oo (by omega)] at hDj⊢;simp only[A9,beq_iff_eq] at hDj⊢;rcases hDj with hDj|rfl
    ·exact .inl (hdn j oj hoj hDj e hem hb)
    ·rw[ho] at hoj;cases hoj;exact .inl (hrd e hem hb)
def R.drew(h:R n w0 S0 σ a w):R n w0 S0 σ a {w with drawn:=w.drawn+1}:=by
 obtain⟨tag,β,h⟩:=h;refine⟨tag,β,?_⟩;have:=h.change (w':={w with drawn:=w.drawn+1}) (tag':=tag) (β':=β) (rows':=σ.rows) ⟨⟨rfl,rfl,rfl,C9 _,fun _ _=>rfl⟩,fun _ _=>rfl,Nat.le_succ _⟩ (fun b hb=>⟨hb,rfl⟩) h.lt (fun _ _ _=>⟨rfl,rfl⟩) (fun r _ hl=>⟨hl,rfl⟩) (fun r _=>.inl rfl) (fun r h=>h)
  (fun r=>(h.rows r).mono (fun b hb=>⟨hb,rfl⟩) (fun b hb=>⟨hb,rfl⟩) (fun b hb=>hb) rfl (fun x hx q hq=>.inl rfl)) h.wfr
 exact this
def GK(bH:P.follows .mixedOrders=true){id:Nat}{K:St->Prop}(hm:bZ P n ops ops.toList aos=true)
 (he:iv ops bs=true) (hd:(ta aos bs||xh aos bs)=true) (hR:R n w0 S0 σ a w) (hs:fd (OkT H P) aos K σ) (hQ:∀τ a w,K τ->R n w0 S0 τ a w->Q .normal a w):(Code.region id ops true).wp P Q a w:=by
 obtain⟨ps,τ,hc,hK,e⟩:=gj aos σ σ (.refl σ) hs;refine wp_region_any bH ?_;have hD:∀j,Dl (D4 ops.size false) j=false:=by
  intro j;unfold Dl;rw[C7];cases h:(D4 ops.size false)[j]? with
  |none=>rfl
  | some x =>
    obtain⟨h1,h2⟩:=B7.1 h;simp at h2;simp[<-h2]
 have hcnt:∀m,cnt m (Dl (D4 ops.size false))=m:=by
  intro m;induction m with
  |zero=>rfl
  |succ m ih=>simp only[cnt,ih,hD,C8,if_false]
 refine TP hm he hd hc ⟨a,w,hR⟩ (fun a w h=>hQ τ a w hK (h.eqv e.symm)) ops.size _ σ a _ (by simp) (by rw[hcnt];exact C9 _) (fun j o ho hDj=>by rw[hD] at hDj;cases hDj) ⟨fun s=>?_,fun r=>?_⟩ hR.drew
 ·exact(mH _ _ _ fun j _=>hD j).symm
 ·exact(mH _ _ _ fun j _=>hD j).symm
end Vs

namespace Vs
open Go Go.RowKit
variable{P:Program}{n:Nat}{w0:World}{S0:Fx}{σ τ:St}{a:Act}{w w':World}{tag tag':Nat->Tag}{β β':Nat->Option Own}
variable{m d r j i q:Nat}{cs:List AV}{v:Value}{S:Nat->Prop}{B:Nat}{es:List AV}{α:Type}{x:AV}{w:World}
theorem ce(h:α->α)(k:Nat):∀l:List (Nat×α),aB k (l.map fun p=>(p.1,h p.2))=(aB k l).map h
 |[]=>rfl
 | (j, x) :: l => by
   simp only[D0,aB,ce h k l];split<;>rfl
theorem ee(d k:Nat):∀l:List (Nat×α),aB k (del d l)=if k=d then none else aB k l
 |[]=>by simp[del,aB]
 | (j, x) :: l => by
   simp only[del];by_cases h:j=d
   ·simp_all [if_true,ee,Ne.symm,aB]
   ·simp only[h,if_false,aB,ee d k l]
    grind
theorem zw(h:α->α)(r d k:Nat)(hrd:r≠d):∀l:List (Nat×α),aB d l=none->
 aB k (l.map fun p=>(if p.1=r then d else p.1,h p.2))=if k=d then(aB r l).map h else if k=r then none else(aB k l).map h
 |[],_=>by simp[aB]
 | (j, x) :: l, hd => by
   simp only[aB] at hd;split at hd
   ·cases hd
   ·rename_i hjd;simp only[D0,aB,zw h r d k hrd l hd]
    grind
def vI{h:AV->AV}{row:Row}(e:row.map h=.var x):∃y,row=.var y/\x=h y:=by
 cases row<;>simp[Row.map] at e
 simp_all
def qE(h:q∈(x.hush d).ments):q∈x.ments/\q≠d:=by
 grind [AV.hush,AV.ments]
def nZ(σ:St)(d r:Nat):Prop:=r=d\/∃x,aB r σ.rows=some (.var x)/\d∈x.ments
def RR.forget(h:RR n w0 S0 σ a w tag β)(d:Nat):∃tag' β',RR n w0 S0 ⟨σ.env.map fun p=>(p.1,p.2.hush d),(del d σ.rows).map fun p=>(p.1,p.2.hush d)⟩ a w tag' β'/\β' d=none/\∀b r,tag' b=.own r\/tag' b=.uq r->r≠d:=by
 classical
 let tag':Nat->Tag:=fun b=>if∃r,tag b=.own r/\nZ σ d r then .out else if∃r,tag b=.uq r/\nZ σ d r then .imm else tag b
 let β':Nat->Option Own:=fun r=>if nZ σ d r then none else β r
 have tOut:∀b,tag b=.out->tag' b=.out:=by
  intro b hb;simp only[tag',hb];simp
 have tImm:∀b,tag b=.imm->tag' b=.imm:=by
  intro b hb;simp only[tag',hb];simp
 have tOwn:∀b r,tag b=.own r->¬nZ σ d r->tag' b=.own r:=by
  intro b r hb hg;simp only[tag',hb];rw[u6 (by rintro⟨q,e,hq⟩;cases e;exact hg hq),u6 (by rintro⟨q,e,_⟩;cases e)]
 have tUq:∀b r,tag b=.uq r->¬nZ σ d r->tag' b=.uq r:=by
  intro b r hb hg;simp only[tag',hb];rw[u6 (by rintro⟨q,e,_⟩;cases e),u6 (by rintro⟨q,e,hq⟩;cases e;exact hg hq)]
 have tUqG:∀b r,tag b=.uq r->nZ σ d r->tag' b=.imm:=by
  intro b r hb hg;simp only[tag',hb];rw[u6 (by rintro⟨q,e,_⟩;cases e),u7 ⟨r,rfl,hg⟩]
 have himm:∀b,Imm tag b->Imm tag' b/\w.heap[b]?=w.heap[b]?:=by
  intro b hb;refine⟨?_,rfl⟩;rcases hb with hb|⟨r,hb⟩
  ·exact .inl (tImm b hb)
  ·by_cases e:nZ σ d r
   ·exact .inl (tUqG b r hb e)
   ·exact .inr ⟨r,tUq b r hb e⟩
 have hRep:∀{v x},Rep w (Imm tag) w0.heap.size β v x->Rep w (Imm tag') w0.heap.size β' v x:=by
  intro v x hr;refine hr.mono himm fun r hr=>?_;simp only[β'];by_cases e:nZ σ d r
  ·right;rw[u7 e]
  ·left;rw[u6 e]
 have hlook:∀r,aB r ((del d σ.rows).map fun p=>(p.1,p.2.hush d))=if r=d then none else(aB r σ.rows).map (Row.hush d):=by
  intro r;rw[ce (Row.hush d),ee];split<;>rfl
 have hsome:∀r,r≠d->(aB r σ.rows).isSome->(aB r ((del d σ.rows).map fun p=>(p.1,p.2.hush d))).isSome:=by
  intro r hr h;rw[hlook,u6 hr];simpa using h
 have hback:∀b,tag' b=.out\/tag' b=.imm\/tag' b=tag b:=by
  intro b;simp only[tag'];split
  ·exact .inl rfl
  ·split
   ·exact .inr (.inl rfl)
   ·exact .inr (.inr rfl)
 have tKeep:∀b,tag b=.imm\/tag b=.out->tag' b=tag b:=fun b hb=>hb.elim (fun e=>(tImm b e).trans e.symm) fun e=>(tOut b e).trans e.symm;refine⟨tag',β',⟨h.nn,h.frm,fun b hb ht=>?_,fun b hb=>?_,fun r hr hl=>?_,h.below,h.sz,h.nodef,h.s0lt,fun b hb=>h.lt b fun e=>hb (tOut b e),fun b hb=>?_,fun k x hk=>?_,fun r=>?_,fun r x hr q hq=>?_⟩,by simp[β',nZ],fun b r hr=>?_⟩
 ·obtain⟨k1,k2⟩:=h.keep b hb ht;exact⟨by rw[tKeep b (by rw[k1];exact ht),k1],k2⟩
 ·obtain⟨k1,k2⟩:=h.kimm b hb;exact⟨(himm b k1).1,k2⟩
 ·dsimp only at hl;rw[hlook] at hl;by_cases e:r=d
  ·rw[u7 e] at hl;exact hl.elim
  ·rw[u6 e] at hl;have hng:¬nZ σ d r:=by
    rintro(e'|⟨x,hx,hm⟩)
    ·exact e e'
    ·rw[hx] at hl;simp only[B9,Row.hush,if_pos hm] at hl;exact hl
   simp only[β',if_neg hng];refine h.bk r hr ?_;cases hrow:aB r σ.rows with
   |none=>rw[hrow] at hl;exact hl.elim
   | some row =>
     rw[hrow] at hl;cases row with
     |dead=>exact hl.elim
     |var x=>trivial
     |arr k es=>trivial
 ·obtain⟨h1,h2⟩:=h.old b hb;have:tag' b=tag b:=by
   rcases h2 with e|e
   ·rw[e];exact tImm b e
   ·rw[e];exact tOut b e
  rw[this];exact⟨h1,h2⟩
 ·dsimp only at hk⊢;rw[ce (fun x:AV=>x.hush d)] at hk;simp only[A1] at hk;obtain⟨y,hy,rfl⟩:=hk;obtain⟨h1,h2⟩:=h.env k y hy;refine⟨?_,fun r hr=>hsome r (qE hr).2 (h2 r (qE hr).1)⟩;unfold AV.hush;split
  ·exact .p _ _ (.top _)
  ·exact hRep h1
 ·rw[hlook];split
  ·rename_i e;subst e;simp[cJ,β',nZ]
  ·rename_i hrd;have hr:=h.rows r;cases hrow:aB r σ.rows with
   | none =>
     rw[hrow] at hr;simp only[Option.map_none,cJ,β'];split
     ·rfl
     ·exact hr
   | some row =>
     rw[hrow] at hr;have hng:(∀x,row=.var x->d∉x.ments)->¬nZ σ d r:=by
      rintro hx (e|⟨x,hx',hm⟩)
      ·exact hrd e
      ·rw[hrow] at hx';cases hx';exact hx x rfl hm
     cases row with
     | dead =>
       simp only[B9,Row.hush,cJ,β'];split
       ·rfl
       ·exact hr
     | var x =>
       simp only[B9,Row.hush];split
       ·rename_i hm;simp only[cJ,β'];rw[u7 (.inr ⟨x,hrow,hm⟩)]
       ·rename_i hm;have hg:=hng fun y e=>by cases e;exact hm
        obtain⟨b,o,v,h1,⟨h2,h3,h4⟩,h5,h6,h7⟩:=hr;exact⟨b,o,v,by simp only[β',if_neg hg];exact h1,⟨tOwn b r h2 hg,h3,h4⟩,h5,hRep h6,h7⟩
     | arr k es =>
       have hg:=hng fun y e=>by cases e
       simp only[B9,Row.hush];rcases hr with⟨h1,h2⟩|⟨b,o,cap,vs,fps,h1,⟨h2,h3,h4⟩,h5,h6,h7,h8,h9⟩
       ·exact .inl ⟨by simp only[β',if_neg hg];exact h1,h2⟩
       ·exact .inr ⟨b,o,cap,vs,fps,by simp only[β',if_neg hg];exact h1,⟨tOwn b r h2 hg,h3,h4⟩,h5,h6,fun j x hj=>(h7 j x hj).mono himm,h8,
         fun c hc=>tUq c r (h9 c hc) hg⟩
 ·rw[hlook] at hr;split at hr
  ·cases hr
  ·simp only[A1] at hr;obtain⟨row,hrow,e⟩:=hr;cases row with
   |dead=>simp[Row.hush] at e
   |arr k es=>simp[Row.hush] at e
   | var y =>
     simp only[Row.hush] at e;split at e
     ·cases e
     ·rename_i hm;cases e;exact hsome q (fun e=>hm (e▸hq)) (h.wfr r x hrow q hq)
 ·rintro rfl;have hg:nZ σ r r:=.inl rfl;rcases hr with hr|hr
  ·rcases hback b with e|e|e
   ·rw[e] at hr;cases hr
   ·rw[e] at hr;cases hr
   ·rw[e] at hr;have:tag' b=.out:=by simp only[tag',hr];rw[u7 ⟨r,rfl,hg⟩]
    rw[this] at e;rw[<-e] at hr;cases hr
  ·rcases hback b with e|e|e
   ·rw[e] at hr;cases hr
   ·rw[e] at hr;cases hr
   ·rw[e] at hr;have:tag' b=.imm:=tUqG b r hr hg;rw[this] at e;rw[<-e] at hr;cases hr
mutual
theorem KT(r d:Nat):∀(x:AV),x.ments=[]->x.ren r d=x
 | .sl q i m,h=>by simp[AV.ments] at h
 | .pt q i m,h=>by simp[AV.ments] at h
 | .agg cs,h=>by simp_all [nJ,AV.ments,AV.ren]
 | .fn f cs,h=>by simp_all [nJ,AV.ments,AV.ren]
 | .tup cs,h=>by simp_all [nJ,AV.ments,AV.ren]
 | .sc v,_=>by simp only[AV.ren]
 | .lst _ _ _,_=>by simp only[AV.ren]
 | .tg _ _ _,_=>by simp only[AV.ren]
 | .bp _ _ _,_=>by simp only[AV.ren]
 | .top,_=>by simp only[AV.ren]
 | .ub,_=>by simp only[AV.ren]
theorem nJ(r d:Nat):∀(xs:List AV),aP xs=[]->iX r d xs=xs
 |[],_=>by simp only[iX]
 | x :: xs, h => by
   simp only[aP,List.append_eq_nil_iff] at h;simp only[iX,KT r d x h.1,nJ r d xs h.2]
end
theorem pS(r d:Nat):∀(xs:List AV)(j:Nat),(iX r d xs)[j]?=(xs[j]?).map (·.ren r d)
 |[],j=>by simp[iX]
 |x::xs,0=>by simp[iX]
 |x::xs,j+1=>by simp[iX,pS r d xs j]
theorem kE(r d:Nat):∀(xs:List AV),(iX r d xs).length=xs.length
 |[]=>rfl
 |x::xs=>by simp[iX,kE r d xs]
mutual
theorem oB(r d:Nat):∀(x:AV)(q:Nat),q∈(x.ren r d).ments->(q=d/\r∈x.ments)\/(q≠r/\q∈x.ments)\/(r=d/\q∈x.ments)
 | .sl p i m, q, h => by
   grind [List.mem_singleton,AV.ren,AV.ments]
 | .pt p i m, q, h => by
   grind [List.mem_singleton,AV.ren,AV.ments]
 | .agg cs,q,h=>by simp_all [jt,AV.ren,AV.ments]
 | .fn f cs,q,h=>by simp_all [jt,AV.ren,AV.ments]
 | .tup cs,q,h=>by simp_all [jt,AV.ren,AV.ments]
 | .sc v,q,h=>by simp[AV.ren,AV.ments] at h
 | .lst _ _ _,q,h=>by simp[AV.ren,AV.ments] at h
 | .tg _ _ _,q,h=>by simp[AV.ren,AV.ments] at h
 | .bp _ _ _,q,h=>by simp[AV.ren,AV.ments] at h
 | .top,q,h=>by simp[AV.ren,AV.ments] at h
 | .ub,q,h=>by simp[AV.ren,AV.ments] at h
theorem jt(r d:Nat):∀(xs:List AV)(q:Nat),q∈aP (iX r d xs)->(q=d/\r∈aP xs)\/(q≠r/\q∈aP xs)\/(r=d/\q∈aP xs)
 |[],q,h=>by simp[iX,aP] at h
 | x :: xs, q, h => by
   simp only[iX,aP,B4] at h⊢;rcases h with h|h
   ·rcases oB r d x q h with⟨h1,h2⟩|⟨h1,h2⟩|⟨h1,h2⟩
    ·exact .inl ⟨h1,.inl h2⟩
    ·exact .inr (.inl ⟨h1,.inl h2⟩)
    ·exact .inr (.inr ⟨h1,.inl h2⟩)
   ·rcases jt r d xs q h with⟨h1,h2⟩|⟨h1,h2⟩|⟨h1,h2⟩
    ·exact .inl ⟨h1,.inr h2⟩
    ·exact .inr (.inl ⟨h1,.inr h2⟩)
    ·exact .inr (.inr ⟨h1,.inr h2⟩)
end
def Iw(r d:Nat)(x:AV):(x.ren r d).width=x.width:=by
 cases x<;>simp[AV.ren,AV.width,kE]
def Rep.ren{S':Nat->Prop}(h:Rep w S B β v x)(r d:Nat)(hS:∀b,S b->S' b)(hb:∀q∈x.ments,β' (if q=r then d else q)=β q):Rep w S' B β' v (x.ren r d):=by
 induction h with
 |p v x h=>rw[KT r d x h.ments_nil];exact .p _ _ (h.mono fun b hb=>⟨hS b hb,rfl⟩)
 |slB q i n b o sz cap len c h hc hn hl=>simp only[AV.ren];exact .slB _ i n b o sz cap len c ((hb q (by simp[AV.ments])).trans h) hc hn hl
 |slE q i b o sz cap len p h hp=>simp only[AV.ren];exact .slE _ i b o sz cap len p ((hb q (by simp[AV.ments])).trans h) hp
 |slN q h=>simp only[AV.ren];exact .slN _ ((hb q (by simp[AV.ments])).trans h)
 |slD q i n v h h1=>simp only[AV.ren];exact .slD _ i n v ((hb q (by simp[AV.ments])).trans h) h1
 |ptB q i off b o sz cap len h=>simp only[AV.ren];exact .ptB _ i off b o sz cap len ((hb q (by simp[AV.ments])).trans h)
 |ptD q i off v h h1=>simp only[AV.ren];exact .ptD _ i off v ((hb q (by simp[AV.ments])).trans h) h1
 |tg f n len a xs hl h=>simp only[AV.ren];exact .tg f n len a xs hl (h.mono fun b hb=>⟨hS b hb,rfl⟩)
 | agg vs cs hsz h1 hx ih =>
   simp only[AV.ren];refine .agg vs _ (by rw[kE];exact hsz) h1 fun j x hj=>?_;rw[pS,A1] at hj;obtain⟨y,hy,rfl⟩:=hj
   grind [bF,AV.ments]
 | tup vs cs hsz hx ih =>
   simp only[AV.ren];refine .tup vs _ (by rw[kE];exact hsz) fun j x hj=>?_;rw[pS,A1] at hj;obtain⟨y,hy,rfl⟩:=hj
   grind [bF,AV.ments]
 | fn f vs cs hsz hx ih =>
   simp only[AV.ren];refine .fn f vs _ (by rw[kE];exact hsz) fun j x hj=>?_;rw[pS,A1] at hj;obtain⟨y,hy,rfl⟩:=hj
   grind [bF,AV.ments]
def RR.rename(h:RR n w0 S0 σ a w tag β)(r d:Nat)(hdb:d<1000000000)(hrd:r≠d)(hd:aB d σ.rows=none)(ht:∀b q,tag b=.own q\/tag b=.uq q->q≠d):
 R n w0 S0 ⟨σ.env.map fun p=>(p.1,p.2.ren r d),σ.rows.map fun p=>(if p.1=r then d else p.1,p.2.map (·.ren r d))⟩ a w:=by
 let nm:Tag->Tag:=fun t=>match t with| .own q=>.own (if q=r then d else q)| .uq q=>.uq (if q=r then d else q)|t=>t
 let tag':Nat->Tag:=fun b=>nm (tag b);let β':Nat->Option Own:=fun q=>if q=d then β r else if q=r then none else β q
 have hβd:β d=none:=by have:=h.rows d;rw[hd] at this;exact this
 have himm:∀b,Imm tag b->Imm tag' b:=by
  intro b hb;rcases hb with hb|⟨q,hb⟩
  ·exact .inl (by grind)
  ·exact .inr ⟨if q=r then d else q,by grind⟩
 have hbq:∀q,(aB q σ.rows).isSome->β' (if q=r then d else q)=β q:=by
  intro q hq;by_cases e:q=r
  ·subst e;simp[β']
  ·have hqd:q≠d:=by rintro rfl;rw[hd] at hq;cases hq
   simp[β',e,hqd]
 have hlook:∀k,aB k (σ.rows.map fun p=>(if p.1=r then d else p.1,p.2.map (·.ren r d)))=if k=d then(aB r σ.rows).map (Row.map (·.ren r d)) else if k=r then none else(aB k σ.rows).map (Row.map (·.ren r d)):=
  fun k=>zw (Row.map (·.ren r d)) r d k hrd σ.rows hd
 have hsome:∀(q:Nat)(x:List Nat),(∀p∈x,(aB p σ.rows).isSome)->(q=d/\r∈x)\/(q≠r/\q∈x)\/(r=d/\q∈x)->(aB q (σ.rows.map fun p=>(if p.1=r then d else p.1,p.2.map (·.ren r d)))).isSome:=by
  intro q x hx hq;rw[hlook];rcases hq with⟨rfl,hr⟩|⟨hqr,hq⟩|⟨e,_⟩
  ·simpa using hx r hr
  ·split
   ·rename_i e;subst e;have:=hx q hq;rw[hd] at this;cases this
   ·first|(rw[u6 hqr];simpa using hx q hq)|simpa using hx q hq
  ·exact(hrd e).elim
 refine⟨tag',β',h.nn,h.frm,fun b hb ht=>?_,fun b hb=>?_,fun k hk hl=>?_,h.below,h.sz,h.nodef,h.s0lt,fun b hb=>h.lt b fun e=>hb (by simp only[tag',e,nm]),fun b hb=>?_,fun k x hk=>?_,fun k=>?_,fun k x hk q hq=>?_⟩
 ·obtain⟨k1,k2⟩:=h.keep b hb ht
  grind
 ·obtain⟨k1,k2⟩:=h.kimm b hb
  simp_all
 ·dsimp only at hl;rw[hlook,u6 (by omega)] at hl;by_cases hkr:k=r
  ·rw[u7 hkr] at hl;exact hl.elim
  rw[u6 hkr] at hl;simp only[β',if_neg (show¬k=d by omega),if_neg hkr];refine h.bk k hk ?_;cases hrow:aB k σ.rows with
  |none=>simp_all
  | some row =>
    rw[hrow] at hl;cases row with
    |dead=>exact hl.elim
    |var x=>trivial
    |arr k es=>trivial
 ·obtain⟨h1,h2⟩:=h.old b hb
  grind
 ·dsimp only at hk⊢;rw[ce (fun x:AV=>x.ren r d)] at hk;simp only[A1] at hk;obtain⟨y,hy,rfl⟩:=hk;obtain⟨h1,h2⟩:=h.env k y hy;exact⟨h1.ren r d himm fun q hq=>hbq q (h2 q hq),fun q hq=>hsome q y.ments h2 (oB r d y q hq)⟩
 ·rw[hlook];have key:∀q row,aB q σ.rows=some row->β' (if q=r then d else q)=β q->cJ w tag' w0.heap.size β' (if q=r then d else q) (some (row.map (·.ren r d))):=by
   intro q row hq hbeq;have hr:=h.rows q;rw[hq] at hr;cases row with
   |dead=>simp_all [Row.map,cJ]
   | var x =>
     obtain⟨b,o,v,h1,⟨h2,h3,h4⟩,h5,h6,h7⟩:=hr;exact⟨b,o,v,hbeq.trans h1,⟨by grind,h3,h4⟩,h5,h6.ren r d himm fun p hp=>hbq p (h.wfr q x hq p hp),by rw[Iw];exact h7⟩
   | arr k es =>
     rcases hr with⟨h1,h2⟩|⟨b,o,cap,vs,fps,h1,⟨h2,h3,h4⟩,h5,h6,h7,h8,h9⟩
     ·exact .inl ⟨hbeq.trans h1,h2⟩
     ·exact .inr ⟨b,o,cap,vs,fps,hbeq.trans h1,⟨by grind,h3,h4⟩,h5,h6,fun j x hj=>(h7 j x hj).mono fun b hb=>⟨himm b hb,rfl⟩,h8,fun c hc=>by grind⟩
  split
  ·rename_i e;subst e;cases hr:aB r σ.rows with
   | none =>
     have:=h.rows r
     grind [cJ]
   | some row =>
     grind
  ·rename_i hkd;split
   ·grind [cJ]
   ·rename_i hkr;cases hr:aB k σ.rows with
    | none =>
      have:=h.rows k
      grind [cJ]
    | some row =>
      grind
 ·rw[hlook] at hk;have key:∀q0 row,aB q0 σ.rows=some row->row.map (·.ren r d)=.var x->(aB q (σ.rows.map fun p=>(if p.1=r then d else p.1,p.2.map (·.ren r d)))).isSome:=by
   intro q0 row h0 e;obtain⟨y,rfl,rfl⟩:=vI e;exact hsome q y.ments (h.wfr q0 y h0) (oB r d y q hq)
  grind [Option.map_eq_some_iff]
def R.canSl(h:R n w0 S0 σ a w)(hdn:d<n)(hg:aB d σ.env=some (.sl r i m)):R n w0 S0 (σ.canSl d r i m) a w:=by
 unfold St.canSl;split
 ·exact h
 ·rename_i hrd';have hrd:r≠d:=fun e=>hrd' (.inl e);obtain⟨tag,β,h⟩:=h;have hnn:=h.nn;obtain⟨tag',β',h',_,ht⟩:=h.forget d;have hdl:aB d ((del d σ.rows).map fun p=>(p.1,p.2.hush d))=none:=by rw[ce (Row.hush d),ee,u7 rfl];rfl
  refine(h'.rename r d (by omega) hrd hdl ht).eqv ⟨fun s=>?_,fun _=>rfl⟩;dsimp only;rw[aQ];split
  ·rename_i e;subst e;rw[ce (fun x:AV=>x.ren r s),ce (fun x:AV=>x.hush s),hg];simp[AV.hush,AV.ments,Ne.symm hrd,AV.ren]
  ·rfl
def R.canSr(h:R n w0 S0 σ a w)(hdn:d<n)(hg:aB d σ.env=some (.sl r i m)):R n w0 S0 (σ.canSr d r i m) a w:=by
 unfold St.canSr;split
 ·exact h
 ·rename_i hrd';have hrd:r≠d:=hrd';obtain⟨tag,β,h⟩:=h;have hnn:=h.nn;obtain⟨tag',β',h',_,ht⟩:=h.forget d;have hdl:aB d ((del d σ.rows).map fun p=>(p.1,p.2.hush d))=none:=by rw[ce (Row.hush d),ee,u7 rfl];rfl
  refine(h'.rename r d (by omega) hrd hdl ht).eqv ⟨fun s=>?_,fun _=>rfl⟩;dsimp only;rw[aQ];split
  ·rename_i e;subst e;rw[ce (fun x:AV=>x.ren r s),ce (fun x:AV=>x.hush s),hg];simp[AV.hush,AV.ments,Ne.symm hrd,AV.ren]
  ·rfl
def R.canNil(h:R n w0 S0 σ a w)(hdn:d<n)(hg:aB d σ.env=some (.lst .u m [])):R n w0 S0 (σ.canNil d m) a w:=by
 obtain⟨tag,β,h⟩:=h;obtain⟨tag',β',h',hb,ht⟩:=h.forget d;have hv:a.tmps.getD d undef=.slice none 0 0:=by
  have:=(h.env d _ hg).1;have key:∀v fp,aX w (Imm tag) w0.heap.size v (.lst .u m []) fp->fp=[]->v=.slice none 0 0:=by
   intro v fp hp hfp;cases hp with
   |nil _ _ ad cap hn=>obtain rfl:=hn.2 rfl;obtain rfl:=hn.1 rfl;rfl
   |lst=>simp at hfp
  exact key _ _ this.lst_inv rfl
 have hdr:aB d ((del d σ.rows).map fun p=>(p.1,p.2.hush d))=none:=by rw[ce (Row.hush d),ee,u7 rfl];rfl
 have hne:∀r,(aB r ((del d σ.rows).map fun p=>(p.1,p.2.hush d))).isSome->r≠d:=by rintro r hr rfl;rw[hdr] at hr;cases hr
 have hch:=h'.change (w':=w) (tag':=tag') (β':=fun r=>if r=d then some .nil else β' r) (rows':=put d (.arr m []) ((del d σ.rows).map fun p=>(p.1,p.2.hush d))) (.refl _ _) (fun b hb=>⟨hb,rfl⟩) h'.lt (fun _ _ _=>⟨rfl,rfl⟩)
  (fun r hr hl=>by
   have hn:=h.nn;have e:r≠d:=by omega
   rw[aQ,u6 e] at hl;exact⟨hl,u6 e⟩)
  (fun r hr=>.inl (by simp only[if_neg (hne r hr)]))
  (fun r hr=>by simp only[aQ,if_neg (hne r hr)];exact hr)
  (fun r=>by
   rw[aQ];split
   ·rename_i e;subst e;exact .inl ⟨by simp,rfl⟩
   ·rename_i e;refine(h'.rows r).mono (fun b hb=>⟨hb,rfl⟩) (fun b hb=>⟨hb,rfl⟩) (fun b hb=>hb) (by simp[e]) fun x hx q hq=>.inl ?_;have:=hne q (h'.wfr r x hx q hq);simp only[if_neg this])
  (fun r x hr q hq=>by
   rw[aQ] at hr;split at hr
   ·cases hr
   ·have:=h'.wfr r x hr q hq;rw[aQ,u6 (hne q this)];exact this)
 have hs:=hch.step hdn (v:=.slice none 0 0) (x:=.sl d 0 0) (.slN d (by simp)) (by
  intro r hr;simp only[AV.ments,A5] at hr;subst hr;simp only[aQ,if_true,D8])
 have ha:a.put (some d) (.slice none 0 0)=a:=by
  rw[<-hv];simp only[Act.put];have:a.tmps.setIfInBounds d (a.tmps.getD d undef)=a.tmps:=by
   apply F0
   ·simp
   ·intro j h1 h2;rw[B6 (by simpa using h1)];split
    ·rename_i e;subst e;simp[h2]
    ·rfl
  rw[this]
 rw[ha] at hs;exact⟨_,_,hs⟩
def RR.sl_m(h:RR n w0 S0 σ a w tag β)(hx:aB r σ.rows=some (.arr q es))(hv:Rep w (Imm tag) w0.heap.size β v (.sl r i m))(himm:∀b,Imm tag b->Imm tag' b)(hown:∀b,tag b=.own r->tag' b=.imm):
 aX w (Imm tag') w0.heap.size v (.lst .m q (dv (sub es i m))) []:=by
 have hx':σ.row r=some (.arr q es):=hx;obtain⟨hsl,us,fps,h1,h2⟩:=h.sl_els hx' hv;rcases h2 with⟨rfl,e⟩|⟨b,o,c,rfl,hl⟩
 ·rw[e];simp only[dv];exact .nil0 _ _
 ·have hb:tag b=.own r/\w0.heap.size<=b:=by
   rcases h.sl_inv hx' hv with⟨e,_⟩|⟨b',o',cap',c',hb',e,hic,hmc,hlm⟩|⟨b',o',cap',p',hb',e,hm0,hp⟩
   ·simp at e
   ·simp only[Value.slice.injEq,Option.some.injEq,Addr.mk.injEq] at e;rcases h.arr hx' with⟨e',_⟩|⟨b'',o'',cap'',vs,fps,hb'',⟨t1,t2,t3⟩,_⟩
    ·simp_all
    simp_all
   ·simp only[Value.slice.injEq,Option.some.injEq,Addr.mk.injEq] at e;rcases h.arr hx' with⟨e',_⟩|⟨b'',o'',cap'',vs,fps,hb'',⟨t1,t2,t3⟩,_⟩
    ·simp_all
    simp_all
  have hcc:(sub es i m).length<=c:=by
   rcases h.sl_inv hx' hv with⟨e,_⟩|⟨b',o',cap',c',hb',e,hic,hmc,hlm⟩|⟨b',o',cap',p',hb',e,hm0,hp⟩
   ·simp at e
   ·simp_all
   ·omega
  have key:∀(j:Nat)(x:AV),(dv (sub es i m))[j]?=some x->∃y,(sub es i m)[j]?=some y/\x=y.als:=fun j x hj=>by
   grind [jK,Option.map_eq_some_iff]
  have:=aX.lst (w:=w) (S:=Imm tag') (B:=w0.heap.size) .m q b o (sub es i m).length c (dv (sub es i m)) us (fun _=>[]) ig hcc ⟨.inl (hown b hb.1),hb.2⟩ (by intro e;cases e)
   (fun j x hj=>by obtain⟨y,hy,_⟩:=key j x hj;exact⟨h1.sz j y hy,hl j y hy⟩) (fun j x hj=>by obtain⟨y,hy,rfl⟩:=key j x hj;exact(h1.rep j y hy).als.mono fun b hb=>⟨himm b hb,rfl⟩)
  rwa[bj _ _ fun _ _=>rfl,u6 (by intro e;cases e),List.append_nil] at this
def R.canZ(h:R n w0 S0 σ a w)(hdn:d<n)(hg:aB d σ.env=some (.sl r i m))(hx:aB r σ.rows=some (.arr q es)):
 R n w0 S0 ⟨put d (.lst .m q (dv (sub es i m))) σ.env,put r .dead σ.rows⟩ a w:=by
 classical
 obtain⟨tag,β,h⟩:=h;let tag':Nat->Tag:=fun b=>if tag b=.own r\/tag b=.uq r then .imm else tag b
 have hne:∀b,¬(tag b=.own r\/tag b=.uq r)->tag' b=tag b:=fun b hb=>u6 hb;have himm:∀b,Imm tag b->Imm tag' b:=by
  intro b hb;by_cases e:tag b=.own r\/tag b=.uq r
  ·exact .inl (u7 e)
  ·unfold Imm;rw[hne b e];exact hb
 have hch:=h.change (w':=w) (tag':=tag') (β':=fun p=>if p=r then none else β p) (rows':=put r .dead σ.rows) (.refl _ _) (fun b hb=>⟨himm b hb,rfl⟩)
  (fun b hb=>by
   by_cases e:tag b=.own r\/tag b=.uq r
   ·exact h.lt b (by rcases e with e|e<;>rw[e]<;>simp)
   ·exact h.lt b (by rw[<-hne b e];exact hb))
  (fun b _ hb=>⟨hne b (by rcases hb with e|e<;>rw[e]<;>simp),rfl⟩)
  (fun p hp hl=>by
   rw[aQ] at hl;split at hl
   ·exact hl.elim
   ·rename_i e;exact⟨hl,u6 e⟩)
  (fun p _=>by
   by_cases e:p=r
   ·exact .inr (u7 e)
   ·exact .inl (u6 e))
  (fun p hp=>by
   rw[aQ];split
   ·rfl
   ·exact hp)
  (fun p=>by
   rw[aQ];split
   ·rename_i e;subst e;exact u7 rfl
   ·rename_i e;refine(h.rows p).mono (fun b hb=>⟨himm b hb,rfl⟩) (fun b hb=>⟨(hne b (by rw[hb];simp[e])).trans hb,rfl⟩) (fun b hb=>(hne b (by rw[hb];simp[e])).trans hb) (u6 e) fun x hx q hq=>?_;by_cases e2:q=r
    ·exact .inr (u7 e2)
    ·exact .inl (u6 e2))
  (fun p x hp q hq=>by
   rw[aQ] at hp;split at hp
   ·cases hp
   ·have:=h.wfr p x hp q hq;rw[aQ];split
    ·rfl
    ·exact this)
 have hrep:=h.sl_m (tag':=tag') hx (h.env d _ hg).1 himm (fun b hb=>u7 (.inl hb));have hs:=hch.step hdn (v:=a.tmps.getD d undef) (x:=.lst .m q (dv (sub es i m))) (.p _ _ hrep) (by
  intro p hp;simp[AV.ments] at hp)
 have ha:a.put (some d) (a.tmps.getD d undef)=a:=by
  simp only[Act.put];have:a.tmps.setIfInBounds d (a.tmps.getD d undef)=a.tmps:=by
   apply F0
   ·simp
   ·intro j h1 h2;rw[B6 (by simpa using h1)];split
    ·rename_i e;subst e;simp[h2]
    ·rfl
  rw[this]
 rw[ha] at hs;exact⟨_,_,hs⟩
theorem wl:∀{cs:List AV}{j:Nat},tJ cs j≠.top->cs[j]?=some (tJ cs j)
 |[],_,h=>(h rfl).elim
 |x::_,0,_=>rfl
 |_::xs,j+1,h=>by rw[List.getElem?_cons_succ];exact wl (cs:=xs) h
theorem eR:∀(cs:List AV)(j:Nat)(y:AV),gU cs j y=cs.set j y
 |[],_,_=>rfl
 |_::_,0,_=>rfl
 |x::xs,j+1,y=>by rw[gU,List.set_cons_succ,eR xs j y]
def ic{y:AV}(h:q∈aP (cs.set j y)):q∈y.ments\/q∈aP cs:=by
 induction cs generalizing j with
 |nil=>simp[aP] at h
 | cons x xs ih =>
   cases j with
   | zero =>
     grind [aP,id]
   | succ j =>
     grind [aP,id]
def aaw{fp:List Nat}(h:aX w S B v (.agg cs) fp)(hj:cs[j]?=some (.sl r i m)):False:=by
 cases h with
 | agg vs _ fps hs h1 hx =>
   have:=hx _ _ hj;generalize fps j=fp' at this;generalize vs.getD j undef=v' at this;cases this
def R.canZA(h:R n w0 S0 σ a w)(hdn:d<n)(hg:aB d σ.env=some (.agg cs))(hj:cs[j]?=some (.sl r i m))(hx:aB r σ.rows=some (.arr q es)):
 R n w0 S0 ⟨put d (.agg (gU cs j (.lst .m q (dv (sub es i m))))) σ.env,put r .dead σ.rows⟩ a w:=by
 classical
 obtain⟨tag,β,h⟩:=h;let tag':Nat->Tag:=fun b=>if tag b=.own r\/tag b=.uq r then .imm else tag b
 have hne:∀b,¬(tag b=.own r\/tag b=.uq r)->tag' b=tag b:=fun b hb=>u6 hb;have himm:∀b,Imm tag b->Imm tag' b:=by
  intro b hb;by_cases e:tag b=.own r\/tag b=.uq r
  ·exact .inl (u7 e)
  ·unfold Imm;rw[hne b e];exact hb
 have hch:=h.change (w':=w) (tag':=tag') (β':=fun p=>if p=r then none else β p) (rows':=put r .dead σ.rows) (.refl _ _) (fun b hb=>⟨himm b hb,rfl⟩)
  (fun b hb=>by
   by_cases e:tag b=.own r\/tag b=.uq r
   ·exact h.lt b (by rcases e with e|e<;>rw[e]<;>simp)
   ·exact h.lt b (by rw[<-hne b e];exact hb))
  (fun b _ hb=>⟨hne b (by rcases hb with e|e<;>rw[e]<;>simp),rfl⟩)
  (fun p hp hl=>by
   rw[aQ] at hl;split at hl
   ·exact hl.elim
   ·rename_i e;exact⟨hl,u6 e⟩)
  (fun p _=>by
   by_cases e:p=r
   ·exact .inr (u7 e)
   ·exact .inl (u6 e))
  (fun p hp=>by
   rw[aQ];split
   ·rfl
   ·exact hp)
  (fun p=>by
   rw[aQ];split
   ·rename_i e;subst e;exact u7 rfl
   ·rename_i e;refine(h.rows p).mono (fun b hb=>⟨himm b hb,rfl⟩) (fun b hb=>⟨(hne b (by rw[hb];simp[e])).trans hb,rfl⟩) (fun b hb=>(hne b (by rw[hb];simp[e])).trans hb) (u6 e) fun x hx q hq=>?_;by_cases e2:q=r
    ·exact .inr (u7 e2)
    ·exact .inl (u6 e2))
  (fun p x hp q hq=>by
   rw[aQ] at hp;split at hp
   ·cases hp
   ·have:=h.wfr p x hp q hq;rw[aQ];split
    ·rfl
    ·exact this)
 have key:Rep w (Imm tag') w0.heap.size (fun p=>if p=r then none else β p) (a.tmps.getD d undef) (.agg (gU cs j (.lst .m q (dv (sub es i m))))):=by
  have h0:=(h.env d _ hg).1;have h1:=(hch.env d _ hg).1;generalize a.tmps.getD d undef=v at h0 h1;rw[eR];cases h0 with
  |p _ _ hp=>exact(aaw hp hj).elim
  | agg vs _ hs h1' hx' =>
    have hrep:=h.sl_m (tag':=tag') hx (hx' _ _ hj) himm (fun b hb=>u7 (.inl hb));refine .agg vs _ (by simpa using hs) h1' fun k x hk=>?_;rw[C5] at hk;split at hk
    ·rename_i e;subst e;split at hk
     ·cases hk;exact .p _ _ hrep
     ·cases hk
    ·cases h1 with
     |p _ _ hp=>exact(aaw hp hj).elim
     |agg _ _ hs2 _ hx2=>exact hx2 _ _ hk
 have hs:=hch.step hdn (v:=a.tmps.getD d undef) (x:=.agg (gU cs j (.lst .m q (dv (sub es i m))))) key (by
  intro p hp;refine(hch.env d _ hg).2 p ?_;simp only[AV.ments] at hp⊢;rw[eR] at hp;rcases ic hp with hp|hp
  ·simp[AV.ments] at hp
  ·exact hp)
 have ha:a.put (some d) (a.tmps.getD d undef)=a:=by
  simp only[Act.put];have:a.tmps.setIfInBounds d (a.tmps.getD d undef)=a.tmps:=by
   apply F0
   ·simp
   ·intro j h1 h2;rw[B6 (by simpa using h1)];split
    ·rename_i e;subst e;simp[h2]
    ·rfl
  rw[this]
 rw[ha] at hs;exact⟨_,_,hs⟩
def Rep.setNil{β β':Nat->Option Own}(h:Rep w S B β v (.agg cs))(hj:cs[j]?=some (.lst .u m []))(hd:β' d=some .nil)(hb:∀q∈aP cs,β' q=β q):
 Rep w S B β' v (.agg (cs.set j (.sl d 0 0))):=by
 obtain⟨vs,rfl,hs,h1,hx⟩:=h.agg_inv;refine .agg vs _ (by simp[hs]) h1 fun k x hk=>?_;rw[C5] at hk;split at hk
 ·rename_i e;subst e;split at hk
  ·cases hk;have hl:=(hx j _ hj).lst_inv;have key:∀v fp,aX w S B v (.lst .u m []) fp->fp=[]->v=.slice none 0 0:=by
    intro v fp hp hfp;cases hp with
    |nil _ _ ad cap hn=>simp_all
    |lst=>simp at hfp
   rw[key _ _ hl rfl];exact .slN d hd
  ·cases hk
 ·exact(hx k x hk).mono (fun b hb=>⟨hb,rfl⟩) fun r hr=>.inl (hb r (bF hk hr))
def R.canF(h:R n w0 S0 σ a w){far:Bool}(hd:d<1000000000)(hdn:n<=d):R n w0 S0 (σ.canG far d r j (ik j (aB r σ.rows))) a w:=by
 cases hc:ik j (aB r σ.rows) with
 | sl q i m =>
   unfold St.canG;simp only;split
   ·exact h
   ·rename_i hrd';have hrd:q≠d:=fun e=>hrd' (.inl e);obtain⟨tag,β,h⟩:=h;obtain⟨tag',β',h',_,ht⟩:=h.forget d;have hdl:aB d ((del d σ.rows).map fun p=>(p.1,p.2.hush d))=none:=by rw[ce (Row.hush d),ee,u7 rfl];rfl
    exact h'.rename q d hd hrd hdl ht
 | lst f m xs =>
   unfold St.canG;split
   ·cases ‹_=_›
   ·rename_i m' e;cases e;unfold St.canFN;split
    ·rename_i cs e;obtain⟨tag,β,h⟩:=h;obtain⟨tag',β',h',hb,ht⟩:=h.forget d;have hdr:aB d ((del d σ.rows).map fun p=>(p.1,p.2.hush d))=none:=by rw[ce (Row.hush d),ee,u7 rfl];rfl
     have hne:∀r,(aB r ((del d σ.rows).map fun p=>(p.1,p.2.hush d))).isSome->r≠d:=by rintro r hr rfl;rw[hdr] at hr;cases hr
     have hrd:r≠d:=hne r (by rw[e];rfl);have hold:aB r σ.rows=some (.var (.agg cs)):=by
      rw[ce (Row.hush d),ee,u6 hrd] at e;cases hl:aB r σ.rows with
      |none=>rw[hl] at e;cases e
      | some row =>
        rw[hl] at e;simp only[B9,Option.some.injEq] at e;cases row with
        | var x =>
          simp only[Row.hush] at e;split at e
          ·cases e
          ·rw[e]
        |arr=>cases e
        |dead=>cases e
     have hj:cs[j]?=some (.lst .u m []):=by
      rw[hold] at hc;have hc2:tJ cs j=.lst .u m []:=hc;rw[<-hc2];exact wl (by rw[hc2];simp)
     have hcs:∀q∈aP cs,(aB q ((del d σ.rows).map fun p=>(p.1,p.2.hush d))).isSome:=fun q hq=>h'.wfr r _ e q (by simpa[AV.ments] using hq);rw[eR];refine⟨tag',fun q=>if q=d then some .nil else β' q,h'.change (w':=w) (.refl _ _) (fun b hb=>⟨hb,rfl⟩) h'.lt (fun _ _ _=>⟨rfl,rfl⟩) (fun q hq hl=>?_) (fun q hq=>.inl (by simp only[if_neg (hne q hq)])) (fun q hq=>?_) (fun q=>?_) (fun q x hq q' hq'=>?_)⟩
     ·rw[aQ] at hl;split at hl
      ·rename_i e2;subst e2;omega
      ·rename_i e2;rw[aQ] at hl;refine⟨?_,u6 e2⟩;split at hl
       ·rename_i e3;subst e3;rw[e];exact hl
       ·exact hl
     ·rw[aQ,aQ];split
      ·rfl
      ·split
       ·rfl
       ·exact hq
     ·rw[aQ];split
      ·rename_i e2;subst e2;exact .inl ⟨by simp,rfl⟩
      ·rename_i e2;rw[aQ];split
       ·rename_i e3;subst e3;have hr:=h'.rows q;rw[e] at hr;obtain⟨b,o,v,k1,k2,k3,k4,k5⟩:=hr;refine⟨b,o,v,by simp only[if_neg e2];exact k1,k2,k3,k4.setNil hj (by simp) (fun q' hq'=>by simp only[if_neg (hne q' (hcs q' hq'))]),?_⟩;rw[k5];simp[AV.width]
       ·refine(h'.rows q).mono (fun b hb=>⟨hb,rfl⟩) (fun b hb=>⟨hb,rfl⟩) (fun b hb=>hb) (by simp[e2]) fun x hx q' hq'=>.inl ?_;have:=hne q' (h'.wfr q x hx q' hq');simp only[if_neg this]
     ·have hin:∀p,(aB p ((del d σ.rows).map fun p=>(p.1,p.2.hush d))).isSome->(aB p (put d (.arr m []) (put r (.var (.agg (cs.set j (.sl d 0 0)))) ((del d σ.rows).map fun p=>(p.1,p.2.hush d))))).isSome:=fun p hp=>by
       rw[aQ,aQ];split
       ·rfl
       ·split
        ·rfl
        ·exact hp
      rw[aQ] at hq;split at hq
      ·cases hq
      ·rw[aQ] at hq;split at hq
       ·cases hq;rcases ic (by simpa[AV.ments] using hq') with h1|h1
        ·simp only[AV.ments,A5] at h1;subst h1;rw[aQ,u7 rfl];rfl
        ·exact hin _ (hcs _ h1)
       ·exact hin _ (h'.wfr q x hq q' hq')
    ·rename_i k0 e;obtain⟨tag,β,h⟩:=h;obtain⟨tag',β',h',hb,ht⟩:=h.forget d;have hdr:aB d ((del d σ.rows).map fun p=>(p.1,p.2.hush d))=none:=by rw[ce (Row.hush d),ee,u7 rfl];rfl
     have hne:∀r,(aB r ((del d σ.rows).map fun p=>(p.1,p.2.hush d))).isSome->r≠d:=by rintro r hr rfl;rw[hdr] at hr;cases hr
     have hrd:r≠d:=hne r (by rw[e];rfl);refine⟨tag',fun q=>if q=d then some .nil else β' q,h'.change (w':=w) (.refl _ _) (fun b hb=>⟨hb,rfl⟩) h'.lt (fun _ _ _=>⟨rfl,rfl⟩) (fun q hq hl=>?_) (fun q hq=>.inl (by simp only[if_neg (hne q hq)])) (fun q hq=>?_) (fun q=>?_) (fun q x hq q' hq'=>?_)⟩
     ·rw[aQ] at hl;split at hl
      ·rename_i e2;subst e2;omega
      ·rename_i e2;rw[aQ] at hl;refine⟨?_,u6 e2⟩;split at hl
       ·rename_i e3;subst e3;rw[e];exact hl
       ·exact hl
     ·rw[aQ,aQ];split
      ·rfl
      ·split
       ·rfl
       ·exact hq
     ·rw[aQ];split
      ·rename_i e2;subst e2;exact .inl ⟨by simp,rfl⟩
      ·rename_i e2;rw[aQ];split
       ·rename_i e3;subst e3;have hr:=h'.rows q;rw[e] at hr;obtain⟨b,o,v,k1,k2,k3,k4,k5⟩:=hr;refine⟨b,o,v,by simp only[if_neg e2];exact k1,k2,k3,?_,by rw[k5];simp[AV.width]⟩;have key:∀v fp,aX w (Imm tag') w0.heap.size v (.lst .u k0 []) fp->fp=[]->v=.slice none 0 0:=by
         intro v fp hp hfp;cases hp with
         |nil _ _ ad cap hn=>obtain rfl:=hn.2 rfl;obtain rfl:=hn.1 rfl;rfl
         |lst=>simp at hfp
        rw[key _ _ k4.lst_inv rfl];exact .slN d (by simp)
       ·refine(h'.rows q).mono (fun b hb=>⟨hb,rfl⟩) (fun b hb=>⟨hb,rfl⟩) (fun b hb=>hb) (by simp[e2]) fun x hx q' hq'=>.inl ?_;have:=hne q' (h'.wfr q x hx q' hq');simp only[if_neg this]
     ·have hin:∀p,(aB p ((del d σ.rows).map fun p=>(p.1,p.2.hush d))).isSome->(aB p (put d (.arr m []) (put r (.var (.sl d 0 0)) ((del d σ.rows).map fun p=>(p.1,p.2.hush d))))).isSome:=fun p hp=>by
       rw[aQ,aQ];split
       ·rfl
       ·split
        ·rfl
        ·exact hp
      rw[aQ] at hq;split at hq
      ·cases hq
      ·rw[aQ] at hq;split at hq
       ·cases hq;simp only[AV.ments,A5] at hq';subst hq';rw[aQ,u7 rfl];rfl
       ·exact hin _ (h'.wfr q x hq q' hq')
    ·exact h
   ·exact h
 |_=>exact h
def R.canE(h:R n w0 S0 σ a w){far:Bool}{k:Nat}(hd:d<1000000000)(hdn:n<=d)(hkn:k<n):R n w0 S0 (σ.canE far d k j (ik j (some (.var (σ.get k))))) a w:=by
 cases hc:ik j (some (.var (σ.get k))) with
 | sl q i m =>
   unfold St.canE;simp only;split
   ·exact h
   ·rename_i hrd';have hrd:q≠d:=fun e=>hrd' (.inl e);obtain⟨tag,β,h⟩:=h;obtain⟨tag',β',h',_,ht⟩:=h.forget d;have hdl:aB d ((del d σ.rows).map fun p=>(p.1,p.2.hush d))=none:=by rw[ce (Row.hush d),ee,u7 rfl];rfl
    exact h'.rename q d hd hrd hdl ht
 | lst f m xs =>
   unfold St.canE;split
   ·cases ‹_=_›
   ·rename_i m' e;cases e;unfold St.canEN;split
    ·rename_i cs e;obtain⟨tag,β,h⟩:=h;obtain⟨tag',β',h',hb,ht⟩:=h.forget d;have hold:aB k σ.env=some (.agg cs):=by
      rw[ce (fun x:AV=>x.hush d)] at e;cases hl:aB k σ.env with
      |none=>rw[hl] at e;cases e
      | some x =>
        rw[hl] at e;simp only[B9,Option.some.injEq,AV.hush] at e;split at e
        ·cases e
        ·rw[e]
     have hj:cs[j]?=some (.lst .u m []):=by
      have hc2:tJ cs j=.lst .u m []:=by
       rw[St.get,hold] at hc;exact hc
      rw[<-hc2];exact wl (by rw[hc2];simp)
     have hdr:aB d ((del d σ.rows).map fun p=>(p.1,p.2.hush d))=none:=by rw[ce (Row.hush d),ee,u7 rfl];rfl
     have hne:∀r,(aB r ((del d σ.rows).map fun p=>(p.1,p.2.hush d))).isSome->r≠d:=by rintro r hr rfl;rw[hdr] at hr;cases hr
     have hch:=h'.change (w':=w) (tag':=tag') (β':=fun r=>if r=d then some .nil else β' r) (rows':=put d (.arr m []) ((del d σ.rows).map fun p=>(p.1,p.2.hush d))) (.refl _ _) (fun b hb=>⟨hb,rfl⟩) h'.lt (fun _ _ _=>⟨rfl,rfl⟩)
      (fun r hr hl=>by
       have hn:=h.nn;have e:r≠d:=by omega
       rw[aQ,u6 e] at hl;exact⟨hl,u6 e⟩)
      (fun r hr=>.inl (by simp only[if_neg (hne r hr)]))
      (fun r hr=>by simp only[aQ,if_neg (hne r hr)];exact hr)
      (fun r=>by
       rw[aQ];split
       ·rename_i e;subst e;exact .inl ⟨by simp,rfl⟩
       ·rename_i e;refine(h'.rows r).mono (fun b hb=>⟨hb,rfl⟩) (fun b hb=>⟨hb,rfl⟩) (fun b hb=>hb) (by simp[e]) fun x hx q hq=>.inl ?_;have:=hne q (h'.wfr r x hx q hq);simp only[if_neg this])
      (fun r x hr q hq=>by
       rw[aQ] at hr;split at hr
       ·cases hr
       ·have:=h'.wfr r x hr q hq;rw[aQ,u6 (hne q this)];exact this)
     have hk:=(h'.env k _ e);have hcs:∀q∈aP cs,(aB q ((del d σ.rows).map fun p=>(p.1,p.2.hush d))).isSome:=fun q hq=>hk.2 q (by simpa[AV.ments] using hq);have hs:=hch.step hkn (v:=a.tmps.getD k undef) (x:=.agg (cs.set j (.sl d 0 0))) (hk.1.setNil hj (by simp) (fun q hq=>by simp only[if_neg (hne q (hcs q hq))])) (by
      intro r hr;rcases ic (by simpa[AV.ments] using hr) with h1|h1
      ·simp only[AV.ments,A5] at h1;subst h1;simp only[aQ,if_true,D8]
      ·rw[aQ];split
       ·rfl
       ·exact hcs _ h1)
     have ha:a.put (some k) (a.tmps.getD k undef)=a:=by
      simp only[Act.put];have:a.tmps.setIfInBounds k (a.tmps.getD k undef)=a.tmps:=by
       apply F0
       ·simp
       ·intro j h1 h2;rw[B6 (by simpa using h1)];split
        ·rename_i e;subst e;simp[h2]
        ·rfl
      rw[this]
     rw[ha] at hs;rw[eR];exact⟨_,_,hs⟩
    ·exact h
   ·exact h
 |_=>exact h
def R.canXA(h:R n w0 S0 σ a w){k:Nat}(hr:aB r σ.rows=some (.var (.agg cs)))(hj:cs[j]?=some (.sl q i m))(hx:aB q σ.rows=some (.arr k es)):
 R n w0 S0 ⟨σ.env,put r (.var (.agg (gU cs j (.lst .m k (dv (sub es i m)))))) (put q .dead σ.rows)⟩ a w:=by
 classical
 obtain⟨tag,β,h⟩:=h;have hrq:r≠q:=fun e=>by simp_all
 let tag':Nat->Tag:=fun b=>if tag b=.own q\/tag b=.uq q then .imm else tag b
 have hne:∀b,¬(tag b=.own q\/tag b=.uq q)->tag' b=tag b:=fun b hb=>u6 hb;have himm:∀b,Imm tag b->Imm tag' b:=by
  intro b hb;by_cases e:tag b=.own q\/tag b=.uq q
  ·exact .inl (u7 e)
  ·simp_all [Imm]
 have hlk:∀p,aB p (put r (.var (.agg (gU cs j (.lst .m k (dv (sub es i m)))))) (put q .dead σ.rows))=if p=r then some (.var (.agg (gU cs j (.lst .m k (dv (sub es i m)))))) else if p=q then some .dead else aB p σ.rows:=fun p=>by
  rw[aQ,aQ]
 refine⟨tag',fun p=>if p=q then none else β p,h.change (w':=w) (tag':=tag') (β':=fun p=>if p=q then none else β p) (.refl _ _) (fun b hb=>⟨himm b hb,rfl⟩)
  (fun b hb=>by
   by_cases e:tag b=.own q\/tag b=.uq q
   ·exact h.lt b (by grind)
   ·exact h.lt b (by simp_all))
  (fun b _ hb=>⟨hne b (by grind),rfl⟩)
  (fun p hp hl=>by
   rw[hlk] at hl;split at hl
   ·rename_i e;subst e;exact⟨by rw[hr];trivial,u6 hrq⟩
   ·split at hl
    ·exact hl.elim
    simp_all)
  (fun p _=>by
   grind)
  (fun p hp=>by
   grind)
  (fun p=>by
   rw[hlk];split
   ·rename_i e;subst e;have hr0:=h.rows p;rw[hr] at hr0;obtain⟨b,o,v,h1,⟨h2,h3,h4⟩,h5,h6,h7⟩:=hr0;refine⟨b,o,v,(u6 hrq).trans h1,⟨(hne b (by rw[h2];simp[hrq])).trans h2,h3,h4⟩,h5,?_,by rw[h7,eR];simp[AV.width]⟩;rw[eR];cases h6 with
    |p _ _ hp=>exact(aaw hp hj).elim
    | agg vs _ hs h1' hx' =>
      have hrep:=h.sl_m (tag':=tag') hx (hx' _ _ hj) himm (fun b hb=>u7 (.inl hb));refine .agg vs _ (by simpa using hs) h1' fun l x hl=>?_;rw[C5] at hl;split at hl
      ·rename_i e;subst e;split at hl
       ·cases hl;exact .p _ _ hrep
       ·cases hl
      ·refine(hx' _ _ hl).mono (fun b hb=>⟨himm b hb,rfl⟩) fun q' _=>?_
       grind
   ·split
    ·rename_i e;subst e;exact u7 rfl
    ·rename_i e;refine(h.rows p).mono (fun b hb=>⟨himm b hb,rfl⟩) (fun b hb=>⟨(hne b (by rw[hb];simp[e])).trans hb,rfl⟩) (fun b hb=>(hne b (by rw[hb];simp[e])).trans hb) (u6 e) fun x hx q' hq=>?_
     grind)
  (fun p x hp q' hq'=>by
   have hk:(aB q' σ.rows).isSome=true:=by
    rw[hlk] at hp;split at hp
    ·cases hp;simp only[AV.ments] at hq';rw[eR] at hq';rcases ic hq' with hq'|hq'
     ·simp[AV.ments] at hq'
     ·exact h.wfr r _ hr q' (by grind [AV.ments])
    ·split at hp
     ·cases hp
     ·exact h.wfr p x hp q' hq'
   grind)⟩
def Rep.nilM{β:Nat->Option Own}(h:Rep w S B β v (.lst .u m [])):Rep w S B β v (.lst .m m []):=by
 have key:∀{fp:List Nat},aX w S B v (.lst .u m []) fp->fp=[]->aX w S B v (.lst .m m []) []:=by
  intro fp h e;cases h with
  |nil _ _ ad cap h=>exact .nil .m m ad cap ⟨h.1,fun e=>by cases e⟩
  |lst _ _ b o len cap _ vs fps hl hc hf hu hv hx=>simp at e
 cases h with
 |p _ _ h=>exact .p _ _ (key h rfl)
def R.canXN(h:R n w0 S0 σ a w)(hr:aB r σ.rows=some (.var (.agg cs)))(hj:cs[j]?=some (.lst .u m [])):
 R n w0 S0 ⟨σ.env,put r (.var (.agg (gU cs j (.lst .m m [])))) σ.rows⟩ a w:=by
 obtain⟨tag,β,h⟩:=h;refine⟨tag,β,h.change (w':=w) (.refl _ _) (fun b hb=>⟨hb,rfl⟩) h.lt (fun _ _ _=>⟨rfl,rfl⟩) (fun p hp hl=>⟨?_,rfl⟩) (fun p hp=>.inl rfl) (fun p hp=>?_) (fun p=>?_) (fun p x hp q' hq'=>?_)⟩
 ·rw[aQ] at hl;split at hl
  ·rename_i e2;subst e2;rw[hr];trivial
  ·exact hl
 ·grind [aQ]
 ·rw[aQ];split
  ·rename_i e2;subst e2;have hr0:=h.rows p;rw[hr] at hr0;obtain⟨b,o,v,h1,h2,h5,h6,h7⟩:=hr0;refine⟨b,o,v,h1,h2,h5,?_,by rw[h7,eR];simp[AV.width]⟩;rw[eR];obtain⟨vs,rfl,hs,h1',hx'⟩:=h6.agg_inv;refine .agg vs _ (by simpa using hs) h1' fun l x hl=>?_;rw[C5] at hl;split at hl
   ·rename_i e;subst e;split at hl
    ·cases hl;exact(hx' _ _ hj).nilM
    ·cases hl
   ·exact hx' _ _ hl
  ·exact h.rows p
 ·have hk:(aB q' σ.rows).isSome=true:=by
   rw[aQ] at hp;split at hp
   ·cases hp;simp only[AV.ments] at hq';rw[eR] at hq';rcases ic hq' with hq'|hq'
    ·simp[AV.ments,aP] at hq'
    ·exact h.wfr r _ hr q' (by grind [AV.ments])
   ·exact h.wfr p x hp q' hq'
  grind [aQ]
def R.canX(h:R n w0 S0 σ a w)(r:Nat):R n w0 S0 (σ.canX r (aB r σ.rows)) a w:=by
 unfold St.canX;split
 ·rename_i q es e;obtain⟨tag,β,h⟩:=h;refine⟨tag,β,h.change (w':=w) (.refl _ _) (fun b hb=>⟨hb,rfl⟩) h.lt (fun _ _ _=>⟨rfl,rfl⟩) (fun p hp hl=>⟨?_,rfl⟩) (fun p hp=>.inl rfl) (fun p hp=>?_) (fun p=>?_) (fun p x hp q' hq'=>?_)⟩
  ·rw[aQ] at hl;split at hl
   ·rename_i e2;subst e2;rw[e];trivial
   ·exact hl
  ·grind [aQ]
  ·rw[aQ];split
   ·rename_i e2;subst e2;have hr:=h.rows p;rw[e] at hr;rcases hr with⟨h1,rfl⟩|⟨b,o,cap,vs,fps,h1,h2,h3,h4,h5,h6,h7⟩
    ·exact .inl ⟨h1,rfl⟩
    ·have hat:∀(j:Nat)(x:AV),(dv es)[j]?=some x->∃y,es[j]?=some y/\x=y.als:=fun j x hj=>by
      grind [jK]
     refine .inr ⟨b,o,cap,vs,fun _=>[],by rw[ig];exact h1,h2,by rw[ig];exact h3,fun j x hj=>?_,fun j x hj=>?_,?_,?_⟩
     ·grind
     ·obtain⟨y,hy,rfl⟩:=hat j x hj;exact(h5 j y hy).als
     ·rw[bj _ _ fun j _=>rfl];exact List.nodup_nil
     ·intro c hc;rw[bj _ _ fun j _=>rfl] at hc;cases hc
   ·exact h.rows p
  ·rw[aQ] at hp;split at hp
   ·cases hp
   ·rw[aQ];split
    ·rfl
    ·exact h.wfr p x hp q' hq'
 ·rename_i cs e;have key:∀(xs:List AV)(j:Nat),cs.drop j=xs->R n w0 S0 (σ.canXc r cs j xs) a w:=by
   intro xs;induction xs with
   |nil=>simp_all [St.canXc]
   | cons x xs ih =>
     intro j hp;have hx0:cs[j]?=some x:=by
      have:=congrArg (·[0]?) hp;simpa using this
     have hd':cs.drop (j+1)=xs:=by
      have:=congrArg (List.drop 1) hp;simpa[F3,F4] using this
     unfold St.canXc;split
     ·exact h
     ·rename_i j' q i m cs' e1;cases e1;unfold St.canXcr;split
      ·rename_i k es hx;exact h.canXA e hx0 hx
      ·exact h
     ·rename_i e1;cases e1;exact h.canXN e hx0
     simp_all
  simp_all
 ·exact h
def R.can1(h:R n w0 S0 σ a w){c:Can}(hd:c.low n=true):R n w0 S0 (σ.can1 c) a w:=by
 cases c with
 | f far d r j =>
   simp only[Can.low,A3,decide_eq_true_eq] at hd;exact h.canF hd.1 hd.2
 |w r=>exact h.canX r
 | e far d k j =>
   simp only[Can.low,A3,decide_eq_true_eq] at hd;exact h.canE hd.1.1 hd.1.2 hd.2
 | z d =>
   have hd:d<n:=by simpa[Can.low] using hd
   unfold St.can1;have hg:∀x,σ.get d=x->x≠.top->aB d σ.env=some x:=by
    intro x hx hne;simp only[St.get] at hx;cases e:aB d σ.env with
    |none=>simp_all
    |some y=>simp_all
   simp only;unfold St.canZ;split
   ·rename_i r i m e;unfold St.canZr;split
    ·rename_i q es hx;exact h.canZ hd (hg _ e (by simp)) hx
    ·exact h
   ·rename_i cs e;have hg2:=hg _ e (by simp);have key:∀(xs:List AV)(j:Nat),cs.drop j=xs->R n w0 S0 (σ.canZc d cs j xs) a w:=by
     intro xs;induction xs with
     |nil=>simp_all [St.canZc]
     | cons x xs ih =>
       intro j hp;have hx0:cs[j]?=some x:=by
        have:=congrArg (·[0]?) hp;simpa using this
       have hd':cs.drop (j+1)=xs:=by
        have:=congrArg (List.drop 1) hp;simpa[F3,F4] using this
       unfold St.canZc;split
       ·exact h
       ·rename_i j' r i m cs' e1;cases e1;unfold St.canZcr;split
        ·rename_i q es hx;exact h.canZA hd hg2 hx0 hx
        ·exact h
       simp_all
    simp_all
   ·exact h
 | r d =>
   have hd:d<n:=by simpa[Can.low] using hd
   unfold St.can1;have hg:∀x,σ.get d=x->x≠.top->aB d σ.env=some x:=by
    intro x hx hne;simp only[St.get] at hx;cases e:aB d σ.env with
    |none=>simp_all
    |some y=>simp_all
   simp only;unfold St.canW;split
   ·rename_i r i m e;exact h.canSr hd (hg _ e (by simp))
   ·rename_i m e;exact h.canNil hd (hg _ e (by simp))
   ·exact h
 |s d=>
 have hd:d<n:=by simpa[Can.low] using hd
 unfold St.can1;have hg:∀x,σ.get d=x->x≠.top->aB d σ.env=some x:=by
  intro x hx hne;simp only[St.get] at hx;cases e:aB d σ.env with
  |none=>simp_all
  |some y=>simp_all
 simp only;unfold St.canV;split
 ·rename_i r i m e;exact h.canSl hd (hg _ e (by simp))
 ·rename_i m e;exact h.canNil hd (hg _ e (by simp))
 ·exact h
theorem R.can:∀{ds:List Can}{σ:St},R n w0 S0 σ a w->ds.all (Can.low n)=true->R n w0 S0 (σ.can ds) a w
 |[],σ,h,_=>h
 | d :: ds, σ, h, hd => by
   rw[List.all_cons,A3] at hd;exact R.can (σ:=σ.can1 d) (h.can1 hd.1) hd.2
end Vs

