/-
  Part of the proof that FnProtection returns true at every input.
-/
import Derived.Test.YtfmhphgpijjejaaGreatWd
import Derived.Deep.Slices
import Derived.ChangeSame
import Derived.Test.YtfmhphgpijjejaaGreatWa
import Derived.Sort.Defs
import Derived.Sort.Statements
import Derived.Sort.AssemblyPlain
import Derived.Lib.BitFns
import Derived.Shelf.SlSortCmp.Whole1
import Derived.Shelf.SlSortCmp.WholeK
import Derived.Shelf.Sort.Plain
import Derived.Shelf.Slices.In.SortNone
import Derived.Laws.IdiomCopy
import Derived.Laws.NewBlocks
set_option linter.defProp false
set_option linter.unusedSimpArgs false
set_option linter.unusedVariables false
open List renaming getElem?_eq_some_iff -> A0, length_map -> A1, getElem?_eq_getElem -> A2, getElem?_map -> A5, range -> B7, map_eq_nil_iff -> B8, length_append -> C0, getElem?_append_right -> C1, getElem?_append_left -> C3, map_congr_left -> C6, append_assoc -> C7, all_eq_true -> C9, length_take -> D0, length_drop -> D3, take_of_length_le -> D8, map_map -> D9, length_mergeSort -> E0, getElem_mem -> E8, finRange -> E9, getElem_of_mem -> F3, nodup_nil -> F5, getElem?_take -> F6, getElem?_drop -> F7, getD_eq_getElem?_getD -> F8, replicate -> F9, length_eq_zero_iff -> G4, any_eq_true -> G5, ext_getElem -> G6, getElem?_cons_zero -> G7, getElem?_cons_succ -> G8, zipIdx_cons -> G9, mem_append -> H2, append_nil -> H3, drop_drop -> H7, mem_range -> H8, mem_of_getElem? -> I0, length_pos_iff -> I2, mapM_toArray -> I6, mem_map -> I7, any_eq_false -> I8, size_toArray -> J1, take_length -> J4, mem_flatMap -> J5, map_append -> J9, find?_cons -> K0, range_add -> K1, map_cons -> K2, map_take -> K3, map_drop -> K4, any_cons -> K5, length -> K8
open Nat renaming mul_le_mul_right -> A3, lt_of_lt_of_le -> A9, add_mul -> B0, le_of_ble_eq_true -> C2, zero_le -> C4, add_assoc -> C5, le_refl -> D7, zero_add -> F4, one_mul -> G1, lt_or_ge -> H1, div_lt_of_lt_mul -> H9, sub_mul -> I1, eq_zero_or_pos -> I3, sub_zero -> I5, le_trans -> I9, mul_comm -> J0, le_succ_of_le -> J2, zero_mul -> J3, div_eq_of_lt -> J7, strongRecOn -> J8, add_comm -> K6, le_of_lt -> K7, blt -> L0
open Array renaming getD_eq_getD_getElem? -> A6, ofFn -> B1, getElem?_eq_some_iff -> B2, getElem?_eq_getElem -> B4, getElem?_modify -> B6, getElem?_append_left -> B9, length_toList -> D5, replicate -> D6, getElem?_eq_none -> H0, size_ofFn -> H4, getElem?_toList -> H5, mem_of_getElem? -> H6, extract_size -> I4, ext -> J6, getD -> K9
open Bool renaming and_eq_true -> A7, false_eq_true -> A8, not_eq_true -> C8, not_eq_true' -> G0
open Option renaming map_eq_some_iff -> B3, bind_some -> D4, map_some -> F0, getD_some -> G2, bind_eq_some_iff -> G3
open Int renaming toNat -> B5
namespace Vs
open Go Go.RowKit
variable{P:Program}{n:Nat}{w0:World}{S0:Fx}{σ τ:St}{a:Act}{w w':World}{tag tag':Nat->Tag}{β β':Nat->Option Own}
variable{B:Nat}{x:AV}{S S':Nat->Prop}{v:Value}{fp:List Nat}
theorem jw:∀{cs:List AV}{j:Nat}{x:AV},fzL cs=true->cs[j]?=some x->x.fz=true
 |[],j,x,_,h=>by simp at h
 |c::cs,0,x,h,hx=>by simp_all [fzL]
 |c::cs,j+1,x,h,hx=>by simp[fzL] at h;exact jw h.2 (by simpa using hx)
theorem mO:∀{cs:List AV}{j:Nat}{x:AV},gf cs=true->cs[j]?=some x->x.ouB=true
 |[],j,x,_,h=>by simp at h
 |c::cs,0,x,h,hx=>by simp_all [gf]
 |c::cs,j+1,x,h,hx=>by simp[gf] at h;exact mO h.2 (by simpa using hx)
def aX.mono_fz(h:aX w S B v x fp)(hx:x.fz=true)
 (h1:∀b,S b->b<B->S' b/\w'.heap[b]?=w.heap[b]?):aX w' S' B v x fp:=by
 induction h with
 |top v=>exact .top v
 |sc v h=>exact .sc v h
 |nil f n ad cap h=>exact .nil f n ad cap h
 | lst f n b o len cap xs vs fps hl hc hf hu hv hxx ih =>
   cases f<;>simp[AV.fz] at hx;obtain⟨f1,f2⟩:=hf;obtain⟨g1,g2⟩:=h1 b f1 f2;exact .lst .o n b o len cap xs vs fps hl hc ⟨g1,f2⟩ (fun e=>by cases e) (fun j x hj=>⟨(hv j x hj).1,(hv j x hj).2.mono g2⟩) fun j x hj=>ih j x hj (jw hx hj)
 |agg vs cs fps h h0 hxx ih=>simp only[AV.fz] at hx;exact .agg vs cs fps h h0 fun j x hj=>ih j x hj (jw hx hj)
 |tup vs cs fps h hxx ih=>simp only[AV.fz] at hx;exact .tup vs cs fps h fun j x hj=>ih j x hj (jw hx hj)
 |fn f vs cs fps h hxx ih=>simp only[AV.fz] at hx;exact .fn f vs cs fps h fun j x hj=>ih j x hj (jw hx hj)
 |ub b=>exact .ub b
 | bp f b o off v x hb hv hxx ih =>
   cases f<;>simp[AV.fz] at hx;obtain⟨f1,f2⟩:=hb;obtain⟨g1,g2⟩:=h1 b f1 f2;exact .bp .o b o off v x ⟨g1,f2⟩ (hv.mono g2) (ih hx)
def aX.mono_ou(h:aX w S B v x fp)(hx:x.ouB=true)
 (h1:∀b,S b->b<B->S' b/\w'.heap[b]?=w.heap[b]?) (h2:∀b,S b->b∈fp->S' b/\w'.heap[b]?=w.heap[b]?):aX w' S' B v x fp:=by
 induction h with
 |top v=>exact .top v
 |sc v h=>exact .sc v h
 |nil f n ad cap h=>exact .nil f n ad cap h
 | lst f n b o len cap xs vs fps hl hc hf hu hv hxx ih =>
   cases f<;>simp[AV.ouB] at hx
   ·obtain⟨f1,f2⟩:=hf;obtain⟨g1,g2⟩:=h1 b f1 f2;exact .lst .o n b o len cap xs vs fps hl hc ⟨g1,f2⟩ (fun e=>by cases e) (fun j x hj=>⟨(hv j x hj).1,(hv j x hj).2.mono g2⟩) fun j x hj=>(hxx j x hj).mono_fz (jw hx hj) h1
   ·obtain⟨f1,f2⟩:=hf;obtain⟨g1,g2⟩:=h2 b f1 (by simp);refine .lst .u n b o len cap xs vs fps hl hc ⟨g1,f2⟩ (fun e=>(hu e).mono g2) (fun j x hj=>⟨(hv j x hj).1,(hv j x hj).2.mono g2⟩) fun j x hj=>ih j x hj (mO hx hj) fun c hS hc=>h2 c hS ?_
    grind [List.mem_append_right,be,List.getElem?_eq_some_iff]
 | agg vs cs fps h h0 hxx ih =>
   simp only[AV.ouB] at hx;exact .agg vs cs fps h h0 fun j x hj=>ih j x hj (mO hx hj) fun c hS hc=>h2 c hS (be.2 ⟨j,(A0.1 hj).1,hc⟩)
 |tup vs cs fps h hxx ih=>simp[AV.ouB] at hx
 |fn f vs cs fps h hxx ih=>simp[AV.ouB] at hx
 |ub b=>simp[AV.ouB] at hx
 |bp f b o off v x hb hv hxx ih=>simp[AV.ouB] at hx
def Rep.mono_fz(h:Rep w S B β v x)(hx:x.fz=true)
 (hs:∀b,S b->b<B->S' b/\w'.heap[b]?=w.heap[b]?) (hb:∀r∈x.ments,β' r=β r\/β' r=none):Rep w' S' B β' v x:=by
 induction h with
 |p v x h=>exact .p v x (h.mono_fz hx hs)
 |slB r i n b o sz cap len c h hc hn hl=>exact(hb r (by simp[AV.ments])).elim (fun e=>.slB r i n b o sz cap len c (e.trans h) hc hn hl) (fun e=>.slD r i n _ e rfl)
 |slE r i b o sz cap len p h hp=>exact(hb r (by simp[AV.ments])).elim (fun e=>.slE r i b o sz cap len p (e.trans h) hp) (fun e=>.slD r i 0 _ e rfl)
 |slN r h=>exact(hb r (by simp[AV.ments])).elim (fun e=>.slN r (e.trans h)) (fun e=>.slD r 0 0 _ e rfl)
 |slD r i n v h h1=>exact .slD r i n v ((hb r (by simp[AV.ments])).elim (fun e=>e.trans h) id) h1
 |ptB r i off b o sz cap len h=>exact(hb r (by simp[AV.ments])).elim (fun e=>.ptB r i off b o sz cap len (e.trans h)) (fun e=>.ptD r i off _ e rfl)
 |ptD r i off v h h1=>exact .ptD r i off v ((hb r (by simp[AV.ments])).elim (fun e=>e.trans h) id) h1
 |tg f n len a xs hl h=>simp[AV.fz] at hx
 |agg vs cs hsz h1 hxx ih=>simp only[AV.fz] at hx;exact .agg vs cs hsz h1 (fun j x hj=>ih j x hj (jw hx hj) fun r hr=>hb r (by grind [bF,AV.ments]))
 |tup vs cs hsz hxx ih=>simp only[AV.fz] at hx;exact .tup vs cs hsz (fun j x hj=>ih j x hj (jw hx hj) fun r hr=>hb r (by grind [bF,AV.ments]))
 |fn f vs cs hsz hxx ih=>simp only[AV.fz] at hx;exact .fn f vs cs hsz (fun j x hj=>ih j x hj (jw hx hj) fun r hr=>hb r (by grind [bF,AV.ments]))
def cJ.mono_fz{r:Nat}{row:Option Row}(h:cJ w tag B β r row)(hx:∀x,row=some x->x.fz=true)(hold:∀b,Imm tag b->b<B->Imm tag' b/\w'.heap[b]?=w.heap[b]?)
 (hown:∀b,tag b=.own r->tag' b=.own r/\w'.heap[b]?=w.heap[b]?) (huq:∀b,tag b=.uq r->tag' b=.uq r/\w'.heap[b]?=w.heap[b]?) (hr:β' r=β r)
 (hβ:∀x,row=some (.var x)->∀q∈x.ments,β' q=β q\/β' q=none):cJ w' tag' B β' r row:=by
 cases row with
 |none=>exact hr.trans h
 | some row => cases row with
   |dead=>exact hr.trans h
   | var x =>
     obtain⟨b,o,v,h1,⟨h2,h3,h4⟩,h5,h6,h7⟩:=h;exact⟨b,o,v,hr.trans h1,⟨(hown b h2).1,h3,h4.mono (hown b h2).2⟩,h5.mono (hown b h2).2,h6.mono_fz (hx _ rfl) hold (hβ x rfl),h7⟩
   | arr k es =>
     have hou:=hx _ rfl;simp only[Row.fz] at hou;rcases h with⟨h1,h2⟩|⟨b,o,cap,vs,fps,h1,⟨h2,h3,h4⟩,h5,h6,h7,h8,h9⟩
     ·exact .inl ⟨hr.trans h1,h2⟩
     ·exact .inr ⟨b,o,cap,vs,fps,hr.trans h1,⟨(hown b h2).1,h3,h4.mono (hown b h2).2⟩,h5,fun j x hj=>⟨(h6 j x hj).1,(h6 j x hj).2.mono (hown b h2).2⟩,
       fun j x hj=>(h7 j x hj).mono_ou (mO hou hj) hold fun c _ hc=>by
        have:=huq c (h9 c (be.2 ⟨j,(A0.1 hj).1,hc⟩));exact⟨.inr ⟨r,this.1⟩,this.2⟩,h8,fun c hc=>(huq c (h9 c hc)).1⟩
def Hs(S0:Fx):Prop:=∀b,Imm S0.t b->S0.t b=.imm/\b<S0.w.heap.size
end Vs



namespace Vs
open Go Go.RowKit
variable{P:Program}{n:Nat}{w0:World}{S0:Fx}{σ τ:St}{a:Act}{w w':World}{tag tag':Nat->Tag}{β β':Nat->Option Own}
def aX.cell{S:Nat->Prop}{B:Nat}{v:Value}{y x:AV}{fp:List Nat}{off:Nat}(h:aX w S B v y fp)(hp:part y off 1 false=some x)(hou:y.ouB=true)(hag:x.isAgg=false)(hw:x.width=1):
 ∃ u fx, v.cells[off]? = some u ∧ aX w S B u x fx ∧ (∀ c ∈ fx, c ∈ fp) ∧
   ∀ (x' : AV), x'.isAgg = false → x'.width = 1 → x'.cells = [x'] → ∃ z, Vs.setPart y off x' = some z ∧ z.width = y.width ∧
     ∀(w':World)(S':Nat->Prop),fp.Nodup->aX w' S' B u x' fx->(∀b,S b->b<B->S' b/\w'.heap[b]?=w.heap[b]?)->(∀b,S b->b∈fp->b∉fx->S' b/\w'.heap[b]?=w.heap[b]?)->aX w' S' B v z fp:=by
 have hcx:x.cells=[x]:=by cases x<;>simp_all [AV.width,AV.isAgg,AV.cells]
 simp only[part,A8,if_false] at hp;by_cases hy:y.isAgg=true
 ·cases y with
  | agg cs =>
    generalize hyy:AV.agg cs=yy at h;cases h with
    | agg vs cs' fps hs h1 hx =>
      cases hyy;simp only[AV.cells] at hp;have hlt:off<cs.length:=(A0.1 hp).1;refine⟨vs.getD off undef,fps off,by simp[Value.cells,K9,hs,hlt],hx off x hp,fun c hc=>be.2 ⟨off,hlt,hc⟩,fun x' a1 a2 a3=>?_⟩;have hfl:fill cs off x'=cs.set off x':=by
       unfold fill;rw[a3];simp only[List.length_singleton];rw[C7,List.set_eq_take_append_cons_drop,u7 hlt];rfl
      refine⟨.agg (cs.set off x'),?_,by simp[AV.width],fun w' S' hnd hu hs1 hs2=>?_⟩
      ·unfold Vs.setPart;rw[u7 (show(AV.agg cs).isAgg=true from rfl),a1,u6 (by simp),u7 (show off+1<=(AV.agg cs).width from hlt)];simp only[AV.cells,hfl]
      ·simp only[AV.ouB] at hou;have:=aX.agg (w:=w') (S:=S') (B:=B) vs (cs.set off x') fps (by simpa using hs) h1 fun j z hj=>by
        rw[List.getElem?_set] at hj;by_cases e:off=j
        ·subst e;rw[u7 rfl,u7 hlt] at hj;cases hj;exact hu
        ·rw[u6 e] at hj;have hjl:j<cs.length:=(A0.1 hj).1;refine(hx j z hj).mono_ou (mO hou hj) hs1 fun c hS hc=>hs2 c hS (be.2 ⟨j,hjl,hc⟩) fun hc'=>?_;exact(bR hnd).2 j off hjl hlt (Ne.symm e) c hc hc'
       simpa using this
    |top=>cases hyy
    |ub=>cases hyy
    |sc=>cases hyy
    |nil=>cases hyy
    |lst=>cases hyy
    |tup=>cases hyy
    |fn=>cases hyy
    |bp=>cases hyy
  |_=>simp[AV.isAgg] at hy
 ·simp only[C8] at hy;have hcy:y.cells=[y]:=by
   by_cases hw1:y.width=1
   ·cases y<;>simp_all [AV.width,AV.isAgg,AV.cells]
   ·have:y.cells=[]:=by cases y<;>simp_all [AV.width,AV.isAgg,AV.cells]
    rw[this] at hp;simp at hp
  rw[hcy] at hp;have h0:off=0:=by have:=(A0.1 hp).1;simpa using this
  subst h0;simp at hp;subst hp;obtain⟨h1,h2⟩:=h.one hag hw;refine⟨v,fp,by rw[h1];rfl,h,fun c hc=>hc,fun x' a1 a2 a3=>⟨x',?_,by rw[a2,hw],fun w' S' _ hu _ _=>hu⟩⟩;simp[Vs.setPart,hy,a1,hw]
end Vs





namespace Vs
open Go Go.RowKit
variable{P:Program}{n:Nat}{w0:World}{S0:Fx}{σ τ:St}{a:Act}{w w':World}{tag tag':Nat->Tag}{β β':Nat->Option Own}{H:World->Prop}[HS S0 H]
theorem ja{α:Type}(f:Nat->α)(k:Nat):∀l:List Nat,aB k (l.map fun j=>(j,f j))=if k∈l then some (f k) else none
 |[]=>by simp[aB]
 | j :: l => by
   simp only[K2,aB,ja f k l,List.mem_cons]
   grind
def RR.res(h:RR n w0 S0 σ a w tag β){lv lr:List Nat}(hok:σ.resOk lv lr):∃tag' β',RR n w0 S0 (σ.res lv lr) a w tag' β'/\
 ∀v x,Rep w (Imm tag) w0.heap.size β v x->(∀r∈x.ments,r∈lr)->Rep w (Imm tag') w0.heap.size β' v x:=by
 obtain⟨ho1,ho2,_⟩:=hok;let tag':Nat->Tag:=fun b=>match tag b with| .own r=>if r∈lr then .own r else .out| .uq r=>if r∈lr then .uq r else .imm|t=>t
 let β':Nat->Option Own:=fun r=>if r∈lr then β r else none
 have himm:∀b,Imm tag b->Imm tag' b/\w.heap[b]?=w.heap[b]?:=by
  intro b hb;refine⟨?_,rfl⟩;rcases hb with hb|⟨r,hb⟩
  ·left;simp only[tag',hb]
  ·by_cases e:r∈lr
   ·right;exact⟨r,by simp only[tag',hb,e,if_true]⟩
   ·left;simp only[tag',hb,e,if_false]
 have hβ:∀r,β' r=β r\/β' r=none:=by
  intro r;simp only[β'];by_cases e:r∈lr
  ·left;rw[u7 e]
  ·right;rw[u6 e]
 have hrow:∀r,aB r (σ.res lv lr).rows=if r∈lr then some ((σ.row r).getD .dead) else none:=fun r=>ja _ r lr
 have henv:∀k,aB k (σ.res lv lr).env=if k∈lv then some (σ.get k) else none:=fun k=>ja _ k lv
 refine⟨tag',β',⟨h.nn,h.frm,fun b hb ht=>?_,fun b hb=>?_,fun r hr hl=>?_,h.below,h.sz,h.nodef,h.s0lt,fun b hb=>h.lt b fun e=>hb (by simp only[tag',e]),fun b hb=>?_,fun k x hk=>?_,fun r=>?_,fun r x hr q hq=>?_⟩,fun v x hv hx=>hv.mono himm fun r hr=>.inl (by simp only[β',if_pos (hx r hr)])⟩
 ·obtain⟨k1,k2⟩:=h.keep b hb ht;refine⟨?_,k2⟩;simp only[tag',k1];rcases ht with e|e<;>rw[e]
 ·obtain⟨k1,k2⟩:=h.kimm b hb;exact⟨(himm b k1).1,k2⟩
 ·rw[hrow] at hl;by_cases e:r∈lr
  ·rw[u7 e] at hl;simp only[β',if_pos e];refine h.bk r hr ?_;show cR (σ.row r);cases hrw:σ.row r with
   |none=>rw[hrw] at hl;exact hl.elim
   |some row=>rw[hrw] at hl;exact hl
  ·rw[u6 e] at hl;exact hl.elim
 ·obtain⟨h1,h2⟩:=h.old b hb;have:tag' b=tag b:=by rcases h2 with e|e<;>simp only[tag',e]
  rw[this];exact⟨h1,h2⟩
 ·rw[henv] at hk;split at hk
  ·rename_i hkl;cases hk;refine⟨(h.get k).1.mono himm fun r _=>hβ r,fun r hr=>?_⟩;rw[hrow,u7 (ho1 k hkl r hr)];rfl
  ·cases hk
 ·rw[hrow];split
  ·rename_i hl;have hr:=h.rows r;have hrw:σ.row r=aB r σ.rows:=rfl;rw[hrw];have hb:β' r=β r:=by simp only[β',if_pos hl]
   cases e:aB r σ.rows with
   |none=>rw[e] at hr;exact hb.trans hr
   | some row =>
     rw[e] at hr;refine hr.mono himm (fun b hb=>⟨by simp only[tag',hb,hl,if_true],rfl⟩) (fun b hb=>by simp only[tag',hb,hl,if_true]) hb fun x _ q _=>hβ q
  ·rename_i hl;simp only[cJ,β',if_neg hl]
 ·rw[hrow] at hr;split at hr
  ·rename_i hl;cases hr':σ.row r with
   |none=>rw[hr'] at hr;cases hr
   | some row =>
     rw[hr'] at hr;simp only[G2,Option.some.injEq] at hr;subst hr;have:=ho2 r hl q (by rw[hr'];exact hq);rw[hrow,u7 this];rfl
  ·cases hr
def R.res(h:R n w0 S0 σ a w){lv lr:List Nat}(hok:σ.resOk lv lr):R n w0 S0 (σ.res lv lr) a w:=by
 obtain⟨tag,β,h⟩:=h;obtain⟨tag',β',h',_⟩:=h.res hok;exact⟨tag',β',h'⟩
theorem xU{g:Nat->AV}{k:Nat}{x:AV}:∀lv:List Nat,aB k (lv.map fun j=>(j,g j))=some x->x=g k
 |[],h=>by simp[aB] at h
 | j :: lv, h => by
   simp only[K2,aB] at h;split at h
   ·simp_all
   ·exact xU lv h
def R.rb(h:R n w0 S0 σ a w)(lv:List Nat):∃S1,Hs S1/\HS S1 H/\R n w S1 (σ.rb lv) a w/\∀τ a' w',R n w S1 τ a' w'->R n w0 S0 τ.scal a' w':=by
 classical
 obtain⟨tag,β,h⟩:=h;have hi:∀b,Imm tag b->tag b≠.out:=fun b hb=>by rcases hb with e|⟨r,e⟩<;>simp[e]
 let tg:Nat->Tag:=fun b=>if tag b≠.out then .imm else .out
 have htg:∀b,Imm tg b->tag b≠.out:=fun b hb=>by
  grind [Imm]
 refine⟨⟨fun b=>tag b≠.out,w,tg,fun _=>none⟩,fun b hb=>⟨by simp[tg,htg b hb],h.lt b (htg b hb)⟩,⟨fun W hW=>h.hyp fun b hb=>hW b (.inl (by simp[tg,hi b hb]))⟩,⟨tg,fun _=>none,h.nn,.refl _ _,fun b _ _=>⟨rfl,rfl⟩,fun b hb=>⟨hb,rfl⟩,fun r _ hl=>by simp_all,.refl _ _,h.sz,h.nodef,h.lt,fun b hb=>?_,fun b hb=>?_,fun k x hk=>?_,fun r=>?_,fun r x hr=>by simp[St.rb,aB] at hr⟩,?_⟩
 ·refine h.lt b fun e=>hb ?_;simp[tg,e]
 ·grind
 ·have hx:x=snp σ.row 4 (σ.get k):=xU lv hk;subst hx;have hr:=h.snp (S:=fun b=>tag b≠.out) hi 4 _ _ (h.get k).1 (.inr fun b hb=>hb);refine⟨.p _ _ (hr.mono fun b hb=>⟨.inl (by simp[tg,hb]),rfl⟩),fun q hq=>by rw[hr.ments_nil] at hq;cases hq⟩
 ·simp[St.rb,aB,cJ]
 ·rintro τ a' w' ⟨tag1,β1,h1⟩;have hblk:∀b,tag b≠.out->w'.heap[b]?=w.heap[b]?:=fun b hb=>h1.below.block b (h.lt b hb);refine⟨tag,fun _=>none,h1.nn,h.frm.trans (h1.below.mono (C4 _)),fun b hb ht=>?_,fun b hb=>?_,fun r _ hl=>by simp[St.scal,aB,cR] at hl,h.below.trans (h1.below.mono h.below.size),h1.sz,h1.nodef,h.s0lt,
   fun b hb=>A9 (h.lt b hb) h1.below.size,h.old,fun k x hk=>?_,fun r=>by simp[St.scal,aB,cJ],fun r x hr=>by simp[St.scal,aB] at hr⟩
  ·obtain⟨k1,k2⟩:=h.keep b hb ht;exact⟨k1,(h1.below.block b (A9 hb h.frm.size)).trans k2⟩
  ·obtain⟨k1,k2⟩:=h.kimm b hb
   simp_all
  ·simp only[St.scal] at hk;rw[ce (fun x:AV=>x.scal)] at hk;cases hl:aB k τ.env with
   |none=>rw[hl] at hk;cases hk
   | some y =>
     rw[hl] at hk;simp only[F0,Option.some.injEq] at hk;subst hk;have hy:=(h1.env k y hl).1;generalize a'.tmps.getD k undef=vv at hy⊢;cases y with
     |sc v=>cases hy with|p v x hp=>cases hp with|sc v hv=>exact⟨.p _ _ (.sc _ hv),fun q hq=>by simp[AV.scal,AV.ments] at hq⟩
     |_=>exact⟨.p _ _ (.top _),fun q hq=>by simp[AV.scal,AV.ments] at hq⟩
def acw(ops:Array Oper):List (List Nat):=ops.toList.foldl (fun bs o=>bs++[o.after.toList.foldl (fun q e=>if Region.binds .any e then(if q.contains e.on then q else e.on::q)++((bs.getD e.on []).filter fun i=>!(i==e.on)&&!q.contains i) else q) []]) []
def bS(P:Program)(n:Nat):Code->au->Bool
 | .skip,.skip=>true
 | .region _ ops false,.reg aops can=>bZ P n ops ops.toList aops&&can.all (Can.low n)
 | .region _ ops true,.drw aops can=>bZ P n ops ops.toList aops&&iv ops (acw ops)&&(ta aops (acw ops)||xh aops (acw ops))&&can.all (Can.low n)
 | .seq a b,.seq x y=>bS P n a x&&bS P n b y
 | .seq a b,.seqr x _ _ y=>bS P n a x&&bS P n b y
 | .seq a b,.seqb x _ y=>bS P n a x&&bS P n b y
 | .seq (.seq a b) c,.seqa x y _ _ z=>bS P n a x&&bS P n b y&&bS P n c z
 | .cond c a b,.cond x y z=>cF c x&&bS P n a y&&bS P n b z
 | .block id a,.blk id' x=>id==id'&&bS P n a x
 | .loop a,.loop x=>bS P n a x
 | .exit id,.exit id'=>id==id'
 | .ret,.ret=>true
 |_,_=>false
def noH:au->Bool
 | .seq a b=>noH a&&noH b
 | .seqr a _ _ b=>noH a&&noH b
 | .seqa x a _ _ b=>noH x&&noH a&&noH b
 | .seqb a _ _=>noH a
 | .cond _ a b=>noH a&&noH b
 | .blk _ a=>noH a
 | .loop a=>noH a
 |_=>true
def vQ{H:Prop}{a b:au}{c:au}(h:H\/noH c=true)(e:noH c=(noH a&&noH b)):(H\/noH a=true)/\(H\/noH b=true):=by
 grind
def QQ(n:Nat)(w0:World)(S0:Fx)(Q:Ex->St->Prop):Exit->Act->World->Prop
 | .normal,a,w=>∃τ,Q .nrm τ/\R n w0 S0 τ a w
 | .exit id,a,w=>∃τ,Q (.ex id) τ/\R n w0 S0 τ a w
 | .ret,a,w=>∃τ,Q .ret τ/\R n w0 S0 τ a w
 |_,_,_=>False
def oO{p:Nat->Prop}(h:∃m,p m):∃m,p m/\∀k,p k->m<=k:=by
 obtain⟨m,hm⟩:=h;induction m using J8 with
 | _ m ih =>
   grind
def qZ(bH:P.follows .mixedOrders=true):∀{c:Code}{ac:au}{Q:Ex->St->Prop}{σ:St}{a:Act}{w:World},bS P n c ac=true->(Hs S0\/noH ac=true)->AWP (OkT H P) ac Q σ->R n w0 S0 σ a w->c.wp P (QQ n w0 S0 Q) a w:=by
 intro c;induction c generalizing w0 S0 with
 | skip =>
   intro ac Q σ a w hm hh h hR;cases ac<;>simp[bS] at hm;exact wp_skip ⟨σ,h,hR⟩
 | region id ops draw =>
   intro ac Q σ a w hm hh h hR;cases ac<;>cases draw<;>simp only[bS,A7,A8,C9,decide_eq_true_eq] at hm
   ·exact Gu hm.1 hR h fun τ a w hK hR'=>⟨_,hK,hR'.can (C9.2 hm.2)⟩
   ·exact GK bH hm.1.1.1 hm.1.1.2 hm.1.2 hR h fun τ a w hK hR'=>⟨_,hK,hR'.can (C9.2 hm.2)⟩
 | seq x y ihx ihy =>
   intro ac Q σ a w hm hh h hR;cases ac<;>(try simp only[bS,A7,A8] at hm)
   case seqa xa ya lv lr zb=>
    cases x<;>simp only[bS,A7,A8] at hm;rename_i p q;obtain⟨⟨m1,m2⟩,m3⟩:=hm;obtain⟨hh1,hh2⟩:=vQ (a:=.seq xa ya) (b:=zb) hh (by simp[noH]);have e:(thn (AWP (OkT H P) ya (thn (fun τ=>τ.resOk lv lr/\AWP (OkT H P) zb Q (τ.res lv lr)) Q)) Q)=
     thn (AWP (OkT H P) ya (thn (fun τ=>τ.resOk lv lr/\AWP (OkT H P) zb Q (τ.res lv lr)) Q)) (thn (fun τ=>τ.resOk lv lr/\AWP (OkT H P) zb Q (τ.res lv lr)) Q):=by
     funext e τ;cases e<;>rfl
    simp only[AWP] at h;rw[e] at h;have hx:=ihx (ac:=.seq xa ya) (Q:=thn (fun τ=>τ.resOk lv lr/\AWP (OkT H P) zb Q (τ.res lv lr)) Q) (by simp_all [Bool.and_self,bS]) hh1 (by simp_all [AWP]) hR;refine wp_seq (wp_mono hx fun e a w hq=>?_);cases e with
    |normal=>obtain⟨τ,h1,h2⟩:=hq;exact ihy m3 hh2 h1.2 (h2.res h1.1)
    |exit id=>obtain⟨τ,h1,h2⟩:=hq;exact⟨τ,h1,h2⟩
    |ret=>obtain⟨τ,h1,h2⟩:=hq;exact⟨τ,h1,h2⟩
    |goto l=>exact hq.elim
    |panic c=>exact hq.elim
    |outgrown=>exact hq.elim
   case seqr xa lv lr yb=>
    obtain⟨hh1,hh2⟩:=vQ (a:=xa) (b:=yb) hh (by simp[noH]);simp only[AWP] at h;refine wp_seq (wp_mono (ihx hm.1 hh1 h hR) fun e a w hq=>?_);cases e with
    |normal=>obtain⟨τ,h1,h2⟩:=hq;exact ihy hm.2 hh2 h1.2 (h2.res h1.1)
    |exit id=>obtain⟨τ,h1,h2⟩:=hq;exact⟨τ,h1,h2⟩
    |ret=>obtain⟨τ,h1,h2⟩:=hq;exact⟨τ,h1,h2⟩
    |goto l=>exact hq.elim
    |panic c=>exact hq.elim
    |outgrown=>exact hq.elim
   case seqb xa lv yb=>
    refine wp_seq (wp_mono (ihx hm.1 (hh.imp_right fun h=>by simp_all [noH]) (by simpa only[AWP] using h) hR) fun e a w hq=>?_);cases e with
    | normal =>
      obtain⟨τ,h1,h2⟩:=hq;obtain⟨S1,s1,s4,s2,s3⟩:=h2.rb (H:=H) lv;refine wp_mono (ihy hm.2 (.inl s1) h1 s2) fun e a' w' hq=>?_;cases e with
      |normal=>obtain⟨τ,h1,h2⟩:=hq;exact⟨_,h1,s3 _ _ _ h2⟩
      |exit id=>obtain⟨τ,h1,h2⟩:=hq;exact⟨_,h1,s3 _ _ _ h2⟩
      |ret=>obtain⟨τ,h1,h2⟩:=hq;exact⟨_,h1,s3 _ _ _ h2⟩
      |goto l=>exact hq.elim
      |panic c=>exact hq.elim
      |outgrown=>exact hq.elim
    |exit id=>obtain⟨τ,h1,h2⟩:=hq;exact⟨τ,h1,h2⟩
    |ret=>obtain⟨τ,h1,h2⟩:=hq;exact⟨τ,h1,h2⟩
    |goto l=>exact hq.elim
    |panic c=>exact hq.elim
    |outgrown=>exact hq.elim
   case seq xa yb=>
    obtain⟨hh1,hh2⟩:=vQ (a:=xa) (b:=yb) hh (by simp[noH]);refine wp_seq (wp_mono (ihx hm.1 hh1 h hR) fun e a w hq=>?_);cases e with
    |normal=>obtain⟨τ,h1,h2⟩:=hq;exact ihy hm.2 hh2 h1 h2
    |exit id=>obtain⟨τ,h1,h2⟩:=hq;exact⟨τ,h1,h2⟩
    |ret=>obtain⟨τ,h1,h2⟩:=hq;exact⟨τ,h1,h2⟩
    |goto l=>exact hq.elim
    |panic c=>exact hq.elim
    |outgrown=>exact hq.elim
 | cond c x y ihx ihy =>
   intro ac Q σ a w hm hh h hR;cases ac<;>simp only[bS,A7,A8] at hm;rename_i xa yb;obtain⟨hh1,hh2⟩:=vQ (a:=xa) (b:=yb) hh (by simp[noH]);simp only[AWP,tst] at h;obtain⟨tag,β,hRR⟩:=id hR;have hx:=(hRR.gx hm.1.1).1;split at h
   ·rename_i t e;rw[e] at hx;exact wp_cond_split hx.bool_inv (fun ht=>ihx hm.1.2 hh1 (h.1 ht) hR) fun ht=>ihy hm.2 hh2 (h.2 ht) hR
   ·rename_i e;rw[e] at hx;obtain⟨t,ht⟩:=hx.ub_inv
    grind [wp_cond_split]
   ·exact h.elim
 | block id x ihx =>
   intro ac Q σ a w hm hh h hR;cases ac<;>simp only[bS,A7,A8,beq_iff_eq] at hm;obtain⟨rfl,hm⟩:=hm;refine wp_block (wp_mono (ihx hm (by simpa[noH] using hh) h hR) fun e a w hq=>?_);cases e with
   |normal=>obtain⟨τ,h1,h2⟩:=hq;exact⟨τ,h1,h2⟩
   | exit j =>
     obtain⟨τ,h1,h2⟩:=hq;simp only[inb] at h1;simp only[Exit.inBlock];split
     ·rename_i e;rw[u7 e] at h1;exact⟨τ,h1,h2⟩
     ·rename_i e;rw[u6 e] at h1;exact⟨τ,h1,h2⟩
   |ret=>obtain⟨τ,h1,h2⟩:=hq;exact⟨τ,h1,h2⟩
   |goto l=>exact hq.elim
   |panic c=>exact hq.elim
   |outgrown=>exact hq.elim
 | loop x ihx =>
   intro ac Q σ a w hm hh h hR;cases ac<;>simp only[bS,A8] at hm;simp only[AWP] at h;obtain⟨lv,lr,I,μ,h1,h2,h3⟩:=h;let p:Act->World->Nat->Prop:=fun a w m=>∃τ,I τ/\R n w0 S0 τ a w/\μ τ=m;refine wp_loop (fun a w=>∃m,p a w m) (fun a w=>open Classical in if h:∃m,p a w m then Classical.choose (oO h) else 0) ⟨_,_,h2,hR.res h1,rfl⟩ ?_;intro a w hI;have hI':=hI;simp only[dif_pos hI];obtain⟨hp,hmin⟩:=Classical.choose_spec (oO hI);generalize Classical.choose (oO hI)=m at hp hmin;obtain⟨τ,i1,i2,i3⟩:=hp;refine wp_mono (ihx hm (by simpa[noH] using hh) (h3 τ i1) i2) fun e a' w' hq=>?_;cases e with
   | normal =>
     obtain⟨τ',⟨j1,j2,j3⟩,j4⟩:=hq;have hI2:∃m,p a' w' m:=⟨_,_,j2,j4.res j1,rfl⟩;refine⟨hI2,?_⟩;simp only[dif_pos hI2];obtain⟨_,hmin2⟩:=Classical.choose_spec (oO hI2);have:=hmin2 _ ⟨_,j2,j4.res j1,rfl⟩;omega
   |exit id=>obtain⟨τ,h1,h2⟩:=hq;exact⟨τ,h1,h2⟩
   |ret=>obtain⟨τ,h1,h2⟩:=hq;exact⟨τ,h1,h2⟩
   |goto l=>exact hq.elim
   |panic c=>exact hq.elim
   |outgrown=>exact hq.elim
 | exit id =>
   intro ac Q σ a w hm hh h hR;cases ac<;>simp only[bS,A8,beq_iff_eq] at hm;subst hm;exact wp_exit ⟨σ,h,hR⟩
 | ret =>
   intro ac Q σ a w hm hh h hR;cases ac<;>simp[bS] at hm;exact wp_ret ⟨σ,h,hR⟩
 |rangeFunc f ps asn body ih1 ih2=>simp_all [bS]
 |scope body ih=>simp_all [bS]
 |label l=>simp_all [bS]
 |goto l=>simp_all [bS]
 |refuse y=>simp_all [bS]
def MQ(P:Program):ResultVar->RV->Bool
 | .tmp t,.t k=>t==k
 | .cell t ty,.c k s ag=>t==k&&ly P ty s&&oJ P ty ag
 |_,_=>false
def uO(P:Program):List ResultVar->List RV->Bool
 |[],[]=>true
 |x::xs,y::ys=>MQ P x y&&uO P xs ys
 |_,_=>false
def LN(h:RR n w0 S0 σ a w tag β){x:ResultVar}{y:RV}(hm:MQ P x y=true){z:AV}(hz:y.val σ=some z):
 ∃v,(match x with| .tmp t=>pure (a.tmps.getD t undef)| .cell t ty=>do loadVar ty (<-asAddr (a.tmps.getD t undef)):Sem Value).run P w=.ok v w/\Rep w (Imm tag) w0.heap.size β v z:=by
 cases x with
 | tmp t =>
   cases y<;>simp[MQ] at hm;subst hm;simp only[RV.val,Option.some.injEq] at hz;subst hz;exact⟨_,rfl,(h.get t).1⟩
 | cell t ty =>
   cases y with
   |t k=>simp[MQ] at hm
   | c k s ag =>
     simp only[MQ,A7,beq_iff_eq] at hm;obtain⟨⟨rfl,h1⟩,h2⟩:=hm;simp only[RV.val] at hz;split at hz
     ·rename_i r e;split at hz
      ·rename_i y hy;have hr:=(h.get t).1;rw[e] at hr;obtain⟨b,p,v,hb,_,hva,hrv,hwd⟩:=h.var hy;obtain⟨b',o',sz',cap',len',hb',hv⟩:=h.pt_inv (by rw[hy];trivial) hr
       grind [uz,Instr.loadAt,Instr.sureAddr,asAddr]
      ·cases hz
     ·cases hz
theorem ot(h:RR n w0 S0 σ a w tag β):∀{xs:List ResultVar}{ys:List RV}{zs:List AV},uO P xs ys=true->RVs.val σ ys=some zs->
 ∃vs:List Value,(xs.mapM fun| .tmp t=>pure (a.tmps.getD t undef)| .cell t ty=>do loadVar ty (<-asAddr (a.tmps.getD t undef)):Sem (List Value)).run P w=.ok vs w/\vs.length=zs.length/\∀(j:Nat)(z:AV),zs[j]?=some z->∃v,vs[j]?=some v/\Rep w (Imm tag) w0.heap.size β v z
 | [], [], zs, _, hz => by
   simp[RVs.val] at hz;subst hz;exact⟨[],by simp,rfl,by simp⟩
 | x :: xs, y :: ys, zs, hm, hz => by
   simp only[uO,A7] at hm;simp only[RVs.val] at hz;split at hz
   ·rename_i z zs' e1 e2;cases hz;obtain⟨v,h1,h2⟩:=LN h hm.1 e1;obtain⟨vs,h3,h4,h5⟩:=ot h hm.2 e2;refine⟨v::vs,?_,by simp[h4],fun j z hj=>?_⟩
    ·simp_all
    grind
   ·cases hz
 |[],_::_,_,hm,_=>by simp[uO] at hm
 |_::_,[],_,hm,_=>by simp[uO] at hm
def yo{zs:List AV}{vs:List Value}{S:Nat->Prop}{B:Nat}(hl:vs.length=zs.length)(h:∀(j:Nat)(z:AV),zs[j]?=some z->∃v,vs[j]?=some v/\Rep w S B β v z):
 Rep w S B β (if h:vs.toArray.size=1 then vs.toArray[0] else .tuple vs.toArray) (ir zs)/\(ir zs).ments=aP zs:=by
 match zs,vs,hl with
 | [z], [v], _ =>
   obtain⟨u,hu,hr⟩:=h 0 z rfl
   simp_all [ir,aP]
 |[],[],_=>exact⟨.tup _ _ rfl (by simp),by simp[ir,AV.ments]⟩
 | z :: z' :: zs, v :: v' :: vs, hl =>
   refine⟨?_,by simp[ir,AV.ments]⟩;rw[dif_neg (by simp)];refine .tup _ _ (by simpa using hl) fun j x hj=>?_;obtain⟨u,hu,hr⟩:=h j x hj
   simp_all
def ba(P:Program)(f k:Nat)(A:au)(V:List RV):Bool:=match P.funcs[f]? with
 |some fn=> !(fn.name== "runtime.NumGoroutine")&&decide (k<=fn.ntmps)&&decide (fn.ntmps<=1000000000)&&uO P fn.results.toList V&&(match fn.body with|some c=>bS P fn.ntmps c A|none=>false)
 |none=>false
theorem mb(k:Nat):∀(args:List AV)(i:Nat),aB k (St.start.go i args)=if i<=k then args[k-i]? else none
 |[],i=>by simp[St.start.go,aB]
 | x :: args, i => by
   simp only[St.start.go,aB,mb k args (i+1)]
   grind
def Ay(bH:P.follows .mixedOrders=true){f k:Nat}{A:au}{V:List RV}{args:List AV}{res:AV}(hm:ba P f k A V=true)(hl:args.length=k){H:World->Prop}(h:WU (OkT H P) A V args res):OkR H P f args res:=by
 classical
 unfold ba at hm;split at hm
 ·rename_i fn hf;split at hm
  ·rename_i c hc;simp only[A7,G0,decide_eq_true_eq] at hm;obtain⟨⟨⟨⟨m1,m2⟩,m5⟩,m3⟩,m4⟩:=hm;refine⟨⟨fn,hf,by rw[hc];rfl,m1⟩,fun w S vs hS hvs hat hH=>?_⟩;refine calls_of_wp hf hc ?_;let tg:Nat->Tag:=fun b=>if S b then .imm else .out
   haveI:HS ⟨S,w,tg,fun _=>none⟩ H:=⟨fun W hW=>hH W fun b hb=>hW b (.inl (by simp[tg,hb]))⟩
   have hR:R fn.ntmps w ⟨S,w,tg,fun _=>none⟩ (St.start args) {tmps:=vs++D6 (fn.ntmps-vs.size) undef,defers:=[]} w:=by
    refine⟨tg,fun _=>none,m5,.refl _ _,fun b _ _=>⟨rfl,rfl⟩,fun b hb=>⟨hb,rfl⟩,fun r _ hl=>by simp[St.start,aB,cR] at hl,.refl _ _,by simp;omega,rfl,hS,fun b hb=>?_,fun b hb=>?_,fun j x hj=>?_,fun r=>?_,fun r x hr=>by simp[St.start,aB] at hr⟩
    ·by_cases e:S b
     ·exact hS b e
     ·simp[tg,e] at hb
    ·by_cases e:S b<;>simp[tg,e]
    ·simp only[St.start,mb,C4,if_true,I5] at hj;have hr:=hat j x hj;have hjl:j<vs.size:=by rw[hvs];exact(A0.1 hj).1
     have e:(vs++D6 (fn.ntmps-vs.size) undef).getD j undef=vs.getD j undef:=by
      rw[A6,A6,B9 hjl]
     refine⟨?_,fun q hq=>by rw[hr.ments_nil] at hq;cases hq⟩;dsimp only;rw[e];exact .p _ _ (hr.mono fun b hb=>⟨.inl (by simp[tg,hb]),rfl⟩)
    ·simp[St.start,aB,cJ]
   refine wp_mono (qZ bH m4 (.inl fun b hb=>by
    by_cases e:S b
    ·exact⟨by simp[tg,e],hS b e⟩
    ·simp[Imm,tg,e] at hb) h hR) fun e a' w' hq=>?_
   have fin:∀τ,(∃xs,RVs.val τ V=some xs/\(aP xs).Nodup/\lift τ.row 3 (ir xs)=res)->R fn.ntmps w ⟨S,w,tg,fun _=>none⟩ τ a' w'->
    a'.defers = [] ∧ ∃ v, (results fn a'.tmps).run P w' = .ok v w' ∧ ∃ u fp S', (Ending.returned v) = .returned u ∧ Below w.heap.size w w' ∧ fp.Nodup ∧
      (∀b,S' b->b<w'.heap.size/\(b<w.heap.size->S b))/\aX w' S' w.heap.size u res fp:=by
    rintro τ ⟨xs,x1,x2,x3⟩ ⟨tag,β,hRR⟩;refine⟨hRR.nodef,?_⟩;obtain⟨vs',v1,v2,v3⟩:=ot hRR m3 x1;obtain⟨t1,t2⟩:=yo v2 v3;refine⟨if h:vs'.toArray.size=1 then vs'.toArray[0] else .tuple vs'.toArray,?_,?_⟩
    ·unfold results;have e:fn.results=fn.results.toList.toArray:=by simp
     rw[e,I6];simp only[Sem.run_bind,Sem.run_map];exact congrArg (fun r:Result (List Value)=>(r.andThen fun a w'=>Result.ok a.toArray w').andThen fun a w'=>(pure (if h:a.size=1 then a[0] else Value.tuple a):Sem Value).run P w') v1
    ·obtain⟨fp,l1,l2,l3⟩:=hRR.lift (rs:=(ir xs).ments) (d:=0) 3 (ir xs) _ t1 (by rw[t2];exact x2) (fun r hr=>hr);rw[x3] at l1;refine⟨_,fp,_,rfl,hRR.below,l2,fun b hb=>?_,l1⟩;have hne:tag b≠.out:=by
      refine mT (rs:=(ir xs).ments) (d:=0) ?_;rcases hb with e|⟨r,e⟩<;>rw[e]<;>simp
     refine⟨hRR.lt b hne,fun hlt=>?_⟩;have:=(hRR.old b hlt);exact this.1.1 (this.2.resolve_right hne)
   cases e with
   |normal=>obtain⟨τ,h1,h2⟩:=hq;exact fin τ h1 h2
   |ret=>obtain⟨τ,h1,h2⟩:=hq;exact fin τ h1 h2
   |exit id=>obtain⟨τ,h1,h2⟩:=hq;exact h1.elim
   |goto l=>exact hq.elim
   |panic c=>exact hq.elim
   |outgrown=>exact hq.elim
  ·simp at hm
 ·cases hm
def yt(rs:List RV)(lr:List Nat)(res:AV)(outs:List (Nat×Row)):Ex->St->Prop
 | .nrm,σ| .ret,σ=>∃xs,RVs.val σ rs=some xs/\ir xs=res/\σ.resOk [] lr/\(∀r∈res.ments,r∈lr)/\(σ.res [] lr).rows=outs
 |_,_=>False
def nl(bH:P.follows .mixedOrders=true){f k:Nat}{A:au}{V:List RV}{lr:List Nat}{args:List AV}{ins:List (Nat×Row)}{res:AV}{outs:List (Nat×Row)}
 (hm:ba P f k A V=true) (hn:noH A=true) (hl:args.length=k) {H:World->Prop} (h:AWP (OkT H P) A (yt V lr res outs) ⟨St.start.go 0 args,ins⟩):Hl H P f args ins res outs:=by
 classical
 unfold ba at hm;split at hm
 ·rename_i fn hf;split at hm
  ·rename_i c hc;simp only[A7,G0,decide_eq_true_eq] at hm;obtain⟨⟨⟨⟨m1,m2⟩,m5⟩,m3⟩,m4⟩:=hm;refine⟨⟨fn,hf,by rw[hc];rfl,m1⟩,fun w0 w tag β vs hbel hold hlt hrows hwf hvs hat hH=>?_⟩;refine calls_of_wp hf hc ?_;let F:Fx:=⟨fun b=>b<w0.heap.size/\tag b=.imm,w,tag,β⟩
   haveI:HS F H:=⟨hH⟩
   have hR:R fn.ntmps w0 F ⟨St.start.go 0 args,ins⟩ {tmps:=vs++D6 (fn.ntmps-vs.size) undef,defers:=[]} w:=by
    refine⟨tag,β,m5,.refl _ _,fun b _ _=>⟨rfl,rfl⟩,fun b hb=>⟨hb,rfl⟩,fun r _ _=>rfl,hbel,by simp;omega,rfl,fun b hb=>hb.1,hlt,fun b hb=>⟨⟨fun e=>⟨hb,e⟩,fun e=>e.2⟩,hold b hb⟩,fun j x hj=>?_,hrows,hwf⟩;simp only[mb,C4,if_true,I5] at hj;obtain⟨hr,hd⟩:=hat j x hj;have hjl:j<vs.size:=by rw[hvs];exact(A0.1 hj).1
    have e:(vs++D6 (fn.ntmps-vs.size) undef).getD j undef=vs.getD j undef:=by
     rw[A6,A6,B9 hjl]
    refine⟨?_,hd⟩;dsimp only;rw[e];exact hr
   refine wp_mono (qZ bH m4 (.inr hn) h hR) fun e a' w' hq=>?_;have fin:∀τ,(∃xs,RVs.val τ V=some xs/\ir xs=res/\τ.resOk [] lr/\(∀r∈res.ments,r∈lr)/\(τ.res [] lr).rows=outs)->R fn.ntmps w0 F τ a' w'->
    a'.defers=[]/\∃v,(results fn a'.tmps).run P w'=.ok v w'/\∃u tag' β',(Ending.returned v)=.returned u/\Below 0 w w'/\(∀b,b<w.heap.size->tag b=.imm\/tag b=.out->tag' b=tag b/\w'.heap[b]?=w.heap[b]?)/\
   (∀b,Imm tag b->Imm tag' b/\w'.heap[b]?=w.heap[b]?)/\(∀b,tag' b≠.out->b<w'.heap.size)/\(∀r,cJ w' tag' w0.heap.size β' r (aB r outs))/\Wf outs/\
   (∀r,1000000000<=r->cR (aB r outs)->β' r=β r)/\Rep w' (Imm tag') w0.heap.size β' u res/\∀r∈res.ments,(aB r outs).isSome:=by
    rintro τ ⟨xs,x1,x2,x3,x4,x5⟩ ⟨tag1,β1,hRR⟩;refine⟨hRR.nodef,?_⟩;obtain⟨vs',v1,v2,v3⟩:=ot hRR m3 x1;obtain⟨t1,t2⟩:=yo v2 v3;obtain⟨tag2,β2,hR2,htr⟩:=hRR.res x3;refine⟨if h:vs'.toArray.size=1 then vs'.toArray[0] else .tuple vs'.toArray,?_,_,tag2,β2,rfl,hR2.frm,hR2.keep,hR2.kimm,hR2.lt,?_,?_,?_,?_,?_⟩
    ·unfold results;have e:fn.results=fn.results.toList.toArray:=by simp
     rw[e,I6];simp only[Sem.run_bind,Sem.run_map];exact congrArg (fun r:Result (List Value)=>(r.andThen fun a w'=>Result.ok a.toArray w').andThen fun a w'=>(pure (if h:a.size=1 then a[0] else Value.tuple a):Sem Value).run P w') v1
    ·rw[<-x5];exact hR2.rows
    ·rw[<-x5];exact hR2.wfr
    ·rw[<-x5];exact hR2.bk
    ·rw[<-x2];exact htr _ _ t1 (by rw[x2];exact x4)
    ·intro r hr;rw[<-x5];show(aB r (lr.map fun q=>(q,(τ.row q).getD .dead))).isSome;rw[ja,u7 (x4 r hr)];rfl
   cases e with
   |normal=>obtain⟨τ,h1,h2⟩:=hq;exact fin τ h1 h2
   |ret=>obtain⟨τ,h1,h2⟩:=hq;exact fin τ h1 h2
   |exit id=>obtain⟨τ,h1,h2⟩:=hq;exact h1.elim
   |goto l=>exact hq.elim
   |panic c=>exact hq.elim
   |outgrown=>exact hq.elim
  ·simp at hm
 ·cases hm
def bn(bH:P.follows .mixedOrders=true){f k:Nat}{A:au}{V:List RV}{args:List AV}{res:AV}(hm:ba P f k A V=true)(hl:args.length=k)(h:WU (OkS P) A V args res):Ok P f args res:=
 Ay (H:=fun _=>True) bH hm hl h
def aU(bH:P.follows .mixedOrders=true){f k:Nat}{A:au}{V:List RV}{lr:List Nat}{args:List AV}{ins:List (Nat×Row)}{res:AV}{outs:List (Nat×Row)}
 (hm:ba P f k A V=true) (hn:noH A=true) (hl:args.length=k) (h:AWP (OkS P) A (yt V lr res outs) ⟨St.start.go 0 args,ins⟩):OkM P f args ins res outs:=
 nl (H:=fun _=>True) bH hm hn hl h
end Vs

namespace Vs
open Go Go.RowKit
inductive Lf where
 |int (k:IntKind)
 |bool
 |str
 |sl (ag:Bool) (ls:List Lf)
mutual
def Ko:Lf->AV->Prop
 | .int k,a=>∃n,a=.sc (.int k n)/\(Lit.int k n).wf=true
 | .bool,a=>∃b,a=.sc (.bool b)
 | .str,a=>∃s,a=.sc (.string s)/\s.size<=maxLen
 | .sl ag ls,a=>∃xs,a=.lst .o ls.length xs/\xs.length<=maxLen/\∀x∈xs,(ag=true->∃cs,x=.agg cs/\dB ls cs)/\(ag=false->dB ls [x])
def dB:List Lf->List AV->Prop
 |[],[]=>True
 |l::ls,a::al=>Ko l a/\dB ls al
 |_,_=>False
end
mutual
def lfs(P:Program):Nat->TypeId->Option (Bool×List Lf)
 |0,_=>none
 | k + 1, t => match P.underlying t with
   |some .bool=>some (false,[.bool])
   |some (.int kd)=>some (false,[.int kd])
   |some .string=>some (false,[.str])
   | some (.slice e) => match lfs P k e with
     |some (ag,ls)=>if P.cellsOf e=ls.length/\0<ls.length/\(ag=false->ls.length=1) then some (false,[.sl ag ls]) else none
     |none=>none
   | some (.struct fs) => match tY P k 0 fs.toList with
     |some ls=>if P.cellsOf t=ls.length then some (true,ls) else none
     |none=>none
   |_=>none
def tY(P:Program):Nat->Nat->List Field->Option (List Lf)
 |_,_,[]=>some []
 |0,_,_=>none
 | k + 1, off, f :: fs => match lfs P k f.type with
   |some (_,ls)=>if f.offset=off/\P.cellsOf f.type=ls.length then
    match tY P k (off+ls.length) fs with
    |some ms=>some (ls++ms)
    |none=>none
     else none
   |none=>none
end
theorem uZ:∀{ls:List Lf}{al:List AV},dB ls al->ls.length=al.length
 |[],[],_=>rfl
 |l::ls,a::al,h=>by simp only[dB] at h;simp[uZ h.2]
 |[],_::_,h=>by simp[dB] at h
 |_::_,[],h=>by simp[dB] at h
theorem mQ:∀{ls ms:List Lf}{al bs:List AV},dB ls al->dB ms bs->dB (ls++ms) (al++bs)
 |[],ms,[],bs,_,h=>h
 | l :: ls, ms, a :: al, bs, h, h' => by
   simp only[dB] at h;simp only[List.cons_append,dB];exact⟨h.1,mQ h.2 h'⟩
 |[],_,_::_,_,h,_=>by simp[dB] at h
 |_::_,_,[],_,h,_=>by simp[dB] at h
def fH(w:World)(S:Nat->Prop)(cs:List Value)(ls:List Lf):Prop:=
 ∃al,dB ls al/\cs.length=al.length/\∀(j:Nat)(v:Value)(a:AV),cs[j]?=some v->al[j]?=some a->aX w S w.heap.size v a []/\v.oneCell'=true
def fH.one{w:World}{S:Nat->Prop}{v:Value}{l:Lf}{a:AV}(h:Ko l a)(hr:aX w S w.heap.size v a [])(h1:v.oneCell'=true):fH w S [v] [l]:=
 ⟨[a], by simp_all [trivial, dB], rfl, fun j u b hj hb => by
   grind⟩
def fH.append{w:World}{S:Nat->Prop}{cs ds:List Value}{ls ms:List Lf}(h:fH w S cs ls)(h':fH w S ds ms):fH w S (cs++ds) (ls++ms):=by
 obtain⟨al,f1,l1,r1⟩:=h;obtain⟨bs,f2,l2,r2⟩:=h';refine⟨al++bs,mQ f1 f2,by simp[l1,l2],fun j v a hv ha=>?_⟩
 grind
section
variable{H:Type}{enc:TypeId×Value->H}{P:Program}{w:World}{base:Nat}{spare:Nat->Bool}{held:Bool}{S:Nat->Prop}
theorem ku(b o i:Nat):(⟨b,o,none⟩:Addr).add i=⟨b,o+i,none⟩:=by
 simp[Addr.add_lit]
def Em{a:Addr}{v:Value}(h:w.cell? a=some v):a.block<w.heap.size/\a.spot=none:=by
 unfold World.cell? at h;split at h
 ·rename_i e;refine⟨(B2.1 e).1,?_⟩
  simp_all
 ·cases h
theorem rI(hS:∀b,b<w.heap.size->S b):∀(k:Nat),
 (∀(fuel:Nat)(t:TypeId)(cs:List Value)(x:DataW H×List MemPlace)(ag:Bool)(ls:List Lf),DataW.trod enc P w base spare held fuel t cs=some x->lfs P k t=some (ag,ls)->fH w S cs ls)/\
 (∀(fs:List Field)(off fuel:Nat)(cs:List Value)(ls:List Lf),tY P k off fs=some ls->(∀f∈fs,∃x,DataW.trod enc P w base spare held fuel f.type ((cs.drop f.offset).take (P.cellsOf f.type))=some x)->
  off+ls.length<=cs.length->fH w S ((cs.drop off).take ls.length) ls)
 | 0 => by
   refine⟨fun fuel t cs x ag ls h hl=>by simp[lfs] at hl,fun fs off fuel cs ls hl _ _=>?_⟩;cases fs with
   |nil=>simp[tY] at hl;subst hl;exact⟨[],by simp[dB],by simp,by simp⟩
   |cons f fs=>simp[tY] at hl
 | k + 1 => by
   obtain⟨ih1,ih2⟩:=rI hS k;constructor
   ·intro fuel t cs x ag ls h hl;simp only[lfs] at hl;split at hl
    ·rename_i hu;cases hl;obtain⟨b,rfl,_⟩:=DataW.trod_bool hu h;exact .one ⟨b,rfl⟩ (.sc _ rfl) rfl
    ·rename_i kd hu;cases hl;obtain⟨n,rfl,_,hw⟩:=DataW.trod_int hu h;exact .one ⟨n,rfl,hw⟩ (.sc _ rfl) rfl
    ·rename_i hu;cases hl;obtain⟨z,rfl,_,hw⟩:=DataW.trod_string hu h;exact .one ⟨z,rfl,hw⟩ (.sc _ rfl) rfl
    ·rename_i e hu;split at hl
     ·rename_i ag' ls' he;split at hl
      ·rename_i hc;obtain⟨c1,c2,c3⟩:=hc;cases hl;rcases Go.Deep.open_slice hu h with⟨rfl,_⟩|⟨a,len,cap,m,n,D,Pl,rfl,hb,hle,hmx,hm,_,hx⟩
       ·exact .one ⟨[],rfl,C4 _,by simp⟩ (.nil0 _ _) rfl
       ·have hlm:len<=m:=by rw[hm];split<;>omega
        have hsa0:0<len->a.spot=none:=by
         intro h0;obtain⟨cs',h1,_⟩:=hx 0 (by omega);rw[c1] at h1;obtain⟨_,hlen,hcell⟩:=World.cells?_some h1;have:=hcell 0 c2;rw[A2 (by omega)] at this;have:=(Em this).2;simpa[Addr.add] using this
        -- the elements
        have hel:∀i,i<len->∃(v:Value)(y:AV),aX w S w.heap.size v y []/\v.cells.size=ls'.length/\((ag'=true->∃cs,y=.agg cs/\dB ls' cs)/\(ag'=false->dB ls' [y]))/\
         (∀j u,v.cells[j]?=some u->w.cell? (a.add (i*ls'.length+j))=some u/\u.oneCell'=true):=by
         intro i hi;obtain⟨cs',h1,h2⟩:=hx i (by omega);rw[c1] at h1;obtain⟨_,hlen,hcell⟩:=World.cells?_some h1;obtain⟨al,f1,f2,f3⟩:=ih1 n e cs' _ ag' ls' h2 he;have hll:=uZ f1;have hcl:∀j u,cs'[j]?=some u->w.cell? (a.add (i*ls'.length+j))=some u/\u.oneCell'=true:=by
          intro j u hj;have hjl:j<ls'.length:=by rw[<-hlen];exact(A0.1 hj).1
          refine⟨?_,(f3 j u al[j] hj (A2 (by omega))).2⟩;have:=hcell j hjl;rw[hj] at this;rw[<-this];congr 1;have hsa:=hsa0 (by omega);obtain⟨b,o,sp⟩:=a;simp only at hsa;subst hsa;rw[ku,ku,ku,C5]
         cases ag' with
         | true =>
           have:=aX.agg (w:=w) (S:=S) (B:=w.heap.size) cs'.toArray al (fun _=>[]) (by simpa using f2) (fun x hx=>by
            obtain⟨j,hj,rfl⟩:=F3 (by simpa using hx:x∈cs');exact(f3 j _ al[j] (A2 hj) (A2 (by omega))).2)
            (fun j x hj=>by
             have hjl:j<cs'.length:=by rw[f2];exact(A0.1 hj).1
             have e:cs'.toArray.getD j undef=cs'[j]:=by simp[hjl]
             rw[e];exact(f3 j _ x (A2 hjl) hj).1)
           rw[bj _ _ fun _ _=>rfl] at this;exact⟨.agg cs'.toArray,.agg al,this,by simp[Value.cells,hlen],⟨fun _=>⟨al,rfl,f1⟩,(fun e=>by cases e)⟩,fun j u hj=>hcl j u (by simpa[Value.cells] using hj)⟩
         | false =>
           have hl1:=c3 rfl
           match cs',al,hlen,f2,f1 with
           | [v], [y], _, _, f1 =>
             obtain⟨r1,r2⟩:=f3 0 v y rfl rfl;have hvc:v.cells=#[v]:=oi r2;refine⟨v,y,r1,by rw[hvc,hl1];rfl,⟨(fun e=>by cases e),fun _=>f1⟩,fun j u hj=>?_⟩;rw[hvc] at hj;exact hcl j u (by simpa using hj)
           |[],_,hlen,_,_=>simp at hlen;omega
           |_::_::_,_,hlen,_,_=>simp at hlen;omega
           |[_],[],_,f2,_=>simp at f2
           |[_],_::_::_,_,f2,_=>simp at f2
        rcases I3 len with hl0|hl0
        ·subst hl0;exact .one ⟨[],rfl,C4 _,by simp⟩ (.nil _ _ _ _ ⟨fun e=>by(cases e),fun e=>by(cases e)⟩) rfl
        ·have hex:∃(vs:Nat->Value)(ys:Nat->AV),∀i,i<len->aX w S w.heap.size (vs i) (ys i) []/\(vs i).cells.size=ls'.length/\((ag'=true->∃cs,ys i=.agg cs/\dB ls' cs)/\(ag'=false->dB ls' [ys i]))/\
          (∀j u,(vs i).cells[j]?=some u->w.cell? (a.add (i*ls'.length+j))=some u/\u.oneCell'=true):=by
          classical
          refine⟨fun i=>if h:i<len then Classical.choose (hel i h) else undef,fun i=>if h:i<len then Classical.choose (Classical.choose_spec (hel i h)) else .top,fun i hi=>?_⟩;simp only[dif_pos hi];exact Classical.choose_spec (Classical.choose_spec (hel i hi))
         obtain⟨vs,ys,hvs⟩:=hex;obtain⟨p0,p1,_,p3⟩:=hvs 0 hl0;have h0:=p3 0 ((vs 0).cells[0]'(by omega)) (B4 (by omega));have hsp:=Em h0.1;have hsa:=hsa0 hl0;have hbl:a.block<w.heap.size:=by
          have:=hsp.1;obtain⟨b,o,sp⟩:=a;simp only at hsa;subst hsa;rw[ku] at this;exact this
         obtain⟨b,o,sp⟩:=a;simp only at hsa hbl;subst hsa;have:=aX.lst (w:=w) (S:=S) (B:=w.heap.size) .o ls'.length b o len cap ((B7 len).map ys) vs (fun _=>[]) (by simp) hle ⟨hS b hbl,hbl⟩ (fun e=>by cases e)
          (fun j x hj=>by
           have hjl:j<len:=by simpa using(A0.1 hj).1
           refine⟨(hvs j hjl).2.1,fun i u hu=>?_⟩;have:=(hvs j hjl).2.2.2 i u hu;rw[ku] at this;rw[C5];exact this)
          (fun j x hj=>by
           have hjl:j<len:=by simpa using(A0.1 hj).1
           simp only[A5,List.getElem?_range hjl,F0,Option.some.injEq] at hj;subst hj;exact(hvs j hjl).1)
         rw[bj _ _ fun _ _=>rfl,u6 (by intro e;cases e)] at this;refine .one ⟨_,rfl,by simp;omega,fun x hx=>?_⟩ this rfl;obtain⟨i,hi,rfl⟩:=I7.1 hx;exact(hvs i (by simpa using hi)).2.2.1
      ·cases hl
     ·cases hl
    ·rename_i fs hu;split at hl
     ·rename_i ls' hf;split at hl
      ·rename_i hc;cases hl;obtain⟨xs,n,_,_,hlen,hxs,hat⟩:=DataW.trod_struct hu h;have:=ih2 fs.toList 0 n cs ls hf (fun f hfm=>by
        obtain⟨i,hi,rfl⟩:=F3 hfm;have hi':i<fs.size:=by simpa using hi
        have:=hat i fs[i] (B4 hi');rw[A2 (by omega)] at this;exact⟨_,by simpa using this⟩) (by rw[hlen,hc];omega)
       have e:(cs.drop 0).take ls.length=cs:=by rw[List.drop_zero,<-hc,<-hlen,J4]
       rwa[e] at this
      ·cases hl
     ·cases hl
    ·cases hl
   ·intro fs off fuel cs ls hl hat hle;cases fs with
    |nil=>simp[tY] at hl;subst hl;exact⟨[],by simp[dB],by simp,by simp⟩
    | cons f fs =>
      simp only[tY] at hl;split at hl
      ·rename_i ag' ls' he;split at hl
       ·rename_i hc;obtain⟨c1,c2⟩:=hc;split at hl
        ·rename_i ms hms;cases hl;obtain⟨x,hx⟩:=hat f (by simp);rw[c1,c2] at hx;have r1:=ih1 fuel f.type _ x ag' ls' hx he;have r2:=ih2 fs (off+ls'.length) fuel cs ms hms (fun g hg=>hat g (by simp[hg])) (by simp at hle;omega);have:=r1.append r2;have e:(cs.drop off).take ls'.length++(cs.drop (off+ls'.length)).take ms.length=(cs.drop off).take (ls'++ms).length:=by
          rw[C0,List.take_add,H7]
         rwa[e] at this
        ·cases hl
       ·cases hl
      ·cases hl
def Qc(hS:∀b,b<w.heap.size->S b){k:Nat}{t:TypeId}{v:Value}{d:DataW H}{ps:List MemPlace}{ag:Bool}{ls:List Lf}(h:DataW.Trod enc P w base spare held t v d ps)(hl:lfs P k t=some (ag,ls))
 (hag:ag=true->∃cs,v=.agg cs) (hag':ag=false->v.cells=#[v]/\ls.length=1):
 ∃y,aX w S w.heap.size v y []/\(ag=true->∃cs,y=.agg cs/\dB ls cs)/\(ag=false->dB ls [y]):=by
 obtain⟨fuel,h⟩:=h;obtain⟨al,f1,f2,f3⟩:=(rI hS k).1 fuel t _ _ ag ls h hl;cases ag with
 | true =>
   obtain⟨cs,rfl⟩:=hag rfl;simp only[Value.cells] at f2 f3;have:=aX.agg (w:=w) (S:=S) (B:=w.heap.size) cs al (fun _=>[]) (by simpa using f2) (fun x hx=>by
    obtain⟨j,hj,rfl⟩:=Array.mem_iff_getElem.1 hx;have hjl:j<al.length:=by rw[<-f2];simpa using hj
    exact(f3 j cs[j] al[j] (by simp[hj]) (A2 hjl)).2)
    (fun j x hj=>by
     have hjl:j<cs.size:=by have:=(A0.1 hj).1;rw[<-f2] at this;simpa using this
     have e:cs.getD j undef=cs[j]:=by simp[hjl]
     grind)
   rw[bj _ _ fun _ _=>rfl] at this
   grind
 | false =>
   obtain⟨h1,h2⟩:=hag' rfl;rw[h1] at f2 f3
   match al,f2,f1 with
   |[y],_,f1=>exact⟨y,(f3 0 v y rfl rfl).1,(fun e=>by cases e),fun _=>f1⟩
end
end Vs

namespace Vs
open Go Go.RowKit
section
variable{H:Type}{enc:TypeId×Value->H}{P:Program}{w w':World}{base:Nat}{sp:Nat->Bool}{held:Bool}
def px{fs:Array Field}{t:TypeId}{n:Nat}{cs:List Value}{x:DataW H×List MemPlace}(ht:P.underlying t=some (.struct fs))(h:DataW.trod enc P w base sp held (n+1) t cs=some x):
 ∃xs,fs.toList.mapM (fun f=>DataW.trod enc P w base sp held n f.type ((cs.drop f.offset).take (P.cellsOf f.type)))=some xs/\x=(.agg (xs.map (·.1)),xs.flatMap (·.2))/\cs.length=P.cellsOf t:=by
 unfold DataW.trod at h;rw[ht] at h;split at h<;>simp_all
 grind
theorem Dt:∀(k:Nat),
 (∀(fuel:Nat)(t:TypeId)(cs:List Value)(x:DataW H×List MemPlace)(ag:Bool)(ls:List Lf),DataW.trod enc P w base (fun _=>true) held fuel t cs=some x->lfs P k t=some (ag,ls)->
  (∀p∈x.2,sp p.block=true)->DataW.trod enc P w base sp held fuel t cs=some x)/\
 (∀(fs:List Field)(off fuel:Nat)(cs:List Value)(ls:List Lf)(xs:List (DataW H×List MemPlace)),tY P k off fs=some ls->
  fs.mapM (fun f=>DataW.trod enc P w base (fun _=>true) held fuel f.type ((cs.drop f.offset).take (P.cellsOf f.type)))=some xs->(∀x∈xs,∀p∈x.2,sp p.block=true)->
  fs.mapM (fun f=>DataW.trod enc P w base sp held fuel f.type ((cs.drop f.offset).take (P.cellsOf f.type)))=some xs)
 | 0 => by
   refine⟨fun fuel t cs x ag ls h hl=>by simp[lfs] at hl,fun fs off fuel cs ls xs hl hm _=>?_⟩;cases fs with
   |nil=>simpa using hm
   |cons f fs=>simp[tY] at hl
 | k + 1 => by
   obtain⟨ih1,ih2⟩:=Dt k;constructor
   ·intro fuel t cs x ag ls h hl hs;cases fuel with
    |zero=>simp[DataW.trod] at h
    |succ fuel=>
    simp only[lfs] at hl;split at hl
    ·rename_i hu;obtain⟨b,rfl,rfl⟩:=DataW.trod_bool hu h;simp only[DataW.trod,hu]
    ·rename_i kd hu;obtain⟨n,rfl,rfl,hw⟩:=DataW.trod_int hu h;simp only[DataW.trod,hu];simp[hw]
    ·rename_i hu;obtain⟨z,rfl,rfl,hw⟩:=DataW.trod_string hu h;simp only[DataW.trod,hu];simp[hw]
    ·rename_i e hu;split at hl
     ·rename_i ag' ls' he;split at hl
      ·rename_i hc;obtain⟨c1,c2,c3⟩:=hc;have hcs:cs=[.slice none 0 0]\/∃a len cap,cs=[.slice (some a) len cap]:=by
        rcases Go.Deep.open_slice hu h with⟨e,_⟩|⟨a,len,cap,_,_,_,_,e,_⟩
        ·exact .inl e
        ·exact .inr ⟨a,len,cap,e⟩
       rcases hcs with rfl|⟨a,len,cap,rfl⟩
       ·simp only[DataW.trod,hu] at h⊢;exact h
       ·simp only[DataW.trod,hu] at h⊢;split at h
        ·rename_i hcc;rw[u7 hcc];simp only[B3,G3,if_true] at h⊢;obtain⟨dX,hel,rest,hrest,rfl⟩:=h;have hlen:dX.length=len:=by simpa using mapM_some_length hel
         have hrl:rest.length=cap-len:=by simpa using mapM_some_length hrest
         have one:∀(i:Nat)(y:DataW H×List MemPlace),y∈dX++rest->
          (w.cells? base (a.add (i*P.cellsOf e)) (P.cellsOf e)).bind (DataW.trod enc P w base (fun _=>true) held fuel e)=some y->
          (w.cells? base (a.add (i*P.cellsOf e)) (P.cellsOf e)).bind (DataW.trod enc P w base sp held fuel e)=some y:=by
          intro i y hy hv;simp only[G3] at hv⊢;obtain⟨cs',h1,h2⟩:=hv;refine⟨cs',h1,ih1 fuel e cs' y ag' ls' h2 he fun p hp=>hs p ?_⟩;simp only[H2,J5];right;exact⟨y,by simpa using hy,hp⟩
         refine⟨dX,mapM_carry hel (fun i y hi hy=>one i y (by simp[hy])),rest,?_,rfl⟩;rcases I3 (cap-len) with hz|hz
         ·have:rest=[]:=G4.1 (by omega);subst this;rw[hz];simp
         ·have hsa:sp a.block=true:=by
           refine hs (.cell a.block (a.off+0)) ?_;simp only[H2];left;refine MemPlace.mem_row.2 ⟨0,?_,rfl⟩;rw[hlen,hrl];exact Nat.mul_pos (by omega) (by omega)
          rw[u7 hsa];exact mapM_carry hrest (fun j y hj hy=>one (len+j) y (by simp[hy]))
        ·cases h
      ·cases hl
     ·cases hl
    ·rename_i fs hu;split at hl
     ·rename_i ls' hf;obtain⟨xs,hmap,rfl,hlen⟩:=px hu h;exact Go.ChangeShapes.trod_struct_mk hu hlen (ih2 fs.toList 0 fuel cs ls' xs hf hmap fun y hy p hp=>hs p (J5.2 ⟨y,hy,hp⟩))
     ·cases hl
    ·cases hl
   ·intro fs off fuel cs ls xs hl hm hs;cases fs with
    |nil=>simpa using hm
    | cons f fs =>
      simp only[tY] at hl;split at hl
      ·rename_i ag' ls' he;split at hl
       ·split at hl
        ·rename_i ms hms;rw[List.mapM_cons] at hm⊢;cases hx:DataW.trod enc P w base (fun _=>true) held fuel f.type ((cs.drop f.offset).take (P.cellsOf f.type)) with
         |none=>simp[hx] at hm
         | some y =>
           cases hys:fs.mapM (fun f=>DataW.trod enc P w base (fun _=>true) held fuel f.type ((cs.drop f.offset).take (P.cellsOf f.type))) with
           |none=>simp[hx,hys] at hm
           | some ys =>
             simp[hx,hys] at hm;subst hm;rw[ih1 fuel f.type _ y ag' ls' hx he (fun p hp=>hs y (by simp) p hp),ih2 fs _ fuel cs ms ys hms hys (fun z hz p hp=>hs z (by simp[hz]) p hp)];rfl
        ·cases hl
       ·cases hl
      ·cases hl
def xM(s:Bool×List Lf)(y:AV):Prop:=(s.1=true->∃cs,y=.agg cs/\dB s.2 cs)/\(s.1=false->dB s.2 [y])
def pP:List (Bool×List Lf)->List AV->Prop
 |[],[]=>True
 |s::ss,y::ys=>xM s y/\pP ss ys
 |_,_=>False
def lZ(P:Program)(k:Nat):List TypeId->Option (List (Bool×List Lf))
 |[]=>some []
 | t :: ts => match lfs P k t, lZ P k ts with
   |some s,some ss=>some (s::ss)
   |_,_=>none
def vF{k b:Nat}{t:TypeId}{v:Value}{ag:Bool}{ls:List Lf}(hl:lfs P k t=some (ag,ls))(h:Value.okWide P w .any b t v):
 (ag=true->∃cs,v=.agg cs)/\(ag=false->v.cells=#[v]/\ls.length=1):=by
 cases k with
 |zero=>simp[lfs] at hl
 | succ k =>
   simp only[lfs] at hl;unfold Value.okWide at h;split at hl
   ·rename_i hu;cases hl;rw[hu] at h;simp only at h;refine⟨(fun e=>by cases e),fun _=>⟨?_,rfl⟩⟩;unfold Cell.okWide Cell.ok at h;rw[hu] at h;cases v<;>first|rfl|simp at h
   ·rename_i kd hu;cases hl;rw[hu] at h;simp only at h;refine⟨(fun e=>by cases e),fun _=>⟨?_,rfl⟩⟩;unfold Cell.okWide Cell.ok at h;rw[hu] at h;cases v<;>first|rfl|simp at h
   ·rename_i hu;cases hl;rw[hu] at h;simp only at h;refine⟨(fun e=>by cases e),fun _=>⟨?_,rfl⟩⟩;unfold Cell.okWide Cell.ok at h;rw[hu] at h;cases v<;>first|rfl|simp at h
   ·rename_i e hu;split at hl
    ·split at hl
     ·cases hl;rw[hu] at h;simp only at h;refine⟨(fun e=>by cases e),fun _=>⟨?_,rfl⟩⟩;unfold Cell.okWide Cell.ok at h;rw[hu] at h;cases v<;>first|rfl|simp at h
     ·cases hl
    ·cases hl
   ·grind
   ·cases hl
theorem xD{S:Nat->Prop}{k b0:Nat}(hS:∀b,b<w.heap.size->S b):∀{ts:List TypeId}{vs:List Value}{ds:List (DataW H)}{ps:List MemPlace}{ss:List (Bool×List Lf)},DataW.TrodAll enc P w base sp held ts vs ds ps->lZ P k ts=some ss->
 (∀(j:Nat) t v,ts[j]?=some t->vs[j]?=some v->Value.okWide P w .any b0 t v)->
 ∃ys,pP ss ys/\ys.length=vs.length/\∀(j:Nat)(v:Value)(y:AV),vs[j]?=some v->ys[j]?=some y->aX w S w.heap.size v y []
 | [], [], [], ps, ss, _, hl, _ => by
   simp[lZ] at hl;subst hl;exact⟨[],trivial,rfl,by simp⟩
 | t :: ts, v :: vs, d :: ds, ps, ss, h, hl, hok => by
   obtain⟨p,q,h1,h2,_⟩:=h;simp only[lZ] at hl;split at hl
   ·rename_i s ss' e1 e2;cases hl;obtain⟨ag,ls⟩:=s;obtain⟨c1,c2⟩:=vF e1 (hok 0 t v rfl rfl);obtain⟨y,r1,r2,r3⟩:=Qc hS h1 e1 c1 c2;obtain⟨ys,f1,f2,f3⟩:=xD hS h2 e2 fun j t v ht hv=>hok (j+1) t v (by simpa using ht) (by simpa using hv);refine⟨y::ys,⟨⟨r2,r3⟩,f1⟩,by simp[f2],fun j u z hu hz=>?_⟩
    grind
   ·cases hl
 |[],_::_,_,_,_,h,_,_=>by simp[DataW.TrodAll] at h
 |[],[],_::_,_,_,h,_,_=>by simp[DataW.TrodAll] at h
 |_::_,[],_,_,_,h,_,_=>by simp[DataW.TrodAll] at h
 |_::_,_::_,[],_,_,h,_,_=>by simp[DataW.TrodAll] at h
theorem vr{k:Nat}:∀{ts:List TypeId}{vs:List Value}{ds:List (DataW H)}{ps:List MemPlace}{ss:List (Bool×List Lf)},DataW.TrodAll enc P w base (fun _=>true) held ts vs ds ps->lZ P k ts=some ss->
 (∀p∈ps,w.sameAt w' p)->(∀p∈ps,sp p.block=true)->DataW.TrodAll enc P w' base sp held ts vs ds ps
 |[],[],[],ps,ss,h,_,_,_=>h
 | t :: ts, v :: vs, d :: ds, ps, ss, h, hl, hs, hsp => by
   obtain⟨p,q,⟨fuel,h1⟩,h2,rfl⟩:=h;simp only[lZ] at hl;split at hl
   ·rename_i s ss' e1 e2;exact⟨p,q,⟨fuel,DataW.trod_carry fuel t _ _ ((Dt k).1 fuel t _ _ s.1 s.2 h1 e1 fun x hx=>hsp x (by simp_all)) fun x hx=>hs x (by simp_all)⟩,
     vr h2 e2 (fun x hx=>hs x (by simp[hx])) (fun x hx=>hsp x (by simp[hx])),rfl⟩
   ·cases hl
 |[],_::_,_,_,_,h,_,_,_=>by simp[DataW.TrodAll] at h
 |[],[],_::_,_,_,h,_,_,_=>by simp[DataW.TrodAll] at h
 |_::_,[],_,_,_,h,_,_,_=>by simp[DataW.TrodAll] at h
 |_::_,_::_,[],_,_,h,_,_,_=>by simp[DataW.TrodAll] at h
def Hd{f:Func}{s:ChangeSpec}{apart fresh handsOn again:Bool}{W W':World}{args:Array Value}{v:Value}{ds gs:List (DataW H)}{before pa pv:List MemPlace}
 (hW:DataW.Whole enc P f.params.toList s.vars apart W args.toList ds gs before)
 (hres:∀(b:Nat)(sp:Nat->Bool)(hd:Bool),DataW.TrodAll enc P W' b sp hd f.resultTypes.toList (v.resultList f.resultTypes.size) (s.fn H (ds++gs)).results [])
 (hargs:∀sp:Nat->Bool,(∀p∈before,sp p.block=true)->DataW.TrodAll enc P W' 0 sp true f.params.toList args.toList (s.fn H (ds++gs)).args pa)
 (hvars:∀sp:Nat->Bool,(∀p∈before,sp p.block=true)->DataW.TrodVars enc P W' sp s.vars (s.fn H (ds++gs)).vars pv)
 (hps:before=pa++pv) (hk:W.keptBut W' (·∈before)) (hfz:∀a:Addr,a.block<W.heap.size->W'.frozen? a=W.frozen? a)
 (hok:∀(j:Nat)(t:TypeId)(r:Value),f.resultTypes[j]?=some t->(v.resultList f.resultTypes.size)[j]?=some r->Value.okWide P W' .any 0 t r):
 s.post enc P f apart fresh handsOn again W args v W':=by
 have hold:∀p∈before,(fun b=>decide (b<W.heap.size)) p.block=true:=fun p hp=>by simpa using hW.lt p hp
 have hlt:=hW.lt;refine⟨ds,gs,before,[],pa,pv,hW,hres _ _ _,hargs _ hold,hvars _ hold,World.keptBut_mono (fun p hp=>⟨hp,?_⟩) hk,fun _=>?_⟩
 ·simp_all
 ·obtain⟨_,_,_,_,_,hz,hn⟩:=hW;refine⟨hok,_,_,([]++pa)++pv,⟨[]++pa,pv,Go.ChangeShapes.trodAll_append (hargs _ (fun _ _=>rfl)) (hres _ _ _),hvars _ (fun _ _=>rfl),rfl,?_,?_⟩,?_⟩
  ·intro b off hp;have hp':MemPlace.cell b off∈before:=by rw[hps];simpa using hp
   rw[hfz _ (hlt _ hp')];exact hz b off hp'
  ·simp_all
  simp_all
def law_calls{f k b0:Nat}{fn:Func}{s:ChangeSpec}{tb:TypeId}{ss:List (Bool×List Lf)}{again:Bool}{apart fresh:Bool}(hvars:s.vars=[])
 (hfn:∀ds:List (DataW H),ds.length=fn.params.size->s.fn H ds={results:=[.lit (.bool true)],args:=ds}) (hres:fn.resultTypes=#[tb]) (htb:P.underlying tb=some .bool) (hsh:lZ P k fn.params.toList=some ss)
 (hok:∀ys,pP ss ys->Ok P f ys (.b true)) {args:Array Value} {ds gs:List (DataW H)} {before:List MemPlace}
 (hval:∀(j:Nat) t v,fn.params[j]?=some t->args[j]?=some v->Value.okWide P w .any b0 t v)
 (hW:DataW.Whole enc P fn.params.toList s.vars apart w args.toList ds gs before):
 Calls P f args w fun e W'=>∃v,e=.returned v/\s.post enc P fn apart fresh false again w args v W':=by
 have hW':=hW;have hlt:=hW.lt;obtain⟨p,q,hA,hV,rfl,hfz,hnd⟩:=hW;rw[hvars] at hV;obtain⟨rfl,rfl⟩:=Go.ChangeShapes.trodVars_none hV;obtain⟨ys,f1,f2,f3⟩:=xD (S:=fun b=>b<w.heap.size) (k:=k) (b0:=b0) (fun b hb=>hb) hA hsh (fun j t v ht hv=>hval j t v (by simpa using ht) (by simpa using hv));have hlen:∀{ts:List TypeId}{vs:List Value}{ds:List (DataW H)}{ps:List MemPlace},DataW.TrodAll enc P w 0 (fun _=>true) true ts vs ds ps->ds.length=ts.length:=by
  intro ts;induction ts with
  |nil=>intro vs ds ps h;cases vs<;>cases ds<;>simp_all [DataW.TrodAll]
  | cons t ts ih =>
    intro vs ds ps h;cases vs<;>cases ds<;>simp only[DataW.TrodAll] at h;obtain⟨_,_,_,h2,_⟩:=h;simp[ih h2]
 have hdl:=hlen hA;refine((hok ys f1).2 w (fun b=>b<w.heap.size) args (fun b hb=>hb) (by simpa using f2.symm) (fun j x hj=>?_) fun _ _=>trivial).mono ?_
 ·have hjl:j<args.size:=by rw[<-D5,<-f2];exact(A0.1 hj).1
  have e:args.getD j undef=args[j]:=by simp[hjl]
  rw[e];exact f3 j _ x (by simp[hjl]) hj
 ·rintro e W' ⟨v,fp,S',rfl,hbel,_,_,hr⟩;have hv:v=.bool true:=by cases hr;rfl
  subst hv;refine⟨_,rfl,?_⟩;have hfd:=hfn (ds++[]) (by simpa using hdl);refine Hd (pa:=p) (pv:=[]) hW' (fun b sp' hd=>?_) (fun sp' hsp=>?_) (fun sp' _=>?_) rfl (hbel.bel.frame _) hbel.frz (ok_one hres rfl (okWide_bool_mk htb _))
  ·rw[hfd,hres];exact⟨[],[],shut_bool htb _,rfl,rfl⟩
  ·rw[hfd];simp only[H3];exact vr hA hsh (fun x hx=>hbel.bel.same (hlt x (by simp[hx]))) (fun x hx=>hsp x (by simp[hx]))
  ·rw[hfd,hvars];rfl
end
end Vs

namespace Vs
open Go
variable{α:Type}{lr:List Nat}{S:Type}{lv:List Nat}{sh:S->St}{a:au}{σ:St}{id:Nat}{B:Type}{Q:Ex->St->Prop}{s:S}{q:B->Ex->St->Prop}{xs:List α}{o:S⊕B}{x:α}{β:Type}{c:Bool}{y z:α}{i:Int}{ys:List α}{τ:St}{outs:List (Nat×Row)}
def Zt(n:Nat):X:=.t n
def Zm(d a:Nat):bl:=⟨some d,.mv (.t a),none⟩
def Zn(d:Nat)(a:Int):bl:=⟨some d,.mv (.c (.i a)),none⟩
def Zl(d a:Nat):bl:=⟨some d,.load 1 false (.t a),none⟩
def Za(d k a:Nat):bl:=⟨some d,.fad k (.t a),none⟩
def Zx(d k a b:Nat):bl:=⟨some d,.idx k (.t a) (.t b),none⟩
def Zk(d a:Nat):bl:=⟨some d,.len (.t a),none⟩
def Zb(d:Nat)(op:BinOp)(a b:Nat):bl:=⟨some d,.bin op (.t a) (.t b),none⟩
def Zd(d:Nat)(op:BinOp)(a:Nat)(b:Int):bl:=⟨some d,.bin op (.t a) (.c (.i b)),none⟩
def Ze(d a k:Nat):bl:=⟨some d,.ext (.t a) k,none⟩
def Zo(d:Nat)(op:AOp):bl:=⟨some d,op,none⟩
def Zg(d:Nat)(op:AOp)(q:Nat)(b:Bool):bl:=⟨some d,op,some (q,b)⟩
def Zw(op:AOp):bl:=⟨none,op,none⟩
def Zv(d k a:Nat):bl:=⟨some d,.load k true (.t a),none⟩
def Zs(l:List bl)(x:au):au:=.seq (.reg l []) x
def Zy(b:Bool):X:=.c (.b b)
def Zh(d:Nat)(b:Bool):bl:=⟨some d,.mv (.c (.b b)),none⟩
instance(n:Nat):OfNat X n:=⟨.t n⟩
theorem ZC:(∀n,Zt n=.t n)/\(∀d a,Zm d a=⟨some d,.mv (.t a),none⟩)/\(∀d a,Zn d a=⟨some d,.mv (.c (.i a)),none⟩)/\(∀d a,Zl d a=⟨some d,.load 1 false (.t a),none⟩)/\(∀d k a,Za d k a=⟨some d,.fad k (.t a),none⟩)/\
 (∀d k a b,Zx d k a b=⟨some d,.idx k (.t a) (.t b),none⟩)/\(∀d a,Zk d a=⟨some d,.len (.t a),none⟩)/\(∀d op a b,Zb d op a b=⟨some d,.bin op (.t a) (.t b),none⟩)/\
 (∀d op a b,Zd d op a b=⟨some d,.bin op (.t a) (.c (.i b)),none⟩)/\(∀d a k,Ze d a k=⟨some d,.ext (.t a) k,none⟩)/\(∀d op,Zo d op=⟨some d,op,none⟩)/\(∀d op q b,Zg d op q b=⟨some d,op,some (q,b)⟩)/\(∀op,Zw op=⟨none,op,none⟩)/\
 (∀d k a,Zv d k a=⟨some d,.load k true (.t a),none⟩)/\(∀l x,Zs l x=.seq (.reg l []) x)/\(∀b,Zy b=.c (.b b))/\(∀d b,Zh d b=⟨some d,.mv (.c (.b b)),none⟩)/\(∀n:Nat,(no_index (OfNat.ofNat n):X)=.t n):=
 ⟨fun _=>rfl,fun _ _=>rfl,fun _ _=>rfl,fun _ _=>rfl,fun _ _ _=>rfl,fun _ _ _ _=>rfl,fun _ _=>rfl,fun _ _ _ _=>rfl,fun _ _ _ _=>rfl,fun _ _ _=>rfl,fun _ _=>rfl,fun _ _ _ _=>rfl,fun _=>rfl,fun _ _ _=>rfl,fun _ _=>rfl,fun _=>rfl,fun _ _=>rfl,fun _=>rfl⟩
def amb{α:Type}[DecidableEq α](a b:Option α):Option α:=if a=b then a else none
def ahl[DecidableEq α]{a b:Option α}{r:α}(h:amb a b=some r):a=some r:=by
 unfold amb at h;split at h
 ·exact h
 ·cases h
def ahd[DecidableEq α]{a b:Option α}{r:α}(h:amb a b=some r):b=some r:=by
 unfold amb at h;split at h
 ·rename_i e;rw[<-e];exact h
 ·cases h
def rp(f:α->β)(xs ys:List α)(i:Nat):dg (xs.map f) i (ys.map f)=(dg xs i ys).map f:=by
 unfold dg;simp only[A1];split
 ·simp
 ·rfl
def gg(xs ys:List α)(i:Nat):(dg xs i ys).length=xs.length:=by
 unfold dg;split
 ·simp;omega
 ·rfl
section
variable{ok:Oks}
def Mn{x:AV}{A B A' B':Prop}(h:tst x A B)(ha:A->A')(hb:B->B'):tst x A' B':=by
 unfold tst at h;split at h
 ·exact⟨fun e=>ha (h.1 e),fun e=>hb (h.2 e)⟩
 ·exact⟨ha h.1,hb h.2⟩
 ·exact h.elim
theorem mu{K K':St->Prop}(hk:∀τ,K τ->K' τ):∀(os:List bl)(σ:St),fd ok os K σ->fd ok os K' σ
 |[],σ,h=>hk σ h
 | o :: os, σ, h => by
   have ih:=mu hk os;simp only[fd,abe] at h⊢;have go:∀υ,Bk ok o.d o.op (fd ok os K) υ->Bk ok o.d o.op (fd ok os K') υ:=fun υ h=>
    (FJ o.op).mono h fun v u h=>ih _ h
   cases hg:o.gd with
   |none=>rw[hg] at h;exact go σ h
   | some p =>
     obtain⟨s,b⟩:=p;rw[hg] at h;simp only[fy] at h;split at h
     ·rename_i t e;simp only[e,fy];exact⟨fun e=>go _ (h.1 e),fun e=>ih _ (h.2 e)⟩
     ·rename_i e;simp only[e,fy];exact ih _ h
     ·exact h.elim
theorem bO:∀(ac:au){Q Q':Ex->St->Prop}{σ:St},AWP ok ac Q σ->(∀e τ,Q e τ->Q' e τ)->AWP ok ac Q' σ
 | .skip,_,_,_,h,hq=>hq _ _ h
 | .reg ops can, _, _, _, h, hq => by
   simp only[AWP] at h⊢;exact mu (fun τ h=>hq _ _ h) _ _ h
 | .drw ops can, _, _, _, h, hq => by
   simp only[AWP] at h⊢;exact mu (fun τ h=>hq _ _ h) _ _ h
 | .seq a b, _, _, _, h, hq => by
   simp only[AWP] at h⊢;refine bO a h fun e τ h=>?_;cases e with
   |nrm=>exact bO b h hq
   |ex id=>exact hq _ _ h
   |ret=>exact hq _ _ h
 | .seqr a lv lr b, _, _, _, h, hq => by
   simp only[AWP] at h⊢;refine bO a h fun e τ h=>?_;cases e with
   |nrm=>exact⟨h.1,bO b h.2 hq⟩
   |ex id=>exact hq _ _ h
   |ret=>exact hq _ _ h
 | .seqa x a lv lr b, _, _, _, h, hq => by
   simp only[AWP] at h⊢;refine bO x h fun e τ h=>?_;cases e with
   | nrm =>
     refine bO a h fun e τ h=>?_;cases e with
     |nrm=>exact⟨h.1,bO b h.2 hq⟩
     |ex id=>exact hq _ _ h
     |ret=>exact hq _ _ h
   |ex id=>exact hq _ _ h
   |ret=>exact hq _ _ h
 | .seqb a lv b, _, _, _, h, hq => by
   simp only[AWP] at h⊢;refine bO a h fun e τ h=>?_;cases e with
   |nrm=>exact bO b h fun e τ h=>hq _ _ h
   |ex id=>exact hq _ _ h
   |ret=>exact hq _ _ h
 | .cond x a b, _, _, _, h, hq => by
   simp only[AWP] at h⊢;exact Mn h (fun h=>bO a h hq) (fun h=>bO b h hq)
 | .blk id a, _, _, _, h, hq => by
   simp only[AWP] at h⊢;refine bO a h fun e τ h=>?_;cases e with
   |nrm=>exact hq _ _ h
   | ex j =>
     simp only[inb] at h⊢;split
     ·rename_i e;rw[u7 e] at h;exact hq _ _ h
     ·rename_i e;rw[u6 e] at h;exact hq _ _ h
   |ret=>exact hq _ _ h
 | .loop a, _, _, _, h, hq => by
   simp only[AWP] at h⊢;obtain⟨lv,lr,I,μ,h1,h2,h3⟩:=h;refine⟨lv,lr,I,μ,h1,h2,fun τ hI=>bO a (h3 τ hI) fun e τ h=>?_⟩;cases e with
   |nrm=>exact h
   |ex id=>exact hq _ _ h
   |ret=>exact hq _ _ h
 | .exit id,_,_,_,h,hq=>by simp only[AWP] at h⊢;exact hq _ _ h
 | .ret,_,_,_,h,hq=>by simp only[AWP] at h⊢;exact hq _ _ h
def aZ{S B:Type}(f:S->Option (S⊕B)):Nat->S->Option B
 |0,_=>none
 | n + 1, s => match f s with
   |none=>none
   |some (.inl s')=>aZ f n s'
   |some (.inr b)=>some b
def Shp{S:Type}(lv lr:List Nat)(sh:S->St)(v:S)(τ:St):Prop:=τ.resOk lv lr/\τ.res lv lr=sh v
def qX{S:Type}(id:Nat)(lv lr:List Nat)(sh:S->St)(v:S)(e:Ex)(τ:St):Prop:=e=.ex id/\Shp lv lr sh v τ
def qR{R:Type}(V:List RV)(emb:R->AV)(r:R)(e:Ex)(τ:St):Prop:=e=.ret/\fin V (emb r) .ret τ
def qM{R:Type}(V:List RV)(lr:List Nat)(emb:R->AV)(out:R->List (Nat×Row))(r:R)(e:Ex)(τ:St):Prop:=e=.ret/\yt V lr (emb r) (out r) .ret τ
theorem bB(rs:List RV)(lr:List Nat)(res:AV)(outs:List (Nat×Row))(σ:St):yt rs lr res outs .ret σ=opt (RVs.val σ rs) fun xs=>ir xs=res/\σ.resOk [] lr/\(∀r∈res.ments,r∈lr)/\(σ.res [] lr).rows=outs:=by
 simp only[yt,opt];cases RVs.val σ rs<;>simp
theorem bz(rs:List RV)(lr:List Nat)(res:AV)(outs:List (Nat×Row))(σ:St):yt rs lr res outs .nrm σ=opt (RVs.val σ rs) fun xs=>ir xs=res/\σ.resOk [] lr/\(∀r∈res.ments,r∈lr)/\(σ.res [] lr).rows=outs:=by
 simp only[yt,opt];cases RVs.val σ rs<;>simp
theorem dS(P:Program):(OkS P).p=Ok P:=rfl
theorem dV(P:Program):(OkS P).m=OkM P:=rfl
theorem dN(P:Program):(OkS P).h=OkH P:=rfl
def qS{A B:Type}(q:A->Ex->St->Prop)(q':B->Ex->St->Prop):A⊕B->Ex->St->Prop
 | .inl a=>q a
 | .inr b=>q' b
def qL{S B:Type}(lv lr:List Nat)(sh:S->St)(q:B->Ex->St->Prop):S⊕B->Ex->St->Prop
 | .inl s,e,τ=>e=.nrm/\Shp lv lr sh s τ
 | .inr b,e,τ=>e≠.nrm/\q b e τ
def qJ{S B:Type}(lv lr:List Nat)(sh:S->St)(q:B->Ex->St->Prop):S⊕B->Ex->St->Prop
 | .inl s,e,τ=>e=.nrm/\Shp lv lr sh s τ
 | .inr b,e,τ=>e≠.nrm/\q b e τ
def qJ0{S:Type}(lv lr:List Nat)(sh:S->St)(s:S)(e:Ex)(τ:St):Prop:=e=.nrm/\Shp lv lr sh s τ
def aN{f:S->Option (S⊕B)}
 (hb:∀s o,f s=some o->AWP ok a (qL lv lr sh q o) (sh s)) {n:Nat} {s0:S} {b:B} (h:aZ f n s0=some b) {σ:St} (hs:Shp lv lr sh s0 σ):AWP ok (.loop a) (q b) σ:=by
 classical
 let p:St->Nat->Prop:=fun τ m=>∃s,τ=sh s/\aZ f m s=some b;refine Lm lv lr (fun τ=>∃m,p τ m) (fun τ=>if h:∃m,p τ m then Classical.choose (oO h) else 0) hs.1 ⟨n,s0,hs.2,h⟩ ?_;intro τ hI;simp only[dif_pos hI];obtain⟨hp,hmin⟩:=Classical.choose_spec (oO hI);generalize Classical.choose (oO hI)=m at hp hmin;obtain⟨s,rfl,hit⟩:=hp;cases m with
 |zero=>cases hit
 | succ m =>
   simp only[aZ] at hit;cases hf:f s with
   |none=>rw[hf] at hit;cases hit
   | some o =>
     refine bO a (hb s o hf) fun e τ' hq=>?_;rw[hf] at hit;cases o with
     | inl s' =>
       obtain⟨rfl,h1,h2⟩:=hq;have hI2:∃k,p (τ'.res lv lr) k:=⟨m,s',h2,hit⟩;refine⟨h1,hI2,?_⟩;simp only[dif_pos hI2];obtain⟨_,hmin2⟩:=Classical.choose_spec (oO hI2);have:=hmin2 m ⟨s',h2,hit⟩;omega
     | inr b' =>
       obtain⟨h1,h2⟩:=hq;simp only[Option.some.injEq] at hit;subst hit;cases e with
       |nrm=>exact(h1 rfl).elim
       |ex id=>exact h2
       |ret=>exact h2
def cm{b:au}
 (ha:AWP ok a (qJ lv lr sh q o) σ) (hb:∀s,o=.inl s->AWP ok b Q (sh s)) (hx:∀x,o=.inr x->∀e τ,e≠.nrm->q x e τ->Q e τ):AWP ok (.seqr a lv lr b) Q σ:=by
 simp only[AWP];refine bO a ha fun e τ h=>?_;cases o with
 | inl s =>
   obtain⟨rfl,h1,h2⟩:=h;exact⟨h1,h2▸hb s rfl⟩
 | inr x =>
   obtain⟨h1,h2⟩:=h;cases e with
   |nrm=>exact(h1 rfl).elim
   |ex id=>exact hx x rfl _ _ h1 h2
   |ret=>exact hx x rfl _ _ h1 h2
def aF{b:au}
 (ha:AWP ok a (qJ0 lv lr sh s) σ) (hb:AWP ok b Q (sh s)):AWP ok (.seqr a lv lr b) Q σ:=by
 simp only[AWP];refine bO a ha fun e τ h=>?_;obtain⟨rfl,h1,h2⟩:=h;exact⟨h1,h2▸hb⟩
def cT(hq:∀b e τ,q b e τ->e≠.nrm/\e≠.ex id)
 (ha:AWP ok a (qS (qX id lv lr sh) q o) σ):AWP ok (.blk id a) (qJ lv lr sh q o) σ:=by
 simp only[AWP];refine bO a ha fun e τ h=>?_;cases o with
 | inl s =>
   obtain⟨rfl,h1⟩:=h;simp only[inb,if_true];exact⟨rfl,h1⟩
 | inr x =>
   have:=hq x e τ h;cases e with
   |nrm=>exact(this.1 rfl).elim
   | ex j =>
     simp only[inb];rw[u6 fun e=>this.2 (by rw[e])];exact⟨this.1,h⟩
   |ret=>exact⟨this.1,h⟩
def bf(ha:AWP ok a (qX id lv lr sh s) σ):AWP ok (.blk id a) (qJ0 lv lr sh s) σ:=by
 simp only[AWP];refine bO a ha fun e τ h=>?_;obtain⟨rfl,h1⟩:=h;simp only[inb,if_true];exact⟨rfl,h1⟩
def ah{m:Option α}{f:α->Option β}{r:β}(h:m.bind f=some r):∃x,m=some x/\f x=some r:=by
 cases m with
 |none=>cases h
 |some x=>exact⟨x,rfl,h⟩
def aw(h:cond c x y=z):(c=true/\x=z)\/(c=false/\y=z):=by
 cases c
 ·exact .inr ⟨rfl,h⟩
 ·exact .inl ⟨rfl,h⟩
def bC{α:Type}(xs:List α)(i:Int):Option α:=if 0<=i then xs[i.toNat]? else none
def cg(h:bC xs i=some x):0<=i/\xs[i.toNat]?=some x:=by
 unfold bC at h;split at h
 ·exact⟨‹_›,h⟩
 ·cases h
def grd(p:Prop)[Decidable p]:Option Unit:=if p then some () else none
def aY{p:Prop}[Decidable p]{u:Unit}(h:grd p=some u):p:=by
 unfold grd at h;split at h
 ·assumption
 ·cases h
def bnd{α β:Type}(a:α)(f:α->Option β):Option β:=f a
def bb{a:α}{f:α->Option β}{r:β}(h:bnd a f=some r):∃x,a=x/\f x=some r:=⟨a,rfl,h⟩
def bt(c:Bool):c=true\/c=false:=by cases c<;>simp
def wA(s:ByteArray)(i:Int):Option UInt8:=if 0<=i then s[i.toNat]? else none
def rX{s:ByteArray}{x:UInt8}(h:wA s i=some x):0<=i/\s[i.toNat]?=some x:=by
 unfold wA at h;split at h
 ·exact⟨‹_›,h⟩
 ·cases h
def N0:Nat:=2^64
def cY{α:Type}(es:List α)(i n:Nat):List α:=if i=0/\n=es.length then es else(es.drop i).take n
def bN(f:α->AV)(xs:List α)(i n:Nat):sub (xs.map f) i n=(cY xs i n).map f:=by
 unfold sub cY;simp only[A1];split
 ·rfl
 ·rw[K3,K4]
theorem cV(xs:List α):cY xs 0 xs.length=xs:=by simp[cY]
def uC(f:α->AV){n:Nat}(h:n=xs.length):sub (xs.map f) 0 n=xs.map f:=by rw[bN,h,cV]
def slT{α:Type}(xs:List α)(hi:Int):Option (List α):=if 0<=hi/\hi.toNat<=xs.length then some (xs.take hi.toNat) else none
def slF{α:Type}(xs:List α)(lo:Int):Option (List α):=if 0<=lo/\lo.toNat<=xs.length then some (xs.drop lo.toNat) else none
def slB{α:Type}(xs:List α)(lo hi:Int):Option (List α):=if 0<=lo/\0<=hi/\lo.toNat<=hi.toNat/\hi.toNat<=xs.length then some ((xs.drop lo.toNat).take (hi.toNat-lo.toNat)) else none
def eY(xs:List α)(i n:Nat):cY xs i n=(xs.drop i).take n:=by
 unfold cY;split
 ·rename_i h;rw[h.1,h.2];simp
 ·rfl
def zN(f:α->AV){hi:Int}(h:slT xs hi=some ys):True/\0<=hi/\True/\hi.toNat<=xs.length/\sub (xs.map f) 0 hi.toNat=ys.map f:=by
 unfold slT at h;split at h
 ·rename_i e;cases h;exact⟨trivial,e.1,trivial,e.2,by rw[bN,eY];simp⟩
 ·cases h
def ahn(f:α->AV){lo:Int}(h:slF xs lo=some ys):0<=lo/\True/\lo.toNat<=xs.length/\True/\sub (xs.map f) lo.toNat (xs.length-lo.toNat)=ys.map f:=by
 unfold slF at h;split at h
 ·rename_i e;cases h;exact⟨e.1,trivial,e.2,trivial,by rw[bN,eY,D8 (by simp)]⟩
 ·cases h
theorem Shp.sub{S':Type}{lv' lr':List Nat}{sh':S'->St}{s':S'}(h:Shp lv lr sh s τ)
 (h1:∀k∈lv',k∈lv) (h2:∀r∈lr',r∈lr) (h3:(sh s).resOk lv' lr'/\(sh s).res lv' lr'=sh' s'):Shp lv' lr' sh' s' τ:=by
 obtain⟨_,he⟩:=h;have ce:∀{α:Type}(g:Nat->α)(k:Nat)(l:List Nat),k∈l->aB k (l.map fun j=>(j,g j))=some (g k):=by
  intro α g k l hk;rw[ja,u7 hk]
 have hg:∀k∈lv,(sh s).get k=τ.get k:=by
  intro k hk;rw[<-he];simp only[St.get,St.res,ce _ k lv hk,G2]
 have hr:∀r∈lr,((sh s).row r).getD .dead=(τ.row r).getD .dead:=by
  intro r hk;rw[<-he];simp only[St.row,St.res,ce _ r lr hk,G2]
 obtain⟨⟨a,b,c⟩,d⟩:=h3;refine⟨⟨fun k hk r hr'=>a k hk r (by rw[hg k (h1 k hk)];exact hr'),fun q hq r hr'=>b q hq r (by rw[hr q (h2 q hq)];exact hr'),c⟩,?_⟩;rw[<-d];simp only[St.res,St.mk.injEq];exact⟨C6 fun k hk=>by rw[hg k (h1 k hk)],C6 fun r hk=>by rw[hr r (h2 r hk)]⟩
def nV
 (ha:AWP ok a (qJ lv lr sh q o) σ) (hn:∀s,o=.inl s->∀τ,Shp lv lr sh s τ->Q .nrm τ) (hx:∀x,o=.inr x->∀e τ,e≠.nrm->q x e τ->Q e τ):AWP ok a Q σ:=by
 refine bO a ha fun e τ h=>?_;cases o with
 |inl s=>obtain⟨rfl,h⟩:=h;exact hn s rfl τ h
 |inr x=>exact hx x rfl e τ h.1 h.2
def cQ
 (ha:AWP ok a (qJ0 lv lr sh s) σ) (hn:∀τ,Shp lv lr sh s τ->Q .nrm τ):AWP ok a Q σ:=by
 refine bO a ha fun e τ h=>?_;obtain⟨rfl,h⟩:=h;exact hn τ h
def qI:List Nat->Bool
 |[]=>true
 |x::xs=>!(xs.any fun y=>Nat.beq x y)&&qI xs
def acp(rs ns:List Nat):Bool:=qI (ns.map fun q=>rs.getD (q-1000000000) 0)&&ns.all fun q=>Nat.ble 1000000000 q&&L0 (q-1000000000) rs.length
theorem kD:∀{l:List Nat},qI l=true->l.Nodup
 |[],_=>F5
 | x :: xs, h => by
   simp only[qI,A7,G0,I8,Nat.beq_eq] at h;exact List.nodup_cons.2 ⟨fun hx=>h.1 x hx rfl,kD h.2⟩
def KM{ρ:Nat->Option Row}{d:Nat}{rs:List Nat}(ns:List Nat)(hn:outs.map (·.1)=ns)(h:acp rs ns=true):
 (outs.map fun p=>bkn d rs p.1).Nodup/\(∀p∈outs,1000000000<=p.1->p.1-1000000000<rs.length)/\(∀p∈outs,p.1<1000000000->ρ (bkn d rs p.1)=none/\bkn d rs p.1<1000000000):=by
 subst hn;unfold acp at h;simp only[A7,C9,I7,forall_exists_index,and_imp,D9] at h;obtain⟨h1,h2⟩:=h;have hb:∀p∈outs,1000000000<=p.1/\p.1-1000000000<rs.length:=fun p hp=>by
  have:=h2 p.1 p hp rfl;exact⟨C2 this.1,C2 this.2⟩
 refine⟨?_,fun p hp _=>(hb p hp).2,fun p hp hlt=>absurd (hb p hp).1 (by omega)⟩;have e:(outs.map fun p=>bkn d rs p.1)=outs.map ((fun q=>rs.getD (q-1000000000) 0)∘fun x=>x.1):=C6 fun p hp=>by
  simp only[bkn,if_pos (hb p hp).1,Function.comp]
 rw[e];exact kD h1
def QY(d:Nat)(rs ns ks:List Nat):Bool:=qI (ns.map (bkn d rs))&&ns.all fun q=>if Nat.ble 1000000000 q then L0 (q-1000000000) rs.length else ks.any (Nat.beq (bkn d rs q))&&L0 (bkn d rs q) 1000000000
def PS{ρ:Nat->Option Row}{d:Nat}{rs:List Nat}(ns ks:List Nat)(hn:outs.map (·.1)=ns)(h:QY d rs ns ks=true)(hk:∀q∈ks,ρ q=none):
 (outs.map fun p=>bkn d rs p.1).Nodup/\(∀p∈outs,1000000000<=p.1->p.1-1000000000<rs.length)/\(∀p∈outs,p.1<1000000000->ρ (bkn d rs p.1)=none/\bkn d rs p.1<1000000000):=by
 subst hn;unfold QY at h;simp only[A7,C9,I7,forall_exists_index,and_imp,D9] at h;obtain⟨h1,h2⟩:=h;refine⟨kD h1,fun p hp hge=>?_,fun p hp hlt=>?_⟩
 ·have:=h2 p.1 p hp rfl;rw[u7 (Nat.ble_eq_true_of_le hge)] at this;exact C2 this
 ·have:=h2 p.1 p hp rfl;rw[u6 (fun e=>by have:=C2 e;omega),A7,G5] at this;obtain⟨⟨x,hx,e⟩,h3⟩:=this;have e:=Nat.eq_of_beq_eq_true e;exact⟨by rw[e];exact hk x hx,C2 h3⟩
def dM(ha:AWP ok a (qX id lv lr sh s) σ)(hn:∀τ,Shp lv lr sh s τ->Q .nrm τ):AWP ok a (inb id Q) σ:=by
 have:=cQ (bf ha) hn;simpa only[AWP] using this
def xH(hq:∀b e τ,q b e τ->e≠.nrm/\e≠.ex id)
 (ha:AWP ok a (qS (qX id lv lr sh) q o) σ) (hn:∀s,o=.inl s->∀τ,Shp lv lr sh s τ->Q .nrm τ) (hx:∀x,o=.inr x->∀e τ,e≠.nrm->q x e τ->Q e τ):AWP ok a (inb id Q) σ:=by
 have:=nV (cT hq ha) hn hx;simpa only[AWP] using this
def gR{lr':List Nat}{res:AV}(h:Shp lv lr sh s τ)(h2:∀r∈lr',r∈lr)
 (h3:(sh s).resOk [] lr'/\((sh s).res [] lr').rows=outs) (h5:res=.tup []):yt [] lr' res outs .nrm τ:=by
 have:=Shp.sub (sh':=fun(_:Unit)=>(sh s).res [] lr') (s':=()) h (by simp) h2 ⟨h3.1,rfl⟩;subst h5;refine⟨[],rfl,rfl,this.1,by simp[AV.ments,aP],?_⟩;rw[this.2];exact h3.2
def lS{R:Type}{V:List RV}{emb:R->AV}(b:R)(e:Ex)(τ:St)(h:qR V emb b e τ):e≠.nrm/\e≠.ex id:=by
 obtain⟨rfl,_⟩:=h;simp
def sf{R:Type}{V:List RV}{emb:R->AV}{out:R->List (Nat×Row)}(b:R)(e:Ex)(τ:St)(h:qM V lr emb out b e τ):e≠.nrm/\e≠.ex id:=by
 obtain⟨rfl,_⟩:=h;simp
def ka(C:List AV):Prop:=(∀ρ k,C.map (snp ρ (k+1))=C)/\aP C=[]
def bK{C:List AV}(h:ka C)(r d:Nat):C.map (AV.ren r d)=C:=by rw[<-nv];exact nJ r d C h.2
end
end Vs

namespace Vs
open Go
def cfX{α:Type}(cmp:α->α->Option Int)(xs:List α)(i j:Fin xs.length):Int:=(cmp xs[i] xs[j]).getD 0
def ltX{α:Type}(cmp:α->α->Option Int)(xs:List α)(i j:Fin xs.length):Bool:=decide (cfX cmp xs i j<0)
def okX{α:Type}(cmp:α->α->Option Int)(xs:List α):Prop:=xs.length<4611686018427387904/\(∀i j:Fin xs.length,(cmp xs[i] xs[j]).isSome=true)/\(∀i,ltX cmp xs i i=false)/\
 (∀i j k,ltX cmp xs i j=true->ltX cmp xs j k=true->ltX cmp xs i k=true)/\(∀i j k,ltX cmp xs i j=false->ltX cmp xs j k=false->ltX cmp xs i k=false)
instance{α:Type}(cmp:α->α->Option Int)(xs:List α):Decidable (okX cmp xs):=by unfold okX;infer_instance
def fW{α:Type}(cmp:α->α->Option Int)(xs:List α)(h:0<xs.length):Array (Fin xs.length):=
 @Sort.pdq _ ⟨⟨0,h⟩⟩ (ltX cmp xs) (B1 id) 0 xs.length (Lib.bitLen xs.length) true true
def oV{α:Type}(cmp:α->α->Option Int)(xs:List α):Option (List α):=
 if h:0<xs.length then if okX cmp xs then some ((fW cmp xs h).toList.map fun i=>xs[i]) else none else some []
def swoX{α:Type}{cmp:α->α->Option Int}{xs:List α}(h:okX cmp xs):Sort.SWO (ltX cmp xs):=⟨h.2.2.1,h.2.2.2.1,h.2.2.2.2⟩
theorem mo{α:Type}{cmp:α->α->Option Int}{xs:List α}(h:0<xs.length)(hk:okX cmp xs):(fW cmp xs h).toList.Perm (E9 xs.length)/\(fW cmp xs h).size=xs.length/\
 ∀(i j:Nat)(hi:i<(fW cmp xs h).size)(hj:j<(fW cmp xs h).size),i<j->ltX cmp xs (fW cmp xs h)[j] (fW cmp xs h)[i]=false:=by
 letI:Inhabited (Fin xs.length):=⟨⟨0,h⟩⟩
 obtain⟨⟨p1,_,p3⟩,p4⟩:=Sort.pdq_sorts (ltX cmp xs) (swoX hk) (B1 id) 0 xs.length (Lib.bitLen xs.length) true true (C4 _) (by simp) (.inl rfl);have e:fW cmp xs h=Sort.pdq (ltX cmp xs) (B1 id) 0 xs.length (Lib.bitLen xs.length) true true:=rfl;rw[<-e] at p1 p3 p4;rw[H4] at p1;refine⟨?_,p1,fun i j hi hj hij=>?_⟩
 ·have h1:(fW cmp xs h).extract 0 xs.length=fW cmp xs h:=by
   have:=I4 (xs:=fW cmp xs h);rwa[p1] at this
  have h2:(B1 (n:=xs.length) id).extract 0 xs.length=B1 (n:=xs.length) id:=by
   have:=I4 (xs:=B1 (n:=xs.length) id);rwa[H4] at this
  rw[h1,h2] at p3;have h3:(B1 (n:=xs.length) id).toList=E9 xs.length:=by
   rw[Array.toList_ofFn];rfl
  simp_all
 ·have:=p4 i j (C4 _) hij (by omega)
  grind
def lm{α:Type}{cmp:α->α->Option Int}{xs ys:List α}(h:oV cmp xs=some ys):ys.length=xs.length:=by
 grind [List.length_map,Array.length_toList,mo,oV]
def CP{α:Type}{cmp:α->α->Option Int}{xs:List α}(cf:α->α->Int)(hl0:xs.length<4611686018427387904)(h1:∀x∈xs,∀y∈xs,cmp x y=some (cf x y))(h2:∀x∈xs,¬cf x x<0)
 (h3:∀x∈xs,∀y∈xs,∀z∈xs,cf x y<0->cf y z<0->cf x z<0) (h4:∀x∈xs,∀y∈xs,∀z∈xs,¬cf x y<0->¬cf y z<0->¬cf x z<0):
 ∃ys,oV cmp xs=some ys/\ys.Perm xs/\ys.Pairwise fun a b=>¬cf b a<0:=by
 have hm:∀i j:Fin xs.length,cmp xs[i] xs[j]=some (cf xs[i] xs[j]):=fun i j=>h1 _ (E8 i.isLt) _ (E8 j.isLt);have mm:∀i:Fin xs.length,xs[i]∈xs:=fun i=>E8 i.isLt;have hc:∀i j:Fin xs.length,cfX cmp xs i j=cf xs[i] xs[j]:=fun i j=>by
  simp_all [cfX]
 have hl:∀i j:Fin xs.length,ltX cmp xs i j=decide (cf xs[i] xs[j]<0):=fun i j=>by unfold ltX;rw[hc]
 have hk:okX cmp xs:=by
  refine⟨hl0,fun i j=>by rw[hm i j];rfl,fun i=>?_,fun i j k=>?_,fun i j k=>?_⟩
  ·simp_all
  ·grind
  ·grind
 unfold oV;by_cases h0:0<xs.length
 ·obtain⟨p1,p2,p3⟩:=mo h0 hk;rw[dif_pos h0,u7 hk];refine⟨_,rfl,?_,?_⟩
  ·have:=p1.map fun i=>xs[i];refine this.trans ?_;have e:(E9 xs.length).map (fun i=>xs[i])=xs:=by
    apply G6
    ·simp
    ·intro i h1 h2;simp
   rw[e]
  grind [List.pairwise_iff_getElem,List.length_map,Array.length_toList]
 simp_all
end Vs

namespace Vs
open Go Go.RowKit
structure mz(w W:World)(b:Nat):Prop where
 os:W.os=w.os
 tape:W.tape=w.tape
 output:W.output=w.output
 drawn:w.drawn<=W.drawn
 size:w.heap.size<=W.heap.size
 block:∀c,c<w.heap.size->c≠b->W.heap[c]?=w.heap[c]?
 frz:∀a:Addr,a.block<w.heap.size->W.frozen? a=w.frozen? a
def QK(m:Nat)(hm:0<m)(lt:Fin m->Fin m->Bool):Array (Fin m):=@Sort.pdq _ ⟨⟨0,hm⟩⟩ lt (B1 id) 0 m (Lib.bitLen m) true true
structure ER(P:Program)(f k:Nat)(sh:Value->Prop):Prop where
 fn:∃fn,P.funcs[f]?=some fn/\fn.body.isNone=false/\(fn.name== "runtime.NumGoroutine")=false
 nil0:∀(p:Option Addr)(cap:Nat)(fv:Value)(w:World),Calls P f #[.slice p 0 cap,fv] w fun e w'=>e=.returned (.tuple #[])/\w'=w
 srt:∀(m:Nat)(hm:0<m)(v:Fin m->Value)(cf:Fin m->Fin m->Int)(g:Nat)(us:Array Value)(b o cap:Nat)(w:World),Sort.SWO (fun i j=>decide (cf i j<0))->(∀i,(v i).cells.size=k/\sh (v i))->
  (∀args w,(callFunc g args).run P w=.ok (.enter g args) w)->
  (∀W,mz w W b->∀i j,Calls P g (#[v i,v j]++us) W fun e W'=>e=.returned (.int .i64 (cf i j))/\Below W.heap.size W W')->
  (∀i:Fin m,dz w b (o+i*k) (v i))->Free w b (o+cap*k)->m<=cap->b<w.heap.size->m<4611686018427387904->
  Calls P f #[.slice (some ⟨b,o,none⟩) m cap,.func (.func g) #[] us] w fun e w'=>e=.returned (.tuple #[])/\mz w w' b/\Free w' b (o+cap*k)/\
   (∀(j:Nat)(i:Fin m),(QK m hm fun i j=>decide (cf i j<0))[j]?=some i->dz w' b (o+j*k) (v i))/\∀t x,(t<o\/o+m*k<=t)->w.cell? ⟨b,t,none⟩=some x->w'.cell? ⟨b,t,none⟩=some x
def aft{w0 w:World}{tag:Nat->Tag}{β:Nat->Option Own}{ins:List (Nat×Row)}(hbel:Below w0.heap.size w0 w)(hold:∀b,b<w0.heap.size->tag b=.imm\/tag b=.out)(hlt:∀b,tag b≠.out->b<w.heap.size)
 (hrows:∀r,cJ w tag w0.heap.size β r (aB r ins)) (hwf:Wf ins) (k:Nat) (x:AV) (v:Value) (hx:Rep w (Imm tag) w0.heap.size β v x):aX w (fun b=>tag b≠.out) w.heap.size v (snp (fun r=>aB r ins) k x) []:=by
 let F:Fx:=⟨fun b=>b<w0.heap.size/\tag b=.imm,w,tag,β⟩;have hR:RR 0 w0 F ⟨[],ins⟩ {tmps:=#[],defers:=[]} w tag β:=by
  refine⟨by omega,.refl _ _,fun b _ hb=>⟨rfl,rfl⟩,fun b hb=>⟨hb,rfl⟩,fun r _ _=>rfl,hbel,rfl,rfl,fun b hb=>hb.1,hlt,fun b hb=>⟨⟨fun e=>⟨hb,e⟩,fun e=>e.2⟩,hold b hb⟩,fun j x hj=>by simp[aB] at hj,hrows,hwf⟩
 exact hR.snp (S:=fun b=>tag b≠.out) (fun b hb=>by rcases hb with e|⟨r,e⟩<;>simp[e]) k x v hx (.inr fun b hb=>hb)
def Jt{i0 m p:Nat}(d:Array (Fin m))(hd:d.toList.Perm (E9 m))(hs:d.size=m)(idx:Nat->Nat)(h0:∀j,j<i0->idx j=j)(h1:∀(j:Nat)(i:Fin m),d[j]?=some i->idx (i0+j)=i0+i.val)(h2:∀j,i0+m<=j->idx j=j):
 ((B7 (i0+m+p)).map idx).Perm (B7 (i0+m+p)):=by
 rw[K1,K1,J9,J9,D9,D9];have e0:(B7 i0).map idx=B7 i0:=by
  conv=>rhs;rw[<-List.map_id (B7 i0)]
  exact C6 fun j hj=>h0 j (H8.1 hj)
 have e2:(B7 p).map (idx∘fun x=>i0+m+x)=(B7 p).map fun x=>i0+m+x:=C6 fun j _=>by
  simp_all
 have e1:(B7 m).map (idx∘fun x=>i0+x)=d.toList.map fun i=>i0+i.val:=by
  apply G6
  ·simp[hs]
  ·simp_all
 have e3:(B7 m).map (fun x=>i0+x)=(E9 m).map fun i=>i0+i.val:=by
  apply G6
  ·simp
  ·intro j a b;simp
 grind
def Vt{α:Type}(xs ys:List α)(i j:Nat)(h:i+ys.length<=xs.length):(dg xs i ys)[j]?=if j<i then xs[j]? else if j<i+ys.length then ys[j-i]? else xs[j]?:=by
 unfold dg
 grind
def Iv{P:Program}{f k:Nat}{sh:Value->Prop}(L:ER P f k sh){α:Type}(E:α->AV)(hE:∀(x:α)(v:Value)(w:World)(S:Nat->Prop)(B:Nat)(fp:List Nat),aX w S B v (E x) fp->v.cells.size=k->sh v)
 {cmp:α->α->Option Int} {g:Nat} {Caps C:List AV} {ins:List (Nat×Row)} {xs ms ys zs:List α} {i0 n:Nat} (hms:cY xs i0 n=ms) (hzs:dg xs i0 ys=zs) (hC:Caps.map (snp (fun r=>aB r ins) 4)=C) (hno:aB 1000000000 ins=none) (hwfi:Wf ins) (hdi:∀r∈aP Caps,(aB r ins).isSome)
 (hg:∃fn,P.funcs[g]?=some fn/\fn.body.isNone=false/\(fn.name== "runtime.NumGoroutine")=false)
 (hcmp:∀x y r,cmp x y=some r->Ok P g ((E x).nrm::(E y).nrm::C) (.i r)) (h:oV cmp ms=some ys):
 OkM P f [.sl 1000000000 i0 n,.fn g Caps] ((1000000000,.arr k (xs.map E))::ins) (.tup []) ((1000000000,.arr k (zs.map E))::ins):=by
 subst hzs
 classical
 refine⟨L.fn,fun w0 w tag β vs hbel hold hlt hrows hwf hvs hat _=>?_⟩;have hlk:∀(row:Row)(r:Nat),aB r ((1000000000,row)::ins)=if r=1000000000 then some row else aB r ins:=fun row r=>by
  show(if 1000000000=r then some row else aB r ins)=_;by_cases e:r=1000000000
  ·simp[e]
  ·rw[u6 e,u6 (fun h=>e h.symm)]
 have h0:=hat 0 _ rfl;have h1:=hat 1 _ rfl;have hv2:vs=#[vs.getD 0 undef,vs.getD 1 undef]:=by
  apply J6
  ·rw[hvs];rfl
  ·intro i hi hj;rw[hvs] at hi;have:i=0\/i=1:=by simp at hi;omega
   rcases this with rfl|rfl<;>simp[hvs]
 generalize vs.getD 0 undef=v0 at h0 hv2;generalize vs.getD 1 undef=v1 at h1 hv2;subst hv2;obtain⟨us,rfl,hus,hux⟩:=h1.1.fn_inv;have hrow:=hrows 1000000000;rw[hlk,u7 rfl] at hrow
 -- what stays if nothing turns
 have idle:∀(p:Option Addr)(cap:Nat),ms=[]->v0=.slice p 0 cap->Calls P f #[v0,.func (.func g) #[] us] w fun e w'=>∃v tag' β',e=.returned v/\Below 0 w w'/\(∀b,b<w.heap.size->tag b=.imm\/tag b=.out->tag' b=tag b/\w'.heap[b]?=w.heap[b]?)/\
  (∀b,Imm tag b->Imm tag' b/\w'.heap[b]?=w.heap[b]?)/\(∀b,tag' b≠.out->b<w'.heap.size)/\(∀r,cJ w' tag' w0.heap.size β' r (aB r ((1000000000,.arr k ((dg xs i0 ys).map E))::ins)))/\Wf ((1000000000,.arr k ((dg xs i0 ys).map E))::ins)/\
  (∀r,1000000000<=r->cR (aB r ((1000000000,.arr k ((dg xs i0 ys).map E))::ins))->β' r=β r)/\Rep w' (Imm tag') w0.heap.size β' v (.tup [])/\∀r∈(AV.tup []).ments,(aB r ((1000000000,.arr k ((dg xs i0 ys).map E))::ins)).isSome:=by
  intro p cap hxs hv0;subst hv0;have hy:ys=[]:=List.eq_nil_of_length_eq_zero (by have:=lm h;rw[hxs] at this;simpa using this);have ho:dg xs i0 ys=xs:=by rw[hy];unfold dg;split<;>simp
  rw[ho];refine(L.nil0 p cap _ w).mono ?_;rintro e w' ⟨rfl,rfl⟩;exact⟨_,tag,β,rfl,.refl _ _,fun b _ _=>⟨rfl,rfl⟩,fun b hb=>⟨hb,rfl⟩,hlt,hrows,hwf,fun _ _ _=>rfl,.tup #[] [] rfl (fun j x hj=>by simp at hj),fun r hr=>by simp[AV.ments,aP] at hr⟩
 have hmk:∀(x:AV),aP [x]=x.ments:=fun x=>by simp[aP]
 have hsl:=h0.1;rcases hrow with⟨hb0,hes⟩|⟨b,o,cap,es,fps,hb0,⟨hb1,hb2,hb3⟩,hb4,hb5,hb6,hb7,hb8⟩
 ·have hxs:xs=[]:=B8.1 hes;cases hsl with
  |p _ _ hp=>cases hp
  |slB r i n b o sz cap len c hh=>rw[hb0] at hh;cases hh
  |slE r i b o sz cap len p hh=>rw[hb0] at hh;cases hh
  |slN r hh=>exact idle none 0 (by rw[<-hms,hxs];unfold cY;split<;>simp) rfl
  |slD r i n v hh=>rw[hb0] at hh;cases hh
 ·rw[A1] at hb0 hb4 hb7 hb8;have hcv:(∃c,v0=.slice (some ⟨b,o+i0*k,none⟩) n c/\i0+c=cap/\n<=c/\i0+n<=xs.length)\/n=0/\∃p c,v0=.slice p 0 c:=by
   cases hsl with
   |p _ _ hp=>cases hp
   | slB r i n b' o' sz cap' len c hh hc hn hl =>
     rw[hb0] at hh;cases hh;exact .inl ⟨c,rfl,hc,hn,hl⟩
   |slE r i b' o' sz cap' len p hh=>exact .inr ⟨rfl,_,_,rfl⟩
   |slN r hh=>rw[hb0] at hh;cases hh
   |slD r i n v hh=>rw[hb0] at hh;cases hh
  have hmsd:ms=(xs.drop i0).take n:=by rw[<-hms,eY]
  by_cases hx0:ms=[]
  ·rcases hcv with⟨c,e,_,hnc,hil⟩|⟨_,p,c,e⟩
   ·have hn0:n=0:=by
     have:=congrArg K8 hmsd;rw[hx0] at this;simp only[List.length_nil,D0,D3] at this;omega
    exact idle _ c hx0 (by rw[e,hn0])
   ·exact idle p c hx0 e
  have hpos:0<ms.length:=I2.2 hx0;obtain⟨c,hv0,hic,hnc,hil⟩:∃c,v0=.slice (some ⟨b,o+i0*k,none⟩) n c/\i0+c=cap/\n<=c/\i0+n<=xs.length:=by
   rcases hcv with e|⟨e,_⟩
   ·exact e
   ·exfalso;rw[hmsd,e] at hpos;simp at hpos
  have hml:ms.length=n:=by rw[hmsd];simp;omega
  subst hv0;rw[<-hml] at hil hnc⊢;have hmsq:∀q,q<ms.length->ms[q]?=xs[i0+q]?:=fun q hq=>by
   rw[hmsd,F6,u7 (by omega),F7]
  have hmsx:∀i:Fin ms.length,xs[i0+i.val]?=some ms[i]:=fun i=>by
   rw[<-hmsq i.val i.isLt];exact A2 i.isLt
  -- the comparison answers on all pairs
  have h':=h;unfold oV at h';rw[dif_pos hpos] at h';by_cases hk:okX cmp ms
  ·rw[u7 hk] at h';simp only[Option.some.injEq] at h';obtain⟨p1,p2,p3⟩:=mo hpos hk;have hd0:fW cmp ms hpos=QK ms.length hpos fun i j=>decide (cfX cmp ms i j<0):=rfl;have hmap:∀i:Fin ms.length,(xs.map E)[i0+i.val]?=some (E ms[i]):=fun i=>by rw[A5,hmsx i];rfl
   have hbl:b<w.heap.size:=hlt b (by rw[hb1];simp);have hnb:∀c,Imm tag c->c≠b:=fun c hc e=>by
    rw[e] at hc;rcases hc with hc|⟨r,hc⟩<;>rw[hb1] at hc<;>cases hc
   -- the rows that the comparison captures,without the row that is sorted
   let tag1:Nat->Tag:=fun c=>if c=b then .out else tag c
   let β1:Nat->Option Own:=fun r=>if r=1000000000 then none else β r
   have ht1:∀c,c≠b->tag1 c=tag c:=fun c hc=>u6 hc;have himm1:∀c,Imm tag c->Imm tag1 c:=fun c hc=>by unfold Imm;rw[ht1 c (hnb c hc)];exact hc
   have hrows1:∀r,cJ w tag1 w0.heap.size β1 r (aB r ins):=fun r=>by
    by_cases e:r=1000000000
    ·subst e;rw[hno];exact u7 rfl
    ·have hr:=hrows r;rw[hlk,u6 e] at hr;refine hr.mono (fun c hc=>⟨himm1 c hc,rfl⟩) (fun c hc=>⟨by rw[ht1 c (fun e2=>by rw[e2,hb1] at hc;cases hc;exact e rfl)];exact hc,rfl⟩) (fun c hc=>by rw[ht1 c (fun e2=>by rw[e2,hb1] at hc;cases hc)];exact hc) (u6 e) fun x hx q hq=>?_;by_cases e2:q=1000000000
     ·exact .inr (u7 e2)
     ·exact .inl (u6 e2)
   have hold1:∀c,c<w0.heap.size->tag1 c=.imm\/tag1 c=.out:=fun c hc=>by rw[ht1 c (by omega)];exact hold c hc
   have hlt1:∀c,tag1 c≠.out->c<w.heap.size:=fun c hc=>by
    by_cases e:c=b
    ·rw[e];exact hbl
    ·rw[ht1 c e] at hc;exact hlt c hc
   have hCl:C.length=us.size:=by rw[<-hC,A1,hus]
   have hnear:∀W,mz w W b->∀c,tag1 c≠.out->c<W.heap.size/\W.heap[c]?=w.heap[c]?:=fun W hW c hc=>by
    have e:c≠b:=fun e=>hc (by simp[tag1,e]);exact⟨A9 (hlt1 c hc) hW.size,hW.block c (hlt1 c hc) e⟩
   have hcaps:∀W,mz w W b->∀(j:Nat)(x:AV),C[j]?=some x->aX W (fun c=>tag1 c≠.out) W.heap.size (us.getD j undef) x []:=fun W hW j x hj=>by
    rw[<-hC] at hj;obtain⟨y,hy,rfl⟩:=Cg hj;have hi1:∀c,Imm tag1 c->tag1 c≠.out:=fun c hc=>by rcases hc with e|⟨r,e⟩<;>rw[e]<;>simp
    refine aft (w:=W) ⟨⟨hW.os.trans hbel.bel.os,hW.tape.trans hbel.bel.tape,hW.output.trans hbel.bel.output,I9 hbel.size hW.size,fun c hc=>(hW.block c (A9 hc hbel.size) (by omega)).trans (hbel.block c hc)⟩,fun x hx=>(hW.frz x (A9 hx hbel.size)).trans (hbel.frz x hx),I9 hbel.drawn hW.drawn⟩
     hold1 (fun c hc=>(hnear W hW c hc).1) (fun r=>(hrows1 r).mono (fun c hc=>⟨hc,(hnear W hW c (hi1 c hc)).2⟩) (fun c hc=>⟨hc,(hnear W hW c (by rw[hc];simp)).2⟩) (fun c hc=>hc) rfl fun x hx q hq=>.inl rfl) hwfi 4 y _ ((hux j y hy).mono (fun c hc=>⟨himm1 c hc,(hnear W hW c (hi1 c (himm1 c hc))).2⟩) fun r hr=>?_)
    by_cases e2:r=1000000000
    ·exact .inr (u7 e2)
    ·exact .inl (u6 e2)
   have hsort:=L.srt ms.length hpos (fun i=>es (i0+i.val)) (cfX cmp ms) g us b (o+i0*k) c w (swoX hk) (fun i=>by
    have q1:=hb5 _ _ (hmap i);exact⟨q1.1,hE _ _ _ _ _ _ (hb6 _ _ (hmap i)) q1.1⟩) (fun args w1=>by
    obtain⟨fn,e1,e2,e3⟩:=hg;have e2':¬fn.body=none:=fun e=>by rw[e] at e2;cases e2
    have e3':¬fn.name= "runtime.NumGoroutine":=by simpa using e3
    simp[callFunc,e1,e2',e3']) (fun W hW i j=>by
    have hcm:cmp ms[i] ms[j]=some (cfX cmp ms i j):=by
     have:=hk.2.1 i j;unfold cfX;cases e:cmp ms[i] ms[j] with
     |none=>rw[e] at this;cases this
     |some r=>rfl
    obtain⟨_,hcall⟩:=hcmp _ _ _ hcm;refine(hcall W (fun c=>tag1 c≠.out) (#[es (i0+i.val),es (i0+j.val)]++us) (fun c hc=>(hnear W hW c hc).1) (by simp[hCl];omega) (fun q x hq=>?_) fun _ _=>trivial).mono ?_
    ·have helem:∀i:Fin ms.length,aX W (fun c=>tag1 c≠.out) W.heap.size (es (i0+i.val)) (E ms[i]).nrm []:=fun i=>by
      have:=hb6 _ _ (hmap i);exact(this.mono (S':=fun c=>tag1 c≠.out) (w':=W) (fun c hc=>by
       have:tag1 c≠.out:=by rw[ht1 c (hnb c hc)];rcases hc with e|⟨r,e⟩<;>rw[e]<;>simp
       exact⟨this,(hnear W hW c this).2⟩)).nrm fun c hc=>⟨hc,(hnear W hW c hc).1⟩
     match q with
     |0=>simp only[G7,Option.some.injEq] at hq;subst hq;rw[A6,B9 (by simp)];exact helem i
     |1=>simp only[G8,G7,Option.some.injEq] at hq;subst hq;rw[A6,B9 (by simp)];exact helem j
     | q + 2 =>
       simp only[G8] at hq;have e:(#[es (i0+i.val),es (i0+j.val)]++us).getD (q+2) undef=us.getD q undef:=by
        rw[A6,A6,Array.getElem?_append_right (by simp)];simp
       rw[e];exact hcaps W hW q x hq
    ·rintro e W' ⟨v,fp,S',rfl,hb,_,_,hr⟩;cases hr;exact⟨rfl,hb⟩) (fun i=>by
    have:=(hb5 _ _ (hmap i)).2;rwa[B0,<-C5] at this) (by rw[C5,<-B0,hic];exact hb3) hnc hbl hk.1
   refine hsort.mono ?_;rintro e w' ⟨rfl,hN,hfree,hva,hrest⟩;rw[C5,<-B0,hic] at hfree;have hblk:∀c,c<w.heap.size->c≠b->w'.heap[c]?=w.heap[c]?:=hN.block;have himmk:∀c,Imm tag c->Imm tag c/\w'.heap[c]?=w.heap[c]?:=fun c hc=>⟨hc,hblk c (hlt c (by rcases hc with e|⟨r,e⟩<;>rw[e]<;>simp)) (hnb c hc)⟩;have hyl:ys.length=ms.length:=lm h;have hol:(dg xs i0 ys).length=xs.length:=gg _ _ _;let idx:Nat->Nat:=fun j=>if j<i0 then j else match(fW cmp ms hpos)[j-i0]? with|some i=>i0+i.val|none=>j
   have hidx0:∀j,j<i0->idx j=j:=fun j hj=>by simp only[idx,if_pos hj]
   have hidx1:∀(j:Nat)(i:Fin ms.length),(fW cmp ms hpos)[j]?=some i->idx (i0+j)=i0+i.val:=fun j i e=>by
    simp only[idx];rw[u6 (by omega),Nat.add_sub_cancel_left,e]
   have hidx2:∀j,i0+ms.length<=j->idx j=j:=fun j hj=>by
    simp only[idx];rw[u6 (by omega),H0 (by omega)]
   have hperm:∀q:Nat->List Nat,(cz xs.length fun j=>q (idx j)).Perm (cz xs.length q):=fun q=>by
    have e:xs.length=i0+ms.length+(xs.length-(i0+ms.length)):=by omega
    have hp:=Jt (p:=xs.length-(i0+ms.length)) (fW cmp ms hpos) p1 p2 idx hidx0 hidx1 hidx2;rw[<-e] at hp;have:=hp.flatMap_right q;unfold cz;rwa[List.flatMap_map] at this
   have hcell:∀j x,((dg xs i0 ys).map E)[j]?=some x->(xs.map E)[idx j]?=some x/\((es (idx j)).cells.size=k->dz w b (o+idx j*k) (es (idx j))->dz w' b (o+j*k) (es (idx j))):=fun j x hj=>by
    rw[A5,Vt xs ys i0 j (by omega),hyl] at hj;by_cases h1:j<i0
    ·rw[u7 h1] at hj;rw[hidx0 j h1];refine⟨by rw[A5];exact hj,fun hsz hv p x hx=>⟨hrest _ _ (.inl ?_) (hv p x hx).1,(hv p x hx).2⟩⟩;have hp:=(B2.1 hx).1;have:=A3 k (show j+1<=i0 from h1);rw[B0,G1] at this;omega
    ·rw[u6 h1] at hj;by_cases h2:j<i0+ms.length
     ·rw[u7 h2] at hj;have hj':j-i0<(fW cmp ms hpos).size:=by rw[p2];omega
      have i1:(fW cmp ms hpos)[j-i0]?=some (fW cmp ms hpos)[j-i0]:=B4 hj';have e:idx j=i0+((fW cmp ms hpos)[j-i0]).val:=by
       have:=hidx1 _ _ i1;rwa[show i0+(j-i0)=j by omega] at this
      rw[e];refine⟨?_,fun _ _=>?_⟩
      ·rw[hmap];rw[<-h',A5,H5,i1] at hj;exact hj
      ·have:=hva (j-i0) _ (by rw[<-hd0];exact i1);rwa[C5,<-B0,show i0+(j-i0)=j by omega] at this
     ·rw[u6 h2] at hj;rw[hidx2 j (by omega)];refine⟨by rw[A5];exact hj,fun hsz hv p x hx=>⟨hrest _ _ (.inr ?_) (hv p x hx).1,(hv p x hx).2⟩⟩;have:=A3 k (show i0+ms.length<=j by omega);rw[B0] at this;omega
   refine⟨_,tag,β,rfl,⟨⟨hN.os,hN.tape,hN.output,hN.size,fun c hc=>by omega⟩,hN.frz,hN.drawn⟩,fun c hc ht=>⟨rfl,hblk c hc (fun e=>by rw[e,hb1] at ht;rcases ht with ht|ht<;>cases ht)⟩,himmk,fun c hc=>A9 (hlt c hc) hN.size,fun r=>?_,fun q x hx=>?_,fun _ _ _=>rfl,.tup #[] [] rfl (fun j x hj=>by simp at hj),fun r hr=>by simp[AV.ments,aP] at hr⟩
   ·rw[hlk];split
    ·rename_i e;subst e;refine .inr ⟨b,o,cap,fun j=>es (idx j),fun j=>fps (idx j),by rw[A1,hol];exact hb0,⟨hb1,hb2,hfree⟩,by rw[A1,hol];exact hb4,fun j x hj=>?_,fun j x hj=>?_,?_,?_⟩
     ·obtain⟨c1,c2⟩:=hcell j x hj;exact⟨(hb5 _ _ c1).1,c2 (hb5 _ _ c1).1 (hb5 _ _ c1).2⟩
     ·exact(hb6 _ _ (hcell j x hj).1).mono himmk
     ·rw[A1,hol];exact(hperm fps).nodup_iff.2 hb7
     ·intro c hc;rw[A1,hol] at hc;exact hb8 c ((hperm fps).mem_iff.1 hc)
    ·rename_i e;have hr:=hrows r;rw[hlk,u6 e] at hr;exact hr.mono himmk (fun c hc=>⟨hc,hblk c (hlt c (by rw[hc];simp)) (fun e2=>by rw[e2,hb1] at hc;cases hc;exact e rfl)⟩) (fun c hc=>hc) rfl fun x hx q hq=>.inl rfl
   ·rw[hlk] at hx;split at hx
    ·cases hx
    ·intro hq';have hw2:=hwf q x (by rw[hlk,u6 (by assumption)];exact hx);intro hmem;have:=hw2 hq' hmem;rw[hlk] at this⊢;split
     ·rfl
     ·rename_i e2;rw[u6 e2] at this;exact this
  ·rw[u6 hk] at h';cases h'
def Nk{P:Program}{f k:Nat}{sh:Value->Prop}(L:ER P f k sh){α:Type}(E:α->AV)(hE:∀(x:α)(v:Value)(w:World)(S:Nat->Prop)(B:Nat)(fp:List Nat),aX w S B v (E x) fp->v.cells.size=k->sh v)
 {cmp:α->α->Option Int} {g:Nat} {Caps C:List AV} {ins:List (Nat×Row)} {xs ys:List α} {n:Nat} (hn:n=xs.length) (hC:Caps.map (snp (fun r=>aB r ins) 4)=C) (hno:aB 1000000000 ins=none) (hwfi:Wf ins) (hdi:∀r∈aP Caps,(aB r ins).isSome)
 (hg:∃fn,P.funcs[g]?=some fn/\fn.body.isNone=false/\(fn.name== "runtime.NumGoroutine")=false)
 (hcmp:∀x y r,cmp x y=some r->Ok P g ((E x).nrm::(E y).nrm::C) (.i r)) (h:oV cmp xs=some ys):
 OkM P f [.sl 1000000000 0 n,.fn g Caps] ((1000000000,.arr k (xs.map E))::ins) (.tup []) ((1000000000,.arr k (ys.map E))::ins):=by
 have:=Iv L E hE (cmp:=cmp) (i0:=0) (n:=n) (ms:=xs) (by rw[hn,cV]) rfl hC hno hwfi hdi hg hcmp h;have e:dg xs 0 ys=ys:=by
  have hl:=lm h;unfold dg;rw[u7 (by omega)];simp[hl]
 rwa[e] at this
end Vs

namespace Vs
open Go Go.RowKit Go.Proofs
def BE{W W':World}(h:Below W.heap.size W W'):∃q os,W'=Sort.grow (W.drewN q) os:=by
 refine⟨W'.drawn-W.drawn,W'.heap.extract W.heap.size W'.heap.size,?_⟩;have e1:W'.heap=W.heap++W'.heap.extract W.heap.size W'.heap.size:=by
  apply Array.ext_getElem?;intro i;rw[Array.getElem?_append];have hs:=h.size;split
  ·rename_i hi;exact h.block i hi
  ·grind
 have e2:W'.drawn=W.drawn+(W'.drawn-W.drawn):=by have:=h.drawn;omega
 have b1:=h.bel.os;have b2:=h.bel.tape;have b3:=h.bel.output;cases W' with
 | mk heap tape drawn os output =>
   grind [World.mk.injEq,Sort.grow,World.drewN]
def uA{α:Type}[Inhabited α]{enc:α->Value}{w:World}{b o m:Nat}{d:Array α}{os:Array Obj}(hb:b<w.heap.size):mz w (sortWorld enc w b o m d os) b:=by
 have hp:∀c,c≠b->(Sort.putRow enc (Sort.ahead w m) b o d).heap[c]?=w.heap[c]?:=fun c hc=>by
  simp only[Sort.putRow,Sort.mapBlock];rw[B6,u6 (fun e=>hc e.symm)];rfl
 have hs:(Sort.putRow enc (Sort.ahead w m) b o d).heap.size=w.heap.size:=by simp[Sort.putRow,Sort.mapBlock,Sort.ahead]
 refine⟨rfl,rfl,rfl,?_,?_,?_,?_⟩
 ·show w.drawn<=w.drawn+m;omega
 ·show w.heap.size<=(Sort.grow _ os).heap.size;rw[Sort.size_grow,hs];omega
 ·intro c hc hne;show(Sort.grow _ os).heap[c]?=_;rw[Sort.heap_grow_old _ _ (by rw[hs];exact hc)];exact hp c hne
 ·intro a ha;show(Sort.grow _ os).frozen? a=_;rw[Sort.frozen?_grow _ _ _ (by rw[hs];exact ha)];rw[Sort.frozen?_putRow];rfl
def rV{α:Type}[Inhabited α]{enc:α->Value}{w:World}{b o m:Nat}{d0 d:Array α}{os:Array Obj}(hb:b<w.heap.size)(hH:Sort.Holds enc w b o d0)(hs:d.size=d0.size)(j:Nat)(hj:j<d.size):
 (sortWorld enc w b o m d os).cell? ⟨b,o+j,none⟩=some (enc d[j]!):=by
 show(Sort.grow _ os).cell? _=_;rw[Sort.cell?_grow _ _ _ (by simp_all)];have:=Sort.cell?_putRow enc (Sort.ahead w m) b o d0 d (Sort.holds_ahead _ _ _ _ _ _ hH) hs j hj;exact this
def rl{α:Type}[Inhabited α]{enc:α->Value}{w:World}{b o m t:Nat}{d:Array α}{os:Array Obj}(hb:b<w.heap.size)(hf:Free w b t):Free (sortWorld enc w b o m d os) b t:=by
 obtain⟨c,ty,h1,h2⟩:=hf;refine⟨Sort.putCells enc o d c,ty,?_,by grind [Sort.putCells]⟩;show(Sort.grow _ os).heap[b]?=_;rw[Sort.heap_grow_old _ _ (by simp_all)];simp only[Sort.putRow,Sort.mapBlock,B6,if_true];show((Sort.ahead w m).heap[b]?).map _=_;rw[show(Sort.ahead w m).heap[b]?=w.heap[b]? from rfl,h1];rfl
def pH{α:Type}[Inhabited α]{enc:α->Value}{w:World}{b o m:Nat}{d:Array α}{os:Array Obj}(hb:b<w.heap.size)(t:Nat)(h:t<o\/o+d.size<=t):
 (sortWorld enc w b o m d os).cell? ⟨b,t,none⟩=w.cell? ⟨b,t,none⟩:=by
 show(Sort.grow _ os).cell? _=_;rw[Sort.cell?_grow _ _ _ (by rw[Sort.size_putRow];exact hb),Sort.cell?_putRow_other _ _ _ _ _ _ (.inr h)];rfl
def abr{P:Program}{f k:Nat}{A:au}{V:List RV}(h:ba P f k A V=true):∃fn,P.funcs[f]?=some fn/\fn.body.isNone=false/\(fn.name== "runtime.NumGoroutine")=false:=by
 unfold ba at h
 grind
end Vs

namespace Vs
open Go Go.RowKit Go.Proofs
def shK(k:Nat)(v:Value):Prop:=∃vs:Array Value,v=.agg vs/\vs.size=k/\∀x∈vs,x.oneCell'=true
def JB{k:Nat}{w:World}{S:Nat->Prop}{B:Nat}{v:Value}{cs:List AV}{fp:List Nat}(h:aX w S B v (.agg cs) fp)(hk:v.cells.size=k):shK k v:=by
 obtain⟨vs,_,rfl,_,h1,_⟩:=h.agg_at;exact⟨vs,rfl,hk,h1⟩
def divk{k j p:Nat}(hp:p<k):(j*k+p)/k=j/\(j*k+p)%k=p:=by
 rw[K6,Nat.add_mul_div_right _ _ (by omega),J7 hp,Nat.add_mul_mod_self_right,Nat.mod_eq_of_lt hp];exact⟨by omega,rfl⟩
def adp{P:Program}{ρ:Go.Shelf.Ren}(L:SlLaysF0.n6 P ρ)(k:Nat)(hk0:0<k)(aE:∀w,(isAgg (ρ.t 24)).run P w=.ok true w)(zE:∀w,(Go.sizeOf (ρ.t 24)).run P w=.ok k w)
 (hnil:∀(p:Option Addr)(cap:Nat)(fv:Value)(w:World),Calls P (ρ.f 6) #[.slice p 0 cap,fv] w fun e w'=>e=.returned (.tuple #[])/\w'=w)
 (hfn:∃fn,P.funcs[ρ.f 6]?=some fn/\fn.body.isNone=false/\(fn.name== "runtime.NumGoroutine")=false):ER P (ρ.f 6) k (shK k) where
 fn:=hfn
 nil0:=hnil
 srt:=by
  intro m hm v cf g us b o cap w hO hv eg hcmp hva hfree hmc hb hbig
  letI:Inhabited (Fin m):=⟨⟨0,hm⟩⟩
  let enc:Fin m->List Value:=fun i=>(v i).cells.toList;have hk:∀x,(enc x).length=k:=fun x=>by simp only[enc,D5];exact(hv x).1
  have hsh:∀x,∃vs:Array Value,v x=.agg vs/\vs.size=k/\∀c∈vs,c.oneCell'=true:=fun x=>(hv x).2;have h1:∀x,∀c∈enc x,c.oneCell'=true:=fun x c hc=>by
   obtain⟨vs,e,_,h⟩:=hsh x;simp only[enc,e,Value.cells,Array.mem_toList_iff] at hc;exact h c hc
  have hval:∀x,Value.agg (enc x).toArray=v x:=fun x=>by
   obtain⟨vs,e,_,_⟩:=hsh x;simp only[enc,e,Value.cells,Array.toArray_toList]
  have hfz:∀t,w.frozen? ⟨b,t,none⟩=false:=fun t=>by
   obtain⟨c,ty,e1,_⟩:=hfree;unfold World.frozen?;rw[e1];simp
  have hsz:(B1 (n:=m) id).size=m:=H4;have hof:∀j(hj:j<m),(B1 (n:=m) id)[j]! =⟨j,hj⟩:=fun j hj=>by
   rw[getElem!_pos _ j (by simpa using hj),Array.getElem_ofFn];rfl
  have hcell1:∀(i:Fin m)(p:Nat)(hp:p<k),(v i).cells[p]?=some (enc i)[p]!:=fun i p hp=>by
   have hs:=(hv i).1;rw[B4 (by omega),getElem!_pos _ p (by rw[hk];exact hp)];simp only[enc,Array.getElem_toList]
  have hH:Sort.HoldsK enc k w b o (B1 (n:=m) id):=by
   intro t ht;rw[Sort.size_flatK,hsz] at ht;have hj:t/k<m:=H9 (by rwa[J0] at ht);have hp:t%k<k:=Nat.mod_lt _ hk0;rw[Sort.get_flatK _ _ _ t (by rw[hsz];exact ht),hof _ hj];have hc:=hva ⟨t/k,hj⟩ (t%k) _ (hcell1 _ _ hp);have e:o+t/k*k+t%k=o+t:=by
    have:=Nat.div_add_mod t k;rw[J0] at this;omega
   simp only[e] at hc;exact⟨hc.1,hfz _⟩
  have hwo:(Sort.SWO (ltOf cf)):=hO;have hC:CmpLays P g us enc k cf b o (B1 (n:=m) id).size w:=fun q os dk hdk x y=>by
   have hn:mz w (sortWorldK enc k w b o q dk os) b:=uA (enc:=fun v:Value=>v) (o:=o) (m:=q) (d:=Sort.flatK enc k dk) (os:=os) hb;rw[hval,hval];refine(hcmp _ hn x y).mono ?_;rintro e W' ⟨rfl,hbel⟩;exact⟨rfl,BE hbel⟩
  have:=AnyQ.slices_SortFunc_eq L k aE zE enc hk h1 cf hwo g us b o cap (B1 (n:=m) id) w eg hC hH hb (by rw[hsz];exact hbig);rw[hsz] at this;refine this.mono ?_;rintro e w' ⟨rfl,q,os,rfl⟩;have hd:Sort.pdq (ltOf cf) (B1 id) 0 m (Lib.bitLen m) true true=QK m hm fun i j=>decide (cf i j<0):=rfl;have hps:=(Sort.pdq_sorts (ltOf cf) hwo (B1 (n:=m) id) 0 m (Lib.bitLen m) true true (C4 _) (by simp) (.inl rfl)).1.1;refine⟨rfl,uA (enc:=fun v:Value=>v) hb,rl (enc:=fun v:Value=>v) hb hfree,fun j i hji=>?_,fun t x ht hx=>?_⟩;rotate_left
  ·have:=pH (enc:=fun v:Value=>v) (m:=q) (os:=os) (d:=Sort.flatK enc k (Sort.pdq (ltOf cf) (B1 id) 0 m (Lib.bitLen m) true true)) hb t (by rw[Sort.size_flatK,hps,hsz];omega);exact this.trans hx
  rw[<-hd] at hji;obtain⟨hj,e⟩:=B2.1 hji;intro p x hx;have hp:p<k:=by
   have:=(B2.1 hx).1;rw[(hv i).1] at this;exact this
  have hjm:j<m:=by rw[hps,hsz] at hj;exact hj
  have hlt:j*k+p<(Sort.pdq (ltOf cf) (B1 id) 0 m (Lib.bitLen m) true true).size*k:=by
   have:=A3 k (show j+1<=(Sort.pdq (ltOf cf) (B1 id) 0 m (Lib.bitLen m) true true).size from hj);rw[B0,G1] at this;omega
  have hcell:=rV (enc:=fun v:Value=>v) (m:=q) (os:=os) (d:=Sort.flatK enc k (Sort.pdq (ltOf cf) (B1 id) 0 m (Lib.bitLen m) true true)) hb hH (by rw[Sort.size_flatK,Sort.size_flatK,hps]) (j*k+p) (by rw[Sort.size_flatK];exact hlt);obtain⟨d1,d2⟩:=divk (j:=j) hp;rw[Sort.get_flatK _ _ _ _ hlt,d1,d2,getElem!_pos _ j hj,e] at hcell;have hx2:=hcell1 i p hp;rw[hx] at hx2;simp only[Option.some.injEq] at hx2;subst hx2;obtain⟨vs,ev,hvs,h⟩:=hsh i;refine⟨by rw[C5];exact hcell,h _ ?_⟩;have:=H6 hx;rw[ev] at this;simpa[Value.cells] using this
end Vs

namespace Vs
open Go
def sM(xs:List Int):Option (List Int):=if xs.length<4611686018427387904 then some (xs.mergeSort fun x y=>decide (x<=y)) else none
def Ev{xs ys:List Int}(h:sM xs=some ys):xs.length<4611686018427387904/\ys=xs.mergeSort fun x y=>decide (x<=y):=by
 unfold sM at h;split at h
 ·rename_i e;cases h;exact⟨e,rfl⟩
 ·cases h
def Iu{xs ys:List Int}(h:sM xs=some ys):ys.length=xs.length:=by
 rw[(Ev h).2,E0]
def agq(xs:List Int)(h:xs.length<4611686018427387904):∃l,sM xs=some l/\l.Perm xs/\l.Pairwise (·<=·):=by
 refine⟨_,u7 h,List.mergeSort_perm _ _,?_⟩;have:=List.pairwise_mergeSort (le:=fun x y:Int=>decide (x<=y)) (by intro a b c;simp;omega) (by intro a b;simp;omega) xs;exact this.imp (by simp)
end Vs

namespace Vs
open Go Go.RowKit Go.Proofs
structure RD(P:Program)(f:Nat):Prop where
 fn:∃fn,P.funcs[f]?=some fn/\fn.body.isNone=false/\(fn.name== "runtime.NumGoroutine")=false
 nil0:∀(p:Option Addr)(cap:Nat)(w:World),Calls P f #[.slice p 0 cap] w fun e w'=>e=.returned (.tuple #[])/\w'=w
 srt:∀(zs:List Int)(b o cap:Nat)(w:World),(∀(j:Nat) x,zs[j]?=some x->w.cell? ⟨b,o+j,none⟩=some (.int .i64 x))->Free w b (o+cap)->zs.length<=cap->b<w.heap.size->zs.length<4611686018427387904->
  Calls P f #[.slice (some ⟨b,o,none⟩) zs.length cap] w fun e w'=>e=.returned (.tuple #[])/\mz w w' b/\Free w' b (o+cap)/\
   ∀(j:Nat) x,(zs.mergeSort fun x y=>decide (x<=y))[j]?=some x->w'.cell? ⟨b,o+j,none⟩=some (.int .i64 x)
def acx{P:Program}{ρ:Go.Shelf.Ren}(L:Lays.n189 P ρ)(hfn:∃fn,P.funcs[ρ.f 189]?=some fn/\fn.body.isNone=false/\(fn.name== "runtime.NumGoroutine")=false):RD P (ρ.f 189) where
 fn:=hfn
 nil0:=fun p cap w=>Any.slices_Sort_int_none L p cap w
 srt:=by
  intro zs b o cap w hv hfree hmc hb hbig;have hH:Sort.Holds (Value.int .i64) w b o zs.toArray:=by
   intro j hj;rw[J1] at hj;have e:zs.toArray[j]! =zs[j]:=by rw[getElem!_pos _ j (by simpa using hj)];rfl
   rw[e];refine⟨hv j _ (A2 hj),?_⟩;obtain⟨c,ty,e1,_⟩:=hfree;unfold World.frozen?;rw[e1];simp
  refine(Any.slices_Sort_int L b o cap zs w hH hb hbig).mono ?_;rintro e w' ⟨rfl,m,os,rfl⟩;have hs:(Sort.putRow (Value.int .i64) (Sort.ahead w m) b o (zs.mergeSort fun x y=>decide (x<=y)).toArray).heap.size=w.heap.size:=by simp[Sort.putRow,Sort.mapBlock,Sort.ahead]
  refine⟨rfl,⟨rfl,rfl,rfl,?_,?_,?_,?_⟩,?_,fun j x hj=>?_⟩
  ·show w.drawn<=w.drawn+m;omega
  ·show w.heap.size<=(Sort.grow _ os).heap.size;rw[Sort.size_grow,hs];omega
  ·intro c hc hne;show(Sort.grow _ os).heap[c]?=_;rw[Sort.heap_grow_old _ _ (by rw[hs];exact hc)];simp only[Sort.putRow,Sort.mapBlock];rw[B6,u6 (fun e=>hne e.symm)];rfl
  ·intro a ha;show(Sort.grow _ os).frozen? a=_;rw[Sort.frozen?_grow _ _ _ (by rw[hs];exact ha)];rw[Sort.frozen?_putRow];rfl
  ·obtain⟨c,ty,h1,h2⟩:=hfree;refine⟨Sort.putCells (Value.int .i64) o (zs.mergeSort fun x y=>decide (x<=y)).toArray c,ty,?_,by simp[Sort.putCells];exact h2⟩;show(Sort.grow _ os).heap[b]?=_;rw[Sort.heap_grow_old _ _ (by rw[Sort.size_putRow];exact hb)];simp only[Sort.putRow,Sort.mapBlock,B6,if_true];show((Sort.ahead w m).heap[b]?).map _=_;rw[show(Sort.ahead w m).heap[b]?=w.heap[b]? from rfl,h1];rfl
  ·show(Sort.grow _ os).cell? _=_;rw[Sort.cell?_grow _ _ _ (by rw[Sort.size_putRow];exact hb)];have hj':j<(zs.mergeSort fun x y=>decide (x<=y)).toArray.size:=by rw[J1];exact(A0.1 hj).1
   have:=Sort.cell?_putRow (Value.int .i64) (Sort.ahead w m) b o zs.toArray (zs.mergeSort fun x y=>decide (x<=y)).toArray (Sort.holds_ahead _ _ _ _ _ _ hH) (by simp[E0]) j hj';refine this.trans ?_;rw[getElem!_pos _ j hj',List.getElem_toArray,(A0.1 hj).2]
def HN{P:Program}{f:Nat}(L:RD P f){xs ys:List Int}{n:Nat}(hn:n=xs.length)(h:sM xs=some ys):
 OkM P f [.sl 1000000000 0 n] [(1000000000,.arr 1 (xs.map AV.i))] (.tup []) [(1000000000,.arr 1 (ys.map AV.i))]:=by
 obtain⟨hbig,rfl⟩:=Ev h;refine⟨L.fn,fun w0 w tag β vs hbel hold hlt hrows hwf hvs hat _=>?_⟩;have hlk:∀(row:Row)(r:Nat),aB r [(1000000000,row)]=if r=1000000000 then some row else none:=fun row r=>by
  show(if 1000000000=r then some row else none)=_;by_cases e:r=1000000000
  ·simp[e]
  ·rw[u6 e,u6 (fun h=>e h.symm)]
 have h0:=(hat 0 _ rfl).1;have hv1:vs=#[vs.getD 0 undef]:=by
  apply J6
  ·rw[hvs];rfl
  ·intro i hi hj;have:i=0:=by simpa using hj
   subst this;simp[hi]
 generalize vs.getD 0 undef=v0 at h0 hv1;subst hv1;have hrow:=hrows 1000000000;rw[hlk,u7 rfl] at hrow;have idle:∀(p:Option Addr)(cap:Nat),xs=[]->v0=.slice p 0 cap->Calls P f #[v0] w fun e w'=>∃v tag' β',e=.returned v/\Below 0 w w'/\(∀b,b<w.heap.size->tag b=.imm\/tag b=.out->tag' b=tag b/\w'.heap[b]?=w.heap[b]?)/\
  (∀b,Imm tag b->Imm tag' b/\w'.heap[b]?=w.heap[b]?)/\(∀b,tag' b≠.out->b<w'.heap.size)/\(∀r,cJ w' tag' w0.heap.size β' r (aB r [(1000000000,Row.arr 1 ((xs.mergeSort fun x y=>decide (x<=y)).map AV.i))]))/\Wf [(1000000000,Row.arr 1 ((xs.mergeSort fun x y=>decide (x<=y)).map AV.i))]/\
  (∀r,1000000000<=r->cR (aB r [(1000000000,Row.arr 1 ((xs.mergeSort fun x y=>decide (x<=y)).map AV.i))])->β' r=β r)/\Rep w' (Imm tag') w0.heap.size β' v (.tup [])/\∀r∈(AV.tup []).ments,(aB r [(1000000000,Row.arr 1 ((xs.mergeSort fun x y=>decide (x<=y)).map AV.i))]).isSome:=by
  intro p cap hxs hv0;subst hxs hv0;refine(L.nil0 p cap w).mono ?_;rintro e w' ⟨rfl,rfl⟩;rw[List.mergeSort_nil];exact⟨_,tag,β,rfl,.refl _ _,fun b _ _=>⟨rfl,rfl⟩,fun b hb=>⟨hb,rfl⟩,hlt,hrows,hwf,fun _ _ _=>rfl,.tup #[] [] rfl (fun j x hj=>by simp at hj),fun r hr=>by simp[AV.ments,aP] at hr⟩
 rcases hrow with⟨hb0,hes⟩|⟨b,o,cap,es,fps,hb0,⟨hb1,hb2,hb3⟩,hb4,hb5,hb6,hb7,hb8⟩
 ·have hxs:xs=[]:=B8.1 hes;cases h0 with
  |p _ _ hp=>cases hp
  |slB r i n b o sz cap len c hh=>rw[hb0] at hh;cases hh
  |slE r i b o sz cap len p hh=>rw[hb0] at hh;cases hh
  |slN r hh=>subst hxs;exact idle none 0 rfl rfl
  |slD r i n v hh=>rw[hb0] at hh;cases hh
 ·rw[A1] at hb0 hb4 hb7 hb8;have hcv:v0=.slice (some ⟨b,o,none⟩) n cap\/n=0/\∃p c,v0=.slice p 0 c:=by
   cases h0 with
   |p _ _ hp=>cases hp
   | slB r i n b' o' sz cap' len c hh hc =>
     rw[hb0] at hh;cases hh;have:c=cap:=by omega
     subst this;exact .inl (by simp)
   |slE r i b' o' sz cap' len p hh=>exact .inr ⟨rfl,_,_,rfl⟩
   |slN r hh=>rw[hb0] at hh;cases hh
   |slD r i n v hh=>rw[hb0] at hh;cases hh
  by_cases hx0:xs=[]
  ·have hn0:n=0:=by rw[hn,hx0];rfl
   rcases hcv with e|⟨_,p,c,e⟩
   ·exact idle _ cap hx0 (by rw[e,hn0])
   ·exact idle p c hx0 e
  have hpos:0<xs.length:=I2.2 hx0;have hv0:v0=.slice (some ⟨b,o,none⟩) xs.length cap:=by
   rcases hcv with e|⟨e,_⟩
   ·rw[e,hn]
   ·omega
  subst hv0;have hbl:b<w.heap.size:=hlt b (by rw[hb1];simp);have hnb:∀c,Imm tag c->c≠b:=fun c hc e=>by
   rw[e] at hc;rcases hc with hc|⟨r,hc⟩<;>rw[hb1] at hc<;>cases hc
  simp only[Nat.mul_one] at hb3 hb5;have hval:∀(j:Nat) x,xs[j]?=some x->es j=.int .i64 x:=fun j x hj=>by
   have:=hb6 j (.i x) (by simp[hj]);generalize es j=e at this⊢;generalize fps j=fp at this;cases this with
   |sc v h=>rfl
  refine(L.srt xs b o cap w (fun j x hj=>by
   have h1:=(hb5 j (.i x) (by simp[hj])).2 0 (.int .i64 x) (by rw[hval j x hj];rfl);exact h1.1) hb3 hb4 hbl hbig).mono ?_
  rintro e w' ⟨rfl,hN,hfree,hva⟩;have hblk:∀c,c<w.heap.size->c≠b->w'.heap[c]?=w.heap[c]?:=hN.block;have himmk:∀c,Imm tag c->Imm tag c/\w'.heap[c]?=w.heap[c]?:=fun c hc=>⟨hc,hblk c (hlt c (by rcases hc with e|⟨r,e⟩<;>rw[e]<;>simp)) (hnb c hc)⟩;have hyl:(xs.mergeSort fun x y=>decide (x<=y)).length=xs.length:=E0 _;refine⟨_,tag,β,rfl,⟨⟨hN.os,hN.tape,hN.output,hN.size,fun c hc=>by omega⟩,hN.frz,hN.drawn⟩,fun c hc ht=>⟨rfl,hblk c hc (fun e=>by rw[e,hb1] at ht;rcases ht with ht|ht<;>cases ht)⟩,himmk,fun c hc=>A9 (hlt c hc) hN.size,fun r=>?_,fun q x hx=>?_,fun _ _ _=>rfl,.tup #[] [] rfl (fun j x hj=>by simp at hj),fun r hr=>by simp[AV.ments,aP] at hr⟩
  ·rw[hlk];split
   ·rename_i e;subst e;refine .inr ⟨b,o,cap,fun j=>.int .i64 ((xs.mergeSort fun x y=>decide (x<=y)).getD j 0),fun _=>[],by rw[A1,hyl];exact hb0,⟨hb1,hb2,by simpa using hfree⟩,by rw[A1,hyl];exact hb4,fun j x hj=>?_,fun j x hj=>?_,?_,?_⟩
    ·rw[A5,B3] at hj;obtain⟨z,hz,rfl⟩:=hj;have e1:(xs.mergeSort fun x y=>decide (x<=y)).getD j 0=z:=by rw[F8,hz];rfl
     refine⟨rfl,fun i y hy=>?_⟩;dsimp only at hy⊢;rw[e1] at hy;have hi:i=0:=by
      have:=(B2.1 hy).1;simpa[Value.cells] using this
     subst hi;have:y=.int .i64 z:=by simpa[Value.cells,eq_comm] using hy
     subst this;refine⟨?_,rfl⟩;have:=hva j z hz;simpa using this
    ·rw[A5,B3] at hj;obtain⟨z,hz,rfl⟩:=hj;have e1:(xs.mergeSort fun x y=>decide (x<=y)).getD j 0=z:=by rw[F8,hz];rfl
     dsimp only;rw[e1];exact .sc _ rfl
    ·rw[bj _ _ (fun _ _=>rfl)];exact F5
    ·rw[bj _ _ (fun _ _=>rfl)];intro c hc;cases hc
   ·rename_i e;have hr:=hrows r;rw[hlk,u6 e] at hr;exact hr
  ·rw[hlk] at hx;split at hx<;>cases hx
end Vs

namespace Vs
open Go
variable{α B:Type}
theorem az{n:Int}(h1:-9223372036854775808<=n)(h2:n<=9223372036854775807):IntKind.wrap .i64 n=n:=by
 rw[IntKind.wrap_i64];omega
def cI{n:Nat}(h:n<18446744073709551616):n<N0:=by unfold N0;omega
theorem bq{S:Type}{f:S->Option (S⊕B)}(I:S->Prop)(μ:S->Nat)(Q:B->Prop)
 (hs:∀s,I s->(∃s',f s=some (.inl s')/\I s'/\μ s'<μ s)\/∃b,f s=some (.inr b)/\Q b):∀(n:Nat)(s:S),I s->μ s<n->∃b,aZ f n s=some b/\Q b
 |0,_,_,h=>by omega
 | n + 1, s, hI, hn => by
   rcases hs s hI with⟨s',h1,h2,h3⟩|⟨b,h1,h2⟩
   ·obtain⟨b,hb,hq⟩:=bq I μ Q hs n s' h2 (by omega);exact⟨b,by simp[aZ,h1,hb],hq⟩
   ·exact⟨b,by simp[aZ,h1],h2⟩
def bU{α A B:Type}(step:Nat->α->A->A⊕B)(fin:A->B):Nat->List α->A->B
 |_,[],a=>fin a
 | i, x :: xs, a => match step i x a with
   | .inl a'=>bU step fin (i+1) xs a'
   | .inr b=>b
def dl{A S:Type}{f:S->Option (S⊕B)}(xs:List α)(st:Nat->A->S)(step:Nat->α->A->A⊕B)(fin:A->B)(I:Nat->A->Prop)
 (h1:∀i a x,xs[i]?=some x->I i a->(∃a',step i x a=.inl a'/\I (i+1) a'/\f (st i a)=some (.inl (st (i+1) a')))\/∃b,step i x a=.inr b/\f (st i a)=some (.inr b))
 (h2:∀a,I xs.length a->f (st xs.length a)=some (.inr (fin a))) (a0:A) (h0:I 0 a0) (hl:xs.length<18446744073709551615):
 aZ f N0 (st 0 a0)=some (bU step fin 0 xs a0):=by
 have key:∀(ys:List α)(i:Nat)(a:A)(n:Nat),xs.drop i=ys->i<=xs.length->I i a->ys.length<n->aZ f n (st i a)=some (bU step fin i ys a):=by
  intro ys;induction ys with
  | nil =>
    intro i a n hd hi hI hn;have:i=xs.length:=by
     have:=congrArg K8 hd;simp at this;omega
    subst this;cases n with
    |zero=>simp at hn
    |succ n=>simp[aZ,h2 a hI,bU]
  | cons y ys ih =>
    intro i a n hd hi hI hn;have hx:xs[i]?=some y:=by
     have:=congrArg (·[0]?) hd;simpa using this
    have hlt:i<xs.length:=(A0.1 hx).1;have hd':xs.drop (i+1)=ys:=by
     have:=congrArg (List.drop 1) hd;simpa[H7,K6] using this
    cases n with
    |zero=>simp at hn
    | succ n =>
      simp only[List.length_cons] at hn;rcases h1 i a y hx hI with⟨a',e1,e2,e3⟩|⟨b,e1,e2⟩
      ·simp only[aZ,e3,bU,e1];exact ih (i+1) a' n hd' (by omega) e2 (by omega)
      ·simp only[aZ,e2,bU,e1]
 exact key xs 0 a0 N0 (by simp) (by omega) h0 (cI (by omega))
theorem vm(p:α->Bool)(bad ok:B):∀(xs:List α)(i:Nat),bU (fun _ x(_:Unit)=>if p x then .inr bad else .inl ()) (fun _=>ok) i xs ()=if xs.any p then bad else ok
 |[],i=>rfl
 | x :: xs, i => by
   simp only[bU,K5];by_cases h:p x=true
   ·simp[h]
   ·simp only[C8] at h;simp[h,vm p bad ok xs (i+1)]
theorem aV(xs:List α)(i:Nat):bC xs (i:Int)=xs[i]?:=by simp[bC]
def io{f:Int->Option (Int⊕B)}(xs:List α)(p:α->Bool)(bad ok:B)(h1:∀(i:Nat) x,xs[i]?=some x->f i=some (if p x then .inr bad else .inl ((i+1:Nat):Int)))
 (h2:f xs.length=some (.inr ok)) (hl:xs.length<18446744073709551615):aZ f N0 0=some (if xs.any p then bad else ok):=by
 have:=dl (f:=f) xs (fun i(_:Unit)=>(i:Int)) (fun _ x _=>if p x then .inr bad else .inl ()) (fun _=>ok) (fun _ _=>True)
  (fun i a x hx _=>by
   cases h:p x
   ·exact .inl ⟨(),by simp,trivial,by rw[h1 i x hx,h];simp⟩
   ·exact .inr ⟨bad,by simp,by rw[h1 i x hx,h];simp⟩) (fun a _=>h2) () trivial hl
 rw[vm] at this;exact this
theorem aW{p:Prop}[Decidable p](h:p):grd p=some ():=by simp[grd,h]
theorem qK(c:Bool)(a b:α):cond c a b=if c=true then a else b:=by cases c<;>rfl
end Vs

namespace Vs
open Go
theorem Bw{α:Type}(sz:α->Nat):∀{xs:List α}{i:Nat}{x:α},xs[i]?=some x->sz x<=(xs.map sz).sum
 |y::ys,0,x,h=>by simp at h;subst h;simp
 | y :: ys, i + 1, x, h => by
   have:=Bw sz (xs:=ys) (i:=i) (x:=x) (by simpa using h);simp;omega
 |[],i,x,h=>by simp at h
end Vs
namespace Vs
open Go
def fh{α:Type}(p:Nat->α->Bool)(xs:List α):Bool:=xs.zipIdx.any fun q=>p q.2 q.1
def DU{α:Type}{xs:List α}{i:Nat}{x:α}:(x,i)∈xs.zipIdx↔xs[i]?=some x:=List.mem_zipIdx_iff_getElem?
def gh{α:Type}{p:Nat->α->Bool}{xs:List α}:fh p xs=true↔∃i x,xs[i]?=some x/\p i x=true:=by
 unfold fh;rw[G5];constructor
 ·rintro⟨⟨x,i⟩,h1,h2⟩;exact⟨i,x,DU.1 h1,h2⟩
 ·rintro⟨i,x,h1,h2⟩;exact⟨(x,i),DU.2 h1,h2⟩
theorem cC{α:Type}{p:Nat->α->Bool}{xs:List α}:fh p xs=false↔∀i x,xs[i]?=some x->p i x=false:=by
 rw[<-C8,gh];constructor
 ·intro h i x hx;cases e:p i x with
  |false=>rfl
  |true=>exact(h ⟨i,x,hx,e⟩).elim
 ·rintro h ⟨i,x,hx,e⟩;rw[h i x hx] at e;cases e
def Qq{p:Nat->Prop}(n:Nat)(h:p n):∃m,p m/\∀k,k<m->¬p k:=by
 induction n using J8 with
 | _ n ih =>
   by_cases e:∃k,k<n/\p k
   ·obtain⟨k,hk,hp⟩:=e;exact ih k hk hp
   ·exact⟨n,h,fun k hk hp=>e ⟨k,hk,hp⟩⟩
def CH{α:Type}{p:Nat->α->Bool}{xs:List α}(h:fh p xs=true):∃i x,xs[i]?=some x/\p i x=true/\∀j y,j<i->xs[j]?=some y->p j y=false:=by
 obtain⟨i,x,h1,h2⟩:=gh.1 h;obtain⟨m,⟨y,hy,hp⟩,hm⟩:=Qq (p:=fun i=>∃x,xs[i]?=some x/\p i x=true) i ⟨x,h1,h2⟩;refine⟨m,y,hy,hp,fun j z hj hz=>?_⟩;cases e:p j z with
 |false=>rfl
 |true=>exact(hm j hj ⟨z,hz,e⟩).elim
def Ci{α:Type}{p q:Nat->α->Bool}{xs:List α}(h:∀i x,xs[i]?=some x->(∀j y,j<i->xs[j]?=some y->p j y=false)->p i x=q i x):fh p xs=fh q xs:=by
 cases e:fh p xs with
 | true =>
   obtain⟨i,x,hx,hp,hf⟩:=CH e;symm;rw[gh];exact⟨i,x,hx,by rw[<-h i x hx hf];exact hp⟩
 | false =>
   have:=cC.1 e;symm;rw[cC];intro i x hx;rw[<-h i x hx fun j y _ hy=>this j y hy];exact this i x hx
def mZ{α:Type}(p:α->Bool)(xs:List α):fh (fun _ x=>p x) xs=xs.any p:=by
 cases e:xs.any p with
 | true =>
   rw[gh];obtain⟨x,hx,hp⟩:=G5.1 e;obtain⟨i,hi,rfl⟩:=F3 hx;exact⟨i,xs[i],A2 hi,hp⟩
 | false =>
   rw[cC];intro i x hx;rw[I8] at e;have:=e x (I0 hx);simpa using this
def et{α B:Type}{f:Int->Option (Int⊕B)}(xs:List α)(p:Nat->α->Bool)(bad ok:B)
 (h1:∀(i:Nat) x,xs[i]?=some x->(∀j y,j<i->xs[j]?=some y->p j y=false)->f (i:Int)=some (if p i x then .inr bad else .inl ((i+1:Nat):Int)))
 (h2:f (xs.length:Int)=some (.inr ok)) (hl:xs.length<18446744073709551615):aZ f N0 0=some (if fh p xs then bad else ok):=by
 have:=dl (f:=f) xs (fun i(_:Unit)=>(i:Int)) (fun i x _=>if p i x then .inr bad else .inl ()) (fun _=>ok) (fun i _=>∀j y,j<i->xs[j]?=some y->p j y=false)
  (fun i a x hx hI=>by
   cases h:p i x
   ·refine .inl ⟨(),by simp,fun j y hj hy=>?_,by rw[h1 i x hx hI,h];simp⟩;rcases H1 j i with h2|h2
    ·exact hI j y h2 hy
    ·have:j=i:=by omega
     subst this;rw[hx] at hy;cases hy;exact h
   ·exact .inr ⟨bad,by simp,by rw[h1 i x hx hI,h];simp⟩) (fun a _=>h2) () (fun j y hj=>by omega) hl
 have e:(((0:Nat)):Int)=0:=rfl;simp only[e] at this;rw[this];have gen:∀(ys:List α)(i:Nat),bU (fun i x(_:Unit)=>if p i x then .inr bad else .inl ()) (fun _=>ok) i ys ()=if(ys.zipIdx i).any (fun q=>p q.2 q.1) then bad else ok:=by
  intro ys;induction ys with
  |nil=>intro i;rfl
  | cons y ys ih =>
    intro i;simp only[bU,G9,K5];by_cases h:p i y=true
    ·simp[h]
    ·simp only[C8] at h;simp only[h,A8,if_false,Bool.false_or];exact ih (i+1)
 rw[gen];rfl
def cD{α:Type}(p:Nat->α->Bool)(xs:List α):Option (Nat×α):=(xs.zipIdx.find? fun q=>p q.2 q.1).map fun q=>(q.2,q.1)
def cO{α B U:Type}{f:Int->Option (Int⊕(U⊕B))}(xs:List α)(p:Nat->α->Bool)(g:Nat->α->B)(u:U)
 (h1:∀(i:Nat) x,xs[i]?=some x->(∀j y,j<i->xs[j]?=some y->p j y=false)->f (i:Int)=some (if p i x then .inr (.inr (g i x)) else .inl ((i+1:Nat):Int)))
 (h2:f (xs.length:Int)=some (.inr (.inl u))) (hl:xs.length<18446744073709551615):aZ f N0 0=some (match cD p xs with|some q=>.inr (g q.1 q.2)|none=>.inl u):=by
 have:=dl (f:=f) xs (fun i(_:Unit)=>(i:Int)) (fun i x _=>if p i x then .inr (.inr (g i x)) else .inl ()) (fun _=>.inl u) (fun i _=>∀j y,j<i->xs[j]?=some y->p j y=false)
  (fun i a x hx hI=>by
   cases h:p i x
   ·refine .inl ⟨(),by simp,fun j y hj hy=>?_,by rw[h1 i x hx hI,h];simp⟩;rcases H1 j i with h2|h2
    ·exact hI j y h2 hy
    ·have:j=i:=by omega
     subst this;rw[hx] at hy;cases hy;exact h
   ·exact .inr ⟨.inr (g i x),by simp,by rw[h1 i x hx hI,h];simp⟩) (fun a _=>h2) () (fun j y hj=>by omega) hl
 have e:(((0:Nat)):Int)=0:=rfl;simp only[e] at this;rw[this];have gen:∀(ys:List α)(i:Nat),bU (fun i x(_:Unit)=>if p i x then .inr (.inr (g i x)) else .inl ()) (fun _=>(.inl u:U⊕B)) i ys ()=
  match((ys.zipIdx i).find? fun q=>p q.2 q.1).map (fun q=>(q.2,q.1)) with|some q=>.inr (g q.1 q.2)|none=>.inl u:=by
  intro ys;induction ys with
  |nil=>intro i;rfl
  | cons y ys ih =>
    intro i;simp only[bU,G9,K0];by_cases h:p i y=true
    ·simp[h]
    ·simp only[C8] at h;simp only[h,A8,if_false];exact ih (i+1)
 rw[gen];rfl
def cA{α:Type}{p:Nat->α->Bool}{xs:List α}{i:Nat}{x:α}:cD p xs=some (i,x)↔xs[i]?=some x/\p i x=true/\∀j y,j<i->xs[j]?=some y->p j y=false:=by
 have gen:∀(ys:List α)(k:Nat),((ys.zipIdx k).find? fun q=>p q.2 q.1).map (fun q=>(q.2,q.1))=some (i,x)↔k<=i/\ys[i-k]?=some x/\p i x=true/\∀j y,k<=j->j<i->ys[j-k]?=some y->p j y=false:=by
  intro ys;induction ys with
  |nil=>intro k;simp
  | cons y ys ih =>
    intro k;simp only[G9,K0];cases h:p k y
    ·simp only[A8];rw[ih (k+1)];constructor
     ·rintro⟨h1,h2,h3,h4⟩;refine⟨by omega,?_,h3,fun j z hj hji hz=>?_⟩
      ·rw[show i-k=(i-(k+1))+1 by omega];simpa using h2
      ·rcases H1 k j with h5|h5
       ·exact h4 j z (by omega) hji (by rw[show j-k=(j-(k+1))+1 by omega] at hz;simpa using hz)
       ·have:j=k:=by omega
        subst this;simp at hz;subst hz;exact h
     ·rintro⟨h1,h2,h3,h4⟩;have hne:i≠k:=by
       rintro rfl;simp at h2;subst h2;rw[h] at h3;cases h3
      refine⟨by omega,?_,h3,fun j z hj hji hz=>h4 j z (by omega) hji ?_⟩
      ·rw[show i-k=(i-(k+1))+1 by omega] at h2;simpa using h2
      ·rw[show j-k=(j-(k+1))+1 by omega];simpa using hz
    ·simp only[F0,Option.some.injEq,Prod.mk.injEq];constructor
     ·rintro⟨rfl,rfl⟩;exact⟨D7 _,by simp,h,fun j z hj hji=>by omega⟩
     ·rintro⟨h1,h2,h3,h4⟩;have:k=i:=by
       apply Decidable.byContradiction;intro hne;have:=h4 k y (D7 _) (by omega) (by simp);rw[h] at this;cases this
      subst this;simp at h2;exact⟨rfl,h2⟩
 have:=gen xs 0;simp only[I5,C4,true_and] at this;unfold cD;rw[this];exact⟨fun h=>⟨h.1,h.2.1,fun j y=>h.2.2 j y trivial⟩,fun h=>⟨h.1,h.2.1,fun j y _=>h.2.2 j y⟩⟩
def dE{α:Type}{p:Nat->α->Bool}{xs:List α}:cD p xs=none↔∀i x,xs[i]?=some x->p i x=false:=by
 unfold cD;rw[Option.map_eq_none_iff,List.find?_eq_none];constructor
 ·intro h i x hx;have:=h (x,i) (DU.2 hx);simpa using this
 ·rintro h ⟨x,i⟩ hx;have:=h i x (DU.1 hx);simp[this]
end Vs
namespace Vs
open Go
def dY{α A:Type}(g:Nat->α->A->A):Nat->List α->A->A
 |_,[],a=>a
 |i,x::xs,a=>dY g (i+1) xs (g i x a)
def ij{α A B S:Type}{f:S->Option (S⊕B)}(xs:List α)(st:Nat->A->S)(g:Nat->α->A->A)(fin:A->B)(I:Nat->A->Prop)
 (h1:∀i a x,xs[i]?=some x->I i a->I (i+1) (g i x a)/\f (st i a)=some (.inl (st (i+1) (g i x a))))
 (h2:∀a,I xs.length a->f (st xs.length a)=some (.inr (fin a))) (a0:A) (h0:I 0 a0) (hl:xs.length<18446744073709551615):
 aZ f N0 (st 0 a0)=some (fin (dY g 0 xs a0)):=by
 rw[dl xs st (fun i x a=>.inl (g i x a)) fin I (fun i a x hx hI=>.inl ⟨g i x a,rfl,(h1 i a x hx hI).1,(h1 i a x hx hI).2⟩) h2 a0 h0 hl];have gen:∀(ys:List α)(i:Nat)(a:A),bU (fun i x a=>(.inl (g i x a):A⊕B)) fin i ys a=fin (dY g i ys a):=by
  intro ys;induction ys with
  |nil=>intro i a;rfl
  |cons y ys ih=>intro i a;exact ih (i+1) (g i y a)
 rw[gen]
def lf{n:Int}(h1:0<=n)(h2:n<18446744073709551616):IntKind.wrap .u64 n=n:=by
 rw[IntKind.wrap_u64];omega
end Vs

namespace Vs
open Go Go.RowKit
variable{P:Program}{f:Nat}{res:AV}{w:World}{S:Nat->Prop}{B:Nat}{v:Value}{args:List AV}{ins:List (Nat×Row)}
structure Tok(H:World->Prop){α:Type}(E:Fl->α->AV)(k:Nat) where
 x:α
 v:Array Value
 sz:v.size=k
 one:∀c∈v,c.oneCell'=true
 rep:∀(W:World)(S:Nat->Prop)(B:Nat),(∀W':World,(∀b,S b->W'.heap[b]?=W.heap[b]?)->H W')->aX W S B (.agg v) (E .s x) []
variable{H:World->Prop}{α:Type}{E:Fl->α->AV}{k:Nat}
def co(t:Tok H E k):AV:=.agg (t.v.toList.map .sc)
theorem zR(t:Tok H E k):(t.v.toList.map AV.sc).length=k:=by rw[A1,D5,t.sz]
theorem qW(t:Tok H E k):(co t).als=co t:=by
 have:∀l:List Value,dv (l.map AV.sc)=l.map AV.sc:=fun l=>by induction l<;>simp_all [dv,AV.als]
 simp[co,AV.als,this]
def LE(t:Tok H E k):(co t).nrm=co t:=by
 have:∀l:List Value,hY (l.map AV.sc)=l.map AV.sc:=fun l=>by induction l<;>simp_all [hY,AV.nrm]
 simp[co,AV.nrm,this]
def Jp(l:List (Tok H E k)):(l.map co).map AV.als=l.map co:=by simp[qW]
def GG(l:List (Tok H E k)):dv (l.map co)=l.map co:=by
 induction l<;>simp_all [dv,qW]
theorem gW(t:Tok H E k):(co t).width=k:=by simp only[co,AV.width,zR]
theorem gY(t:Tok H E k):(co t).isAgg=true:=rfl
theorem qq(t:Tok H E k):(co t).ments=[]:=by
 have:∀l:List Value,aP (l.map AV.sc)=[]:=fun l=>by induction l<;>simp_all [aP,AV.ments]
 simp[co,AV.ments,this]
def Bn(t:Tok H E k):(co t).cells.length=k:=by simp only[co,AV.cells,zR]
def JP(t:Tok H E k):part (co t) 0 k true=some (co t):=by
 simp only[part,if_true,gY,gW,F4,D7,true_and];rfl
def Jm(ρ:Nat->Option Row)(j:Nat)(t:Tok H E k):lift ρ (j+2) (co t)=co t:=by
 simp[co,lift]
def Ps(ρ:Nat->Option Row)(j:Nat)(t:Tok H E k):snp ρ (j+2) (co t)=co t:=by
 simp[co,snp,AV.nrm]
def qu(cs:List AV)(t:Tok H E k)(h:cs.length=k):setPart (.agg cs) 0 (co t)=some (co t):=by
 unfold setPart;rw[u7 (show AV.isAgg (.agg cs)=true from rfl),u7 (gY t),u7 ⟨rfl,by rw[gW];exact h.symm⟩]
def Gg(a b:AV)(t:Tok H E 2):setPart (.agg [a,b]) 0 (co t)=some (co t):=qu _ t rfl
def GA(a b c d e:AV)(t:Tok H E 5):setPart (.agg [a,b,c,d,e]) 0 (co t)=some (co t):=qu _ t rfl
def Jy(a b c d e f g h i j:AV)(t:Tok H E 10):setPart (.agg [a,b,c,d,e,f,g,h,i,j]) 0 (co t)=some (co t):=qu _ t rfl
def Hh(u t:Tok H E k):setPart (co u) 0 (co t)=some (co t):=by
 unfold setPart;rw[u7 (gY u),u7 (gY t),u7 ⟨rfl,by rw[gW,gW]⟩]
def Ur(h:Nat->Nat)(t:Tok H E k):(co t).rg h=co t:=by
 have:∀l:List Value,rgL h (l.map AV.sc)=l.map AV.sc:=fun l=>by induction l<;>simp_all [rgL,AV.rg]
 simp[co,AV.rg,this]
def Qr(r d:Nat)(t:Tok H E k):(co t).ren r d=co t:=by
 have:∀l:List Value,iX r d (l.map AV.sc)=l.map AV.sc:=fun l=>by induction l<;>simp_all [iX,AV.ren]
 simp[co,AV.ren,this]
def HD(r:Nat)(t:Tok H E k):(co t).hush r=co t:=by simp[AV.hush,qq]
def YV(H:World->Prop)(P:Program):(OkT H P).p=OkR H P:=rfl
def Yu(H:World->Prop)(P:Program):(OkT H P).m=Hl H P:=rfl
def LD{t:Tok H E k}{fp:List Nat}(h:aX w S B v (co t) fp):v=.agg t.v:=by
 unfold co at h;cases h with
 | agg vs cs fps hs h1 hx =>
   congr 1;rw[A1,D5] at hs;apply J6 hs;intro i hi hj;have:=hx i (.sc t.v[i]) (by simp[hj]);generalize hg:vs.getD i undef=u at this;generalize fps i=fp at this;cases this with
   |sc v h=>simp_all
def Ld(t:Tok H E k)(w:World)(S:Nat->Prop)(B:Nat):aX w S B (.agg t.v) (co t) []:=by
 have h:=aX.agg (w:=w) (S:=S) (B:=B) t.v (t.v.toList.map .sc) (fun _=>[]) (by simp) t.one (fun j x hj=>by
  simp only[A5,B3,H5] at hj;obtain⟨c,hc,rfl⟩:=hj;have:t.v.getD j undef=c:=by rw[A6,hc];rfl
  rw[this];exact .sc c (t.one c (H6 hc)))
 rwa[bj _ _ (fun _ _=>rfl)] at h
def Tok.Free(t:Tok H E k):Prop:=∀(w:World)(S:Nat->Prop)(B:Nat),aX w S B (.agg t.v) (E .u t.x) []
def Sel(X Y:List (Tok H E k)):Prop:=∃g:Nat->Option Nat,(∀j y,Y[j]?=some y->(∃i,g j=some i/\X[i]?=some y)\/(g j=none/\y.Free))/\∀j j' i,g j=some i->g j'=some i->j=j'
def Row.flatU:Row->Prop
 | .arr _ es=>∀e∈es,e.noU
 |_=>True
def abn(w:World)(c:Nat)(hc:c<w.heap.size):∃W:World,W.heap[c]?≠w.heap[c]?/\∀b,b≠c->W.heap[b]?=w.heap[b]?:=by
 have key:∀ob:Obj,w.heap[c]?≠some ob->∃W:World,W.heap[c]?≠w.heap[c]?/\∀b,b≠c->W.heap[b]?=w.heap[b]?:=fun ob h=>
  ⟨{w with heap:=w.heap.setIfInBounds c ob},by
   grind,fun b hb=>by
   grind⟩
 by_cases h:w.heap[c]?=some (.cells #[] 0 (0,0))
 ·exact key (.cells #[undef] 0 (0,0)) (by rw[h];simp)
 ·exact key _ h
def LZ{R R':Nat}{outsR:List (Nat×Row)}{xs ys:List α}{insT outsT:List (Nat×Row)}
 (hE:∀x,∃cs,E .u x=.agg cs/\cs.length=k) (hk:0<k) (hs:∀(w:World)(S:Nat->Prop)(B:Nat)(v:Value)(x:α)(fp:List Nat),aX w S B v (E .u x) fp->∀B',aX w S B' v (E .s x) [])
 (hi:aB R insT=some (.arr k (xs.map (E .u)))) (hi':∀r,r≠R->aB r insT=aB r ins)
 (ho:aB R' outsT=some (.arr k (ys.map (E .u)))) (ho':∀r,r≠R'->aB r outsT=aB r outsR) (hf:∀r row,r≠R'->aB r outsR=some row->row.flatU)
 (h:∀(H:World->Prop)(X:List (Tok H E k)),X.map Tok.x=xs->∃(Y:List (Tok H E k))(mG outsX:List (Nat×Row)),Sel X Y/\Y.map Tok.x=ys/\
  aB R mG=some (.arr k (X.map co))/\(∀r,r≠R->aB r mG=aB r ins)/\aB R' outsX=some (.arr k (Y.map co))/\(∀r,r≠R'->aB r outsX=aB r outsR)/\Hl H P f args mG res outsX):
 OkM P f args insT res outsT:=by
 classical
 have hfn:∃fn,P.funcs[f]?=some fn/\fn.body.isNone=false/\(fn.name== "runtime.NumGoroutine")=false:=by
  obtain⟨_,_,_,_,_,_,_,_,_,hq⟩:=h (fun _=>False) (xs.map fun x=>⟨x,D6 k (.bool false),by simp,by simp[Value.oneCell'],fun W S B hH=>(hH W fun _ _=>rfl).elim⟩) (by rw[D9];exact List.map_id' xs);exact hq.1
 refine⟨hfn,fun w0 w tag β vs hbel hold hlt hrows hwf hvs hat _=>?_⟩;let HH:World->Prop:=fun W=>∀c,Imm tag c->W.heap[c]?=w.heap[c]?
 have hlt':∀c,Imm tag c->c<w.heap.size:=fun c hc=>hlt c (by rcases hc with e|⟨r,e⟩<;>simp[e]);have himmS:∀(W:World)(S:Nat->Prop),(∀W':World,(∀b,S b->W'.heap[b]?=W.heap[b]?)->HH W')->∀c,Imm tag c->S c/\W.heap[c]?=w.heap[c]?:=by
  intro W S hS c hc;have h0:=hS W (fun _ _=>rfl) c hc;refine⟨?_,h0⟩;by_cases e:S c
  ·exact e
  ·have hcW:c<W.heap.size:=by
    rcases H1 c W.heap.size with h|h
    ·exact h
    ·rw[H0 h,B4 (hlt' c hc)] at h0;cases h0
   obtain⟨W',d1,d2⟩:=abn W c hcW;have:=hS W' (fun b hb=>d2 b fun e'=>e (e'▸hb)) c hc;exact(d1 (this.trans h0.symm)).elim
 -- the row aL cells
 have hrow:=hrows R;rw[hi] at hrow;have hX:∃(X:List (Tok HH E k))(fps:Nat->List Nat),X.map Tok.x=xs/\cJ w tag w0.heap.size β R (some (.arr k (X.map co)))/\
  (∀i t,X[i]?=some t->aX w (Imm tag) w0.heap.size (.agg t.v) (E .u t.x) (fps i))/\(cz xs.length fps).Nodup/\∀c∈cz xs.length fps,tag c=.uq R:=by
  rcases hrow with⟨hb0,hes⟩|⟨b,o,cap,es,fps,hb0,hown,hcap,hv,hx,hnd,htag⟩
  ·have:xs=[]:=B8.1 hes;subst this;exact⟨[],fun _=>[],rfl,.inl ⟨hb0,rfl⟩,fun i t ht=>by simp at ht,by simp[cz],by simp[cz]⟩
  ·rw[A1] at hb0 hcap hnd htag;have hval:∀j,j<xs.length->∃us,es j=.agg us:=fun j hj=>by
    obtain⟨cs,e1,e2⟩:=hE xs[j];have:=hx j (E .u xs[j]) (by simp[hj]);rw[e1] at this;obtain⟨us,_,e3,_⟩:=this.agg_at;exact⟨us,e3⟩
   let mk:(j:Nat)->(hj:j<xs.length)->Tok HH E k:=fun j hj=>
    { x:=xs[j],v:=(es j).cells,
      sz:=(hv j (E .u xs[j]) (by simp[hj])).1,
      one:=fun c hc=>ox (hv j (E .u xs[j]) (by simp[hj])).2 c hc,
      rep:=fun W S B hS=>by
       obtain⟨us,e3⟩:=hval j hj;have h0:=hx j (E .u xs[j]) (by simp[hj]);rw[e3] at h0⊢;exact(hs _ _ _ _ _ _ h0 B).mono fun c hc=>himmS W S hS c hc}
   have hXg:∀j,((B7 xs.length).pmap (fun j hj=>mk j hj) (fun j hj=>H8.1 hj))[j]?=if hj:j<xs.length then some (mk j hj) else none:=by
    intro j;by_cases hj:j<xs.length
    ·rw[dif_pos hj,List.getElem?_pmap];simp[hj]
    ·rw[dif_neg hj];simp;omega
   have hmkv:∀j(hj:j<xs.length),es j=.agg (mk j hj).v:=fun j hj=>by
    obtain⟨us,e3⟩:=hval j hj;show es j=.agg (es j).cells;rw[e3];rfl
   refine⟨(B7 xs.length).pmap (fun j hj=>mk j hj) (fun j hj=>H8.1 hj),fps,?_,.inr ⟨b,o,cap,es,fun _=>[],?_,hown,?_,fun j x hj=>?_,fun j x hj=>?_,?_,?_⟩,fun i t ht=>?_,hnd,htag⟩
   ·apply List.ext_getElem?
    grind
   ·grind
   ·grind
   ·grind
   ·rw[A5,hXg] at hj;by_cases hl:j<xs.length
    ·rw[dif_pos hl] at hj;simp only[F0,Option.some.injEq] at hj;subst hj;rw[hmkv j hl];exact Ld _ _ _ _
    grind
   ·rw[bj _ _ (fun _ _=>rfl)];exact F5
   ·rw[bj _ _ (fun _ _=>rfl)];intro c hc;cases hc
   grind
 obtain⟨X,fps,hXx,hXrow,hXrep,hnd,htag⟩:=hX;obtain⟨Y,mG,outsX,⟨g,hg,hginj⟩,hYy,hiX,hiX',hoX,hoX',_,hcall⟩:=h HH X hXx;have hXl:X.length=xs.length:=by rw[<-hXx,A1]
 have hins:∀r,(aB r mG).isSome=(aB r insT).isSome:=fun r=>by
  grind
 refine(hcall w0 w tag β vs hbel hold hlt (fun r=>?_) (fun r x hr q hq=>?_) hvs (fun j x hj=>?_) (fun W hW c hc=>hW c hc)).mono ?_
 ·grind
 ·by_cases e:r=R
  ·grind
  ·rw[hiX' r e,<-hi' r e] at hr;rw[hins];exact hwf r x hr q hq
 ·grind
 rintro e w' ⟨v,tag',β',rfl,hbel',hkeep,himm',hlt2,hrows',hwf',hbk,hres,hresm⟩;let fps2:Nat->List Nat:=fun j=>match g j with|some i=>fps i|none=>[]
 let used:Nat->Prop:=fun c=>c∈cz Y.length fps2;let inner:Nat->Prop:=fun c=>c∈cz xs.length fps;let tag2:Nat->Tag:=fun c=>if inner c then(if used c then .uq R' else .imm) else tag' c
 have hgl:∀j i,j<Y.length->g j=some i->i<xs.length/\X[i]?=Y[j]?:=fun j i hj hgj=>by
  rcases hg j Y[j] (A2 hj) with⟨i',h1,h2⟩|⟨h1,_⟩
  ·rw[hgj] at h1;simp only[Option.some.injEq] at h1;subst h1;exact⟨by rw[<-hXl];exact(A0.1 h2).1,by rw[h2,A2 hj]⟩
  ·rw[hgj] at h1;cases h1
 have hui:∀c,used c->inner c:=fun c hc=>by
  obtain⟨j,hj,hcj⟩:=be.1 hc;simp only[fps2] at hcj;split at hcj
  ·rename_i i hgi;exact be.2 ⟨i,(hgl j i hj hgi).1,hcj⟩
  ·cases hcj
 have hinn:∀c,inner c->tag c=.uq R:=htag;have hinnI:∀c,inner c->Imm tag c:=fun c hc=>.inr ⟨R,hinn c hc⟩;have hto:∀c,Imm tag' c->Imm tag2 c:=fun c hc=>by
  simp only[tag2];by_cases e:inner c
  ·simp only[Imm,if_pos e];by_cases e2:used c<;>simp[e2]
  ·unfold Imm at hc⊢;simp only[if_neg e];exact hc
 have hto':∀c,¬inner c->tag2 c=tag' c:=fun c hc=>u6 hc;have hown:∀c r,tag' c=.own r->tag2 c=.own r:=fun c r hc=>by
  rw[hto' c fun e=>by rcases(himm' c (hinnI c e)).1 with e'|⟨q,e'⟩<;>rw[hc] at e'<;>cases e'];exact hc
 have houts:∀r,(aB r outsX).isSome=(aB r outsT).isSome:=fun r=>by
  by_cases e:r=R'
  ·subst e;rw[hoX,ho];rfl
  ·rw[hoX' r e,ho' r e]
 refine⟨v,tag2,β',rfl,hbel',fun c hc ht=>?_,fun c hc=>⟨hto c (himm' c hc).1,(himm' c hc).2⟩,fun c hc=>?_,fun r=>?_,fun r x hr q hq=>?_,fun r hr hl=>?_,hres.mono (fun c hc=>⟨hto c hc,rfl⟩) (fun _ _=>.inl rfl),fun r hr=>by rw[<-houts];exact hresm r hr⟩
 ·obtain⟨k1,k2⟩:=hkeep c hc ht;refine⟨?_,k2⟩;rw[hto' c fun e=>by rw[hinn c e] at ht;rcases ht with e'|e'<;>cases e'];exact k1
 ·by_cases e:inner c
  ·exact A9 (hlt' c (hinnI c e)) hbel'.size
  ·rw[hto' c e] at hc;exact hlt2 c hc
 ·by_cases er:r=R'
  ·subst er;have h0:=hrows' r;rw[hoX] at h0;rw[ho];rcases h0 with⟨h1,h2⟩|⟨b,o,cap,us,gps,h1,⟨h2,h3,h4⟩,h5,h6,h7,h8,h9⟩
   ·have:Y=[]:=B8.1 h2;subst this;exact .inl ⟨h1,by rw[<-hYy];rfl⟩
   ·have hYl:ys.length=Y.length:=by rw[<-hYy,A1]
    have hy:∀j(x:AV),(ys.map (E .u))[j]?=some x->∃y:Tok HH E k,Y[j]?=some y/\x=E .u y.x:=fun j x hj=>by
     rw[<-hYy,D9,A5,B3] at hj;obtain⟨y,hy,rfl⟩:=hj;exact⟨y,hy,rfl⟩
    have hus:∀j y,Y[j]?=some y->us j=.agg y.v:=fun j y hj=>LD (h7 j (co y) (by simp[hj]));simp only[A1] at h1 h5;refine .inr ⟨b,o,cap,us,fps2,by rw[A1,hYl];exact h1,⟨hown b r h2,h3,h4⟩,by rw[A1,hYl];exact h5,fun j x hj=>?_,fun j x hj=>?_,?_,fun c hc=>?_⟩
    ·obtain⟨y,hyj,rfl⟩:=hy j x hj;exact h6 j (co y) (by simp[hyj])
    ·obtain⟨y,hyj,rfl⟩:=hy j x hj;rw[hus j y hyj];rcases hg j y hyj with⟨i,e1,e2⟩|⟨e1,e2⟩
     ·have:fps2 j=fps i:=by simp only[fps2,e1]
      rw[this];exact(hXrep i y e2).mono fun c hc=>⟨hto c (himm' c hc).1,(himm' c hc).2⟩
     ·have:fps2 j=[]:=by simp only[fps2,e1]
      rw[this];exact e2 _ _ _
    ·rw[A1,hYl];obtain⟨n1,n2⟩:=bR hnd;refine dF (fun j hj=>?_) (fun i j hi hj hij c hci hcj=>?_)
     ·simp only[fps2];split
      ·rename_i i hgi;exact n1 i (hgl j i hj hgi).1
      ·exact F5
     ·simp only[fps2] at hci hcj;split at hci
      ·rename_i a hga;split at hcj
       ·rename_i a' hga';by_cases e:a=a'
        ·subst e;exact hij (hginj i j a hga hga')
        ·exact n2 a a' (hgl i a hi hga).1 (hgl j a' hj hga').1 e c hci hcj
       ·cases hcj
      ·cases hci
    ·rw[A1,hYl] at hc;simp only[tag2];rw[u7 (hui c hc),u7 (show used c from hc)]
  ·rw[ho' r er];have h0:=hrows' r;rw[hoX' r er] at h0;cases hl:aB r outsR with
   |none=>rw[hl] at h0;exact h0
   | some row =>
     rw[hl] at h0;have hfl:=hf r row er hl;cases row with
     |dead=>exact h0
     | var x =>
       obtain⟨b,o,v,h1,⟨h2,h3,h4⟩,h5,h6,h7⟩:=h0;exact⟨b,o,v,h1,⟨hown b r h2,h3,h4⟩,h5,h6.mono (fun c hc=>⟨hto c hc,rfl⟩) (fun _ _=>.inl rfl),h7⟩
     | arr kk es =>
       rcases h0 with⟨h1,h2⟩|⟨b,o,cap,us,gps,h1,⟨h2,h3,h4⟩,h5,h6,h7,h8,h9⟩
       ·exact .inl ⟨h1,h2⟩
       ·have hnil:∀j,j<es.length->gps j=[]:=fun j hj=>(h7 j es[j] (A2 hj)).noU_nil (hfl _ (E8 hj));refine .inr ⟨b,o,cap,us,gps,h1,⟨hown b r h2,h3,h4⟩,h5,h6,fun j x hj=>(h7 j x hj).mono fun c hc=>⟨hto c hc,rfl⟩,h8,fun c hc=>?_⟩;rw[bj _ _ hnil] at hc;cases hc
 ·by_cases er:r=R'
  ·subst er;rw[ho] at hr;cases hr
  ·rw[ho' r er,<-hoX' r er] at hr;rw[<-houts];exact hwf' r x hr q hq
 ·refine hbk r hr ?_;by_cases er:r=R'
  ·subst er;rw[hoX];trivial
  ·rw[hoX' r er,<-ho' r er];exact hl
mutual
def AV.shs:AV->AV
 | .sc v=>.sc v
 | .lst _ n xs=>.lst .s n (mU xs)
 | .agg cs=>.agg (mU cs)
 |_=>.top
def mU:List AV->List AV
 |[]=>[]
 |c::cs=>c.shs::mU cs
end
theorem pQ:∀{xs:List AV}{j:Nat}{x:AV},(mU xs)[j]?=some x->∃y,xs[j]?=some y/\x=y.shs
 |[],j,x,h=>by simp[mU] at h
 |c::cs,0,x,h=>by simp[mU] at h;exact⟨c,rfl,h.symm⟩
 |c::cs,j+1,x,h=>by simp[mU] at h;simpa using pQ h
theorem sC:∀{xs:List AV},(mU xs).length=xs.length
 |[]=>rfl
 |c::cs=>by simp[mU,sC (xs:=cs)]
theorem yx{β:Type}(f g:β->AV)(h:∀x,(f x).shs=g x):∀xs:List β,mU (xs.map f)=xs.map g
 |[]=>rfl
 |x::xs=>by simp[mU,h,yx f g h xs]
def aX.shs{x:AV}{fp:List Nat}(h:aX w S B v x fp)(B':Nat):aX w S B' v x.shs []:=by
 induction h with
 |top v=>exact .top v
 |sc v h=>exact .sc v h
 |nil f n ad cap h=>exact .nil .s n ad cap ⟨h.1,fun e=>by cases e⟩
 | lst f n b o len cap xs vs fps hl hc hf hu hv hx ih =>
   have:=aX.lst (w:=w) (S:=S) (B:=B') .s n b o len cap (mU xs) vs (fun _=>[]) (by rw[sC];exact hl) hc hf.S (fun e=>by cases e)
    (fun j x hj=>by obtain⟨y,hy,_⟩:=pQ hj;exact hv j y hy) (fun j x hj=>by obtain⟨y,hy,rfl⟩:=pQ hj;exact ih j y hy)
   simpa[bj _ _ fun _ _=>rfl,AV.shs] using this
 | agg vs cs fps h h1 hx ih =>
   have:=aX.agg (w:=w) (S:=S) (B:=B') vs (mU cs) (fun _=>[]) (by rw[sC];exact h) h1 (fun j x hj=>by obtain⟨y,hy,rfl⟩:=pQ hj;exact ih j y hy);simpa[bj _ _ fun _ _=>rfl,AV.shs] using this
 |tup vs cs fps h hx ih=>exact .top _
 |fn f vs cs fps h hx ih=>exact .top _
 |ub b=>exact .top _
 |bp f b o off v x hb hv hx ih=>exact .top _
def VC{R':Nat}{l:List (Nat×Row)}(h:∀p∈l,p.1≠R'->p.2.flatU):∀r row,r≠R'->aB r l=some row->row.flatU:=fun r row hr hl=>h (r,row) (kg hl) hr
end Vs

namespace Vs
open Go
variable{τ S:Type}
variable{n:Nat}{s:S}
def Vl(h:n<9223372036854775808):IntKind.wrap .i64 (n:Int)=n:=az (by omega) (by omega)
def agw(h:n+1<9223372036854775808):IntKind.wrap .i64 ((n:Int)+1)=((n+1:Nat):Int):=by rw[<-Vl h];rfl
def Gl(l:List τ)(i:Nat)(tz:τ)(n:Nat)(hl:l.length=n)(hi:i<=n):dg l i (F9 (n-i) tz)=l.take i++F9 (n-i) tz:=by
 simp_all [List.length_replicate,if_pos,List.drop_of_length_le,H3,dg]
def Wv{H:World->Prop}{α:Type}{E:Fl->α->AV}{k:Nat}{X ys zs:List (Tok H E k)}(h:ys.Sublist X)(hz:∀z∈zs,z.Free):Sel X (ys++zs):=by
 have key:∃g:Nat->Nat,(∀j y,ys[j]?=some y->X[g j]?=some y)/\∀i j,i<ys.length->j<ys.length->g i=g j->i=j:=by
  clear hz;induction h with
  |slnil=>simp_all
  | cons a _ ih =>
    obtain⟨g,g1,g2⟩:=ih;exact⟨fun j=>g j+1,fun j y hj=>by simpa using g1 j y hj,fun i j hi hj e=>g2 i j hi hj (Nat.succ.inj e)⟩
  | cons_cons a _ ih =>
    obtain⟨g,g1,g2⟩:=ih;refine⟨fun j=>match j with|0=>0|j+1=>g j+1,fun j y hj=>?_,fun i j hi hj e=>?_⟩
    ·grind
    grind
 obtain⟨g,g1,g2⟩:=key;refine⟨fun j=>if j<ys.length then some (g j) else none,fun j y hj=>?_,fun i j a hi hj=>?_⟩
 ·grind
 grind
end Vs

namespace Vs
open Go
variable{τ:Type}
def Kl(tz:τ)(a b:Int)(X:List τ):Option (Nat×Nat×List τ):=
 (grd (0<=a/\a<=b/\b<=(X.length:Int)/\(X.length:Int)<=(X.length:Int))).bind fun _=>cond (a==b) (some (0,X.length,X)) ((grd (True/\0<=a/\True/\0+B5 a<=X.length)).bind fun _=>(grd (0<=b/\True/\B5 b<=X.length/\0+X.length<=X.length)).bind fun _=>bnd (cY X (B5 b) (X.length-(B5 b))) fun l5=>(grd (0+(B5 a)+l5.length<=X.length)).bind fun _=>bnd (dg X (B5 a) l5) fun l8=>(grd (0<=((((B5 a)+l5.length):Nat):Int)/\0<=(X.length:Int)/\B5 ((((B5 a)+l5.length):Nat):Int)<=B5 (X.length:Int)/\0+B5 (X.length:Int)<=l8.length)).bind fun _=>bnd (dg l8 (B5 ((((B5 a)+l5.length):Nat):Int)) (F9 ((B5 (X.length:Int))-(B5 ((((B5 a)+l5.length):Nat):Int))) tz)) fun l12=>some (0,((B5 a)+l5.length),l12))
def Fj(tz:τ)(a b:Int)(X:List τ):Kl tz a b X=if 0<=a/\a<=b/\b<=X.length then some (0,a.toNat+(X.length-b.toNat),X.take a.toNat++X.drop b.toNat++F9 (b.toNat-a.toNat) tz) else none:=by
 unfold Kl;by_cases h:0<=a/\a<=b/\b<=(X.length:Int)
 ·obtain⟨h1,h2,h3⟩:=h;rw[u7 ⟨h1,h2,h3⟩,aW ⟨h1,h2,h3,Int.le_refl _⟩,D4];by_cases e:a=b
  ·subst e;rw[beq_self_eq_true,g9];simp;omega
  ·have e':(a==b)=false:=by rw[beq_eq_false_iff_ne];exact e
   have hd:(X.drop b.toNat).length=X.length-b.toNat:=D3;have hs:cY X b.toNat (X.length-b.toNat)=X.drop b.toNat:=by rw[eY,D8 (by omega)]
   rw[e',g8,aW ⟨trivial,h1,trivial,by omega⟩,D4,aW ⟨by omega,trivial,by omega,by omega⟩,D4];simp only[bnd,hs,hd,Int.toNat_natCast];rw[aW (by omega),D4];have ho:dg X a.toNat (X.drop b.toNat)=X.take a.toNat++X.drop b.toNat++X.drop (a.toNat+(X.length-b.toNat)):=by
    unfold dg;rw[hd,u7 (by omega)]
   have hol:(dg X a.toNat (X.drop b.toNat)).length=X.length:=gg _ _ _;rw[hol,aW ⟨by omega,by omega,by omega,by omega⟩,D4];rw[Gl _ _ _ X.length hol (by omega),ho,List.take_append_of_le_length (by simp;omega),D8 (by simp;omega)];have:X.length-(a.toNat+(X.length-b.toNat))=b.toNat-a.toNat:=by omega
   rw[this]
 ·rw[u6 h];have:grd (0<=a/\a<=b/\b<=(X.length:Int)/\(X.length:Int)<=(X.length:Int))=none:=u6 fun e=>h ⟨e.1,e.2.1,e.2.2.1⟩;rw[this];rfl
def Wd{H:World->Prop}{α:Type}{E:Fl->α->AV}{k:Nat}{z:α}{tz:Tok H E k}(hz:tz.x=z)(hf:tz.Free){X:List (Tok H E k)}{a b:Int}{r:Nat×Nat×List α}(h:Kl z a b (X.map Tok.x)=some r):
 ∃Y:List (Tok H E k),Kl tz a b X=some (r.1,r.2.1,Y)/\Sel X Y/\Y.map Tok.x=r.2.2:=by
 rw[Fj] at h⊢;rw[A1] at h;split at h
 ·rename_i hc;cases h;have hs:(X.take a.toNat++X.drop b.toNat).Sublist X:=by
   have:(X.drop b.toNat).Sublist (X.drop a.toNat):=by
    have e:b.toNat=a.toNat+(b.toNat-a.toNat):=by omega
    rw[e,<-H7];exact List.drop_sublist _ _
   have:=(List.Sublist.refl (X.take a.toNat)).append this;rwa[List.take_append_drop] at this
  refine⟨_,u7 hc,Wv hs fun y hy=>?_,by simp[hz,K3,K4]⟩;rw[List.eq_of_mem_replicate hy];exact hf
 ·cases h
end Vs

namespace Vs
open Go
def mG{α:Type}(BY:Nat)(xs:List α)(i:Int)(ys:List α):Option (List α):=
 if 0<=i/\i.toNat<=xs.length/\0<ys.length/\(xs.length+ys.length)*BY<=140737488355328 then some (xs.take i.toNat++ys++xs.drop i.toNat) else none
def Cu{α:Type}{BY:Nat}{xs:List α}{i:Int}{ys zs:List α}(h:mG BY xs i ys=some zs):
 0<=i/\i.toNat<=xs.length/\0<ys.length/\(xs.length+ys.length)*BY<=140737488355328/\zs=xs.take i.toNat++ys++xs.drop i.toNat:=by
 unfold mG at h;split at h
 ·rename_i hc;obtain⟨a,b,c,d⟩:=hc;exact⟨a,b,c,d,(Option.some.inj h).symm⟩
 ·cases h
def xV{α:Type}{BY:Nat}{xs:List α}{i:Int}{ys zs:List α}(h:mG BY xs i ys=some zs):zs.length=xs.length+ys.length:=by
 obtain⟨h1,h2,h3,h4,rfl⟩:=Cu h;simp only[C0,D0,D3];omega
def TA{α:Type}{BY:Nat}{xs:List α}{i:Int}{ys zs:List α}(h:mG BY xs i ys=some zs)(j:Nat):
 zs[j]?=if j<i.toNat then xs[j]? else if j<i.toNat+ys.length then ys[j-i.toNat]? else xs[j-ys.length]?:=by
 obtain⟨h1,h2,h3,h4,rfl⟩:=Cu h;have hl:(xs.take i.toNat).length=i.toNat:=by rw[D0];omega
 by_cases c1:j<i.toNat
 ·rw[u7 c1,C7,C3 (by omega),F6,u7 c1]
 ·rw[u6 c1];by_cases c2:j<i.toNat+ys.length
  ·rw[u7 c2,C7,C1 (by omega),hl,C3 (by omega)]
  ·rw[u6 c2,C1 (by rw[C0];omega),C0,hl,F7];congr 1;omega
end Vs

namespace Vs
open Go Go.RowKit
variable{w:World}{b t:Nat}{vs:List Value}{n k:Nat}{cs:List Value}{m:Nat}{w':World}{e:Ending}{c:Nat}
theorem oZ(b:Nat):∀(vs:List Value)(o:Nat)(w:World)(c:Array Value)(ty:TypeId)(fr:Nat×Nat),w.heap[b]?=some (.cells c ty fr)->
 ∃c',(w.setCells b o vs).heap[b]?=some (.cells c' ty fr)/\c'.size=c.size
 |[],o,w,c,ty,fr,h=>⟨c,h,rfl⟩
 | v :: r, o, w, c, ty, fr, h => by
   have h1:(w.setCell ⟨b,o,none⟩ v).heap[b]?=some (.cells (c.setIfInBounds o v) ty fr):=by
    simp[World.setCell,B6,h]
   obtain⟨c',e1,e2⟩:=oZ b r (o+1) _ _ ty fr h1;exact⟨c',e1,by rw[e2,Array.size_setIfInBounds]⟩
def jg(h:Free w b t)(o:Nat)(vs:List Value):Free (w.setCells b o vs) b t:=by
 obtain⟨c,ty,e1,e2⟩:=h;obtain⟨c',e3,e4⟩:=oZ b vs o w c ty (0,0) e1;exact⟨c',ty,e3,by omega⟩
theorem jf:∀(vs:List Value)(o:Nat)(W:World),mz w W b->mz w (W.setCells b o vs) b
 |[],o,W,h=>h
 | v :: r, o, W, h => jf r (o + 1) _ ⟨h.os, h.tape, h.output, h.drawn, by rw [World.size_setCell]; exact h.size,
     fun c hc hb=>by rw[<-h.block c hc hb];simp[World.setCell,B6,Ne.symm hb],fun a ha=>by rw[World.frozen?_setCell];exact h.frz a ha⟩
def lu(w:World)(b:Nat):mz w w b:=⟨rfl,rfl,rfl,D7 _,D7 _,fun _ _ _=>rfl,fun _ _=>rfl⟩
def lj{W:World}(h:mz w W b):mz w W.drew b:=⟨h.os,h.tape,h.output,J2 h.drawn,h.size,h.block,h.frz⟩
def sj{W:World}(h:mz w W b)(c:Array Value)(t:TypeId):mz w (W.alloc (.cells c t)) b:=
 ⟨h.os,h.tape,h.output,h.drawn,by rw[World.size_alloc];exact J2 h.size,fun x hx hb=>by rw[Below.heap_alloc _ _ _ (A9 hx h.size)];exact h.block x hx hb,
  fun a ha=>by rw[World.frozen?_alloc_old _ _ _ (Nat.ne_of_lt (A9 ha h.size))];exact h.frz a ha⟩
def oE(h:Free w b t)(q:Nat)(hq:q<t):(w.cell? ⟨b,q,none⟩).isSome=true:=by
 obtain⟨c,ty,e1,e2⟩:=h
 grind [World.cell?]
def qA(h:Free w b t)(q:Nat):w.frozen? ⟨b,q,none⟩=false:=by
 obtain⟨c,ty,e1,e2⟩:=h;simp[World.frozen?,e1]
def qY(h:Free w b t):∃ty n,w.shape? b=some (ty,n)/\t<=n:=by
 obtain⟨c,ty,e1,e2⟩:=h
 grind [World.shape?]
def Uk(h:Free w b t):b<w.heap.size:=by
 obtain⟨c,ty,e1,e2⟩:=h
 grind
def kC{o:Nat}(h:Free w b t)(hl:o+vs.length<=t)(q:Nat):
 (w.setCells b o vs).cell? ⟨b,q,none⟩=if o<=q/\q<o+vs.length then vs[q-o]? else w.cell? ⟨b,q,none⟩:=by
 split
 ·rename_i hq;have:=World.cell?_setCells_in b vs o w (fun j hj=>oE h _ (by omega)) (q-o) (by omega)
  simp_all
 grind [World.cell?_setCells_out]
def SC(k:Nat)(w:World)(base:Option Addr)(c L:Nat)(rs:List Value)(e:Ending)(w':World):Prop:=
 ∃ b o c', e = .returned (.slice (some ⟨b, o, none⟩) L c') ∧ L ≤ c' ∧ (w.heap.size ≤ b ∨ base = some ⟨b, o, none⟩ ∧ c' = c) ∧ Free w' b (o + c' * k) ∧ mz w w' b ∧
   ∀j x,rs[j]?=some x->w'.cell? ⟨b,o+j,none⟩=some x
def Mv{a j:Nat}{x:Value}(ha:a<=cs.length)(h:(cs.take a++vs++cs.drop a)[j]?=some x):
 (j<a/\cs[j]?=some x)\/(a<=j/\j<a+vs.length/\vs[j-a]?=some x)\/(a+vs.length<=j/\j<vs.length+cs.length/\cs[j-vs.length]?=some x):=by
 grind
def CA{off i:Nat}(hF:Free w b (off+c*k))(hr:n+m<=c)(hi:i<n)(hcl:cs.length=n*k)(hvl:vs.length=m*k)
 (hcs:∀j v,cs[j]?=some v->w.cell? ⟨b,off+j,none⟩=some v)
 (h:e=.returned (.slice (some ⟨b,off,none⟩) (n+m) c)/\w'=(w.drew.setCells b (off+(i+m)*k) (cs.drop (i*k))).setCells b (off+i*k) vs):
 SC k w (some ⟨b,off,none⟩) c (n+m) (cs.take (i*k)++vs++cs.drop (i*k)) e w':=by
 obtain⟨rfl,rfl⟩:=h;have h1:=A3 k hr;have h2:=A3 k (K7 hi);rw[B0] at h1;have hF1:Free w.drew b (off+c*k):=hF;have hdl:(cs.drop (i*k)).length=n*k-i*k:=by rw[D3,hcl]
 refine⟨b,off,c,rfl,hr,.inr ⟨rfl,rfl⟩,jg (jg hF1 _ _) _ _,jf _ _ _ (jf _ _ _ (lj (lu _ _))),fun j x hj=>?_⟩;rw[kC (jg hF1 _ _) (by rw[hvl];omega),kC hF1 (by grind),hdl,hvl,B0];rcases Mv (by omega) hj with⟨a1,a2⟩|⟨a1,a2,a3⟩|⟨a1,a2,a3⟩
 ·rw[u6 (by omega),u6 (by omega)];exact hcs j x a2
 ·grind
 grind
def Jb{off:Nat}(hF:Free w b (off+c*k))(hr:n+m<=c)(hcl:cs.length=n*k)(hvl:vs.length=m*k)
 (hcs:∀j v,cs[j]?=some v->w.cell? ⟨b,off+j,none⟩=some v)
 (h:e=.returned (.slice (some ⟨b,off,none⟩) (n+m) c)/\w'=w.setCells b (off+n*k) vs):
 SC k w (some ⟨b,off,none⟩) c (n+m) (cs.take (n*k)++vs++cs.drop (n*k)) e w':=by
 obtain⟨rfl,rfl⟩:=h;have h1:=A3 k hr;rw[B0] at h1;refine⟨b,off,c,rfl,hr,.inr ⟨rfl,rfl⟩,jg hF _ _,jf _ _ _ (lu _ _),fun j x hj=>?_⟩;rw[kC hF (by rw[hvl];omega),hvl];rcases Mv (by omega) hj with⟨a1,a2⟩|⟨a1,a2,a3⟩|⟨a1,a2,a3⟩
 ·rw[u6 (by omega)];exact hcs j x a2
 ·rw[u7 (by omega)];rw[show off+j-(off+n*k)=j-n*k by omega];exact a3
 ·omega
def rz{base:Option Addr}(hcl:cs.length=n*k)(hvl:vs.length=m*k)
 (h:∃(G:Nat)(tl:Array Value),n+m<=G/\tl.size=(G-(n+m))*k/\(∀x∈tl,x.oneCell'=true)/\e=.returned (.slice (some ⟨w.heap.size,0,none⟩) (n+m) G)/\
  w'=w.drew.alloc (.cells ((cs++vs).toArray++tl) t)):
 SC k w base c (n+m) (cs.take (n*k)++vs++cs.drop (n*k)) e w':=by
 obtain⟨G,tl,g1,g2,g3,rfl,rfl⟩:=h;have h1:=A3 k g1;rw[I1] at g2;refine⟨w.heap.size,0,G,rfl,g1,.inl (D7 _),⟨_,t,heap_alloc_new w.drew _,?_⟩,sj (lj (lu _ _)) _ _,fun j x hj=>?_⟩
 ·grind
 ·rw[World.cell?_alloc_at (w:=w.drew) _ _ w.heap.size _ rfl,F4,<-hcl,J4,List.drop_length,H3] at*
  grind
def IY{base:Option Addr}{i:Nat}(hi:i<n)(hcl:cs.length=n*k)(hvl:vs.length=m*k)
 (h:∃(G:Nat)(tl:Array Value),n+m<=G/\tl.size=(G-(n+m))*k/\(∀x∈tl,x.oneCell'=true)/\e=.returned (.slice (some ⟨w.heap.size,0,none⟩) (n+m) G)/\
  ∃z:Array Value,z.size=(n+m-i)*k/\w'=(((w.alloc (.cells ((cs.take (i*k)).toArray++z++tl) t)).drew.setCells w.heap.size (i*k) vs).drew).setCells w.heap.size ((i+m)*k) (cs.drop (i*k))):
 SC k w base c (n+m) (cs.take (i*k)++vs++cs.drop (i*k)) e w':=by
 obtain⟨G,tl,g1,g2,g3,rfl,z,g4,rfl⟩:=h;have h1:=A3 k g1;have h2:=A3 k (K7 hi);rw[I1] at g2 g4;rw[B0] at h1 g2 g4;have hdl:(cs.drop (i*k)).length=n*k-i*k:=by rw[D3,hcl]
 have htl:(cs.take (i*k)).length=i*k:=by rw[D0];omega
 have hF:Free (w.alloc (.cells ((cs.take (i*k)).toArray++z++tl) t)).drew w.heap.size (G*k):=⟨_,t,heap_alloc_new w _,by
  grind⟩
 have hF2:Free (((w.alloc (.cells ((cs.take (i*k)).toArray++z++tl) t)).drew.setCells w.heap.size (i*k) vs).drew) w.heap.size (G*k):=jg hF _ _;refine⟨w.heap.size,0,G,rfl,g1,.inl (D7 _),by rw[F4];exact jg hF2 _ _,jf _ _ _ (lj (jf _ _ _ (lj (sj (lu _ _) _ _)))),fun j x hj=>?_⟩;rw[F4,kC hF2 (by grind),hdl,B0];have e1:∀q,(((w.alloc (.cells ((cs.take (i*k)).toArray++z++tl) t)).drew.setCells w.heap.size (i*k) vs).drew).cell? ⟨w.heap.size,q,none⟩=((w.alloc (.cells ((cs.take (i*k)).toArray++z++tl) t)).drew.setCells w.heap.size (i*k) vs).cell? ⟨w.heap.size,q,none⟩:=fun _=>rfl;rw[e1,kC hF (by rw[hvl];omega),hvl];rcases Mv (by omega) hj with⟨a1,a2⟩|⟨a1,a2,a3⟩|⟨a1,a2,a3⟩
 ·rw[u6 (by omega),u6 (by omega)];show(w.alloc _).cell? _=_
  grind [World.cell?_alloc_at,Array.getElem?_append_left]
 ·grind
 grind
structure InsC(P:Program)(f k BY:Nat):Prop where
 fn:∃fn,P.funcs[f]?=some fn/\fn.body.isNone=false/\(fn.name== "runtime.NumGoroutine")=false
 kp:0<k
 ins:∀(base:Option Addr)(n c i vb voff m vc:Nat)(cs vs:List Value)(w:World),i<=n->n<=c->0<m->m<=vc->(n+m)*BY<=140737488355328->
  (∀a,base=some a->a.spot=none/\a.block≠vb/\(0<c->Free w a.block (a.off+c*k)))->(base=none->c=0)->cs.length=n*k->vs.length=m*k->
  (∀a,base=some a->∀j v,cs[j]?=some v->w.cell? ⟨a.block,a.off+j,none⟩=some v)->(∀j v,vs[j]?=some v->w.cell? ⟨vb,voff+j,none⟩=some v)->
  Free w vb (voff+vc*k)->(∀v∈cs,v.oneCell'=true)->(∀v∈vs,v.oneCell'=true)->
  Calls P f #[.slice base n c,.int .i64 i,.slice (some ⟨vb,voff,none⟩) m vc] w (SC k w base c (n+m) (cs.take (i*k)++vs++cs.drop (i*k)))
def yX{o:Nat}{es:Nat->Value}{xs:List AV}(hk:0<k)(hn:n=xs.length)(hv:∀j x,xs[j]?=some x->(es j).cells.size=k/\dz w b (o+j*k) (es j)):
 ∃cs:List Value,cs.length=n*k/\(∀j v,cs[j]?=some v->w.cell? ⟨b,o+j,none⟩=some v)/\(∀v∈cs,v.oneCell'=true)/\∀j p,j<n->p<k->cs[j*k+p]?=(es j).cells[p]?:=by
 have hq:∀q,q<n*k->q/k<n/\q%k<k/\q=q/k*k+q%k:=fun q hq=>⟨H9 (by grind),Nat.mod_lt _ hk,by grind [Nat.mul_comm,Nat.div_add_mod]⟩;have hg:∀q,((B7 (n*k)).map fun q=>(es (q/k)).cells.getD (q%k) undef)[q]?=if q<n*k then some ((es (q/k)).cells.getD (q%k) undef) else none:=fun q=>by
  grind
 have hat:∀q,q<n*k->(es (q/k)).cells[q%k]?=some ((es (q/k)).cells.getD (q%k) undef)/\w.cell? ⟨b,o+q,none⟩=some ((es (q/k)).cells.getD (q%k) undef)/\((es (q/k)).cells.getD (q%k) undef).oneCell'=true:=fun q hql=>by
  obtain⟨a1,a2,a3⟩:=hq q hql;obtain⟨b1,b2⟩:=hv (q/k) _ (A2 (by omega));have e:(es (q/k)).cells[q%k]?=some ((es (q/k)).cells.getD (q%k) undef):=by
   rw[B4 (by omega)];simp[K9,b1,a2]
  obtain⟨c1,c2⟩:=b2 _ _ e
  grind
 refine⟨(B7 (n*k)).map fun q=>(es (q/k)).cells.getD (q%k) undef,by simp,fun j v hj=>?_,fun v hv'=>?_,fun j p hj hp=>?_⟩
 ·grind
 ·grind
 ·have hl:j*k+p<n*k:=by
   have:=A3 k (show j+1<=n from hj);rw[B0,G1] at this;omega
  have e1:(j*k+p)/k=j:=by rw[J0,Nat.mul_add_div hk,J7 hp];rfl
  grind
def VU{P:Program}{f BY:Nat}(L:InsC P f k BY){α:Type}(E:α->AV){xs ys zs:List α}{i:Int}(hn:n=xs.length)(hm:m=ys.length)(h:mG BY xs i ys=some zs):
 OkM P f [.sl 1000000000 0 n,.i i,.sl 1000000001 0 m] [(1000000000,.arr k (xs.map E)),(1000000001,.arr k (ys.map E))] (.sl 0 0 zs.length) [(0,.arr k (zs.map E))]:=by
 subst hn hm;obtain⟨hi0,hil,hml,hby,_⟩:=Cu h;have hzl:=xV h;have hza:=TA h;have hk:=L.kp;refine⟨L.fn,fun w0 w tag β vs hbel hold hlt hrows hwf hvs hat _=>?_⟩;have hr1:=hrows 1000000000;have hr2:=hrows 1000000001;have h0:=(hat 0 _ rfl).1;have h1:=(hat 1 _ rfl).1;have h2:=(hat 2 _ rfl).1;have hv3:vs=#[vs.getD 0 undef,vs.getD 1 undef,vs.getD 2 undef]:=by
  apply J6
  ·rw[hvs];rfl
  ·intro j hj _;rw[hvs] at hj;have:j=0\/j=1\/j=2:=by simp at hj;omega
   rcases this with rfl|rfl|rfl<;>simp[hvs]
 generalize vs.getD 0 undef=v0 at h0 hv3;generalize vs.getD 1 undef=v1 at h1 hv3;generalize vs.getD 2 undef=v2 at h2 hv3;subst hv3;have e1:v1=.int .i64 i:=by cases h1 with|p _ _ hp=>cases hp;rfl
 subst e1
 -- the row that is put in
 rcases hr2 with⟨_,hes⟩|⟨b2,o2,cap2,es2,fps2,hb2,⟨ht2,hB2,hF2⟩,hc2,hv2,hx2,hn2,hu2⟩
 ·have:ys=[]:=B8.1 hes;rw[this] at hml;cases hml
 rw[A1] at hb2 hc2 hn2 hu2;obtain⟨vc,e2,hvc,hmvc⟩:∃vc,v2=.slice (some ⟨b2,o2,none⟩) ys.length vc/\vc=cap2/\ys.length<=vc:=by
  generalize hL:ys.length=L' at h2;cases h2 with
  |p _ _ hp=>cases hp
  | slB r i n b o sz cap len c hh hc hn hl =>
    rw[hb2] at hh;cases hh;exact⟨c,by simp,by omega,hn⟩
  |slE r i b o sz cap len p hh hp=>omega
  |slN r hh=>omega
  |slD r i n v hh=>rw[hb2] at hh;cases hh
 subst e2 hvc;obtain⟨vl,hvl,hvr,hv1,hvp⟩:=yX hk (n:=ys.length) (by simp) hv2
 -- the row into which it is put
 obtain⟨base,c,cl,es1,fps1,e0,hnc,hbase,hnil,hcl,hcr,hc1,hcp,hx1,hn1,hu1,hob⟩:∃(base:Option Addr)(c:Nat)(cl:List Value)(es1:Nat->Value)(fps1:Nat->List Nat),v0=.slice base xs.length c/\xs.length<=c/\
  (∀a,base=some a->a.spot=none/\a.block≠b2/\(0<c->Free w a.block (a.off+c*k)))/\(base=none->c=0)/\cl.length=xs.length*k/\
  (∀a,base=some a->∀j v,cl[j]?=some v->w.cell? ⟨a.block,a.off+j,none⟩=some v)/\(∀v∈cl,v.oneCell'=true)/\
  (∀j p,j<xs.length->p<k->cl[j*k+p]?=(es1 j).cells[p]?)/\(∀j x,xs[j]?=some x->(es1 j).cells.size=k/\aX w (Imm tag) w0.heap.size (es1 j) (E x) (fps1 j))/\
  (cz xs.length fps1).Nodup/\(∀c∈cz xs.length fps1,tag c=.uq 1000000000)/\(∀a,base=some a->tag a.block=.own 1000000000/\w0.heap.size<=a.block):=by
  rcases hr1 with⟨hb1,hes⟩|⟨b1,o1,cap1,es1,fps1,hb1,⟨ht1,hB1,hF1⟩,hc1,hv1',hx1,hn1,hu1⟩
  ·have hxs:xs=[]:=B8.1 hes;subst hxs;have:v0=.slice none 0 0:=by
    generalize hL:([]:List α).length=L' at h0;cases h0 with
    |p _ _ hp=>cases hp
    |slB r i n b o sz cap len c hh=>rw[hb1] at hh;cases hh
    |slE r i b o sz cap len p hh=>rw[hb1] at hh;cases hh
    |slN r hh=>rfl
    |slD r i n v hh=>rw[hb1] at hh;cases hh
   exact⟨none,0,[],fun _=>undef,fun _=>[],this,C4 _,fun a ha=>(by cases ha),fun _=>rfl,by simp,fun a ha=>(by cases ha),fun v hv=>(by simp at hv),fun j p hj=>(by simp at hj),fun j x hj=>(by simp at hj),by simp[cz],by simp[cz],fun a ha=>(by cases ha)⟩
  ·rw[A1] at hb1 hc1 hn1 hu1;have hne:b1≠b2:=fun e=>by rw[e,ht2] at ht1;cases ht1
   obtain⟨cl,q1,q2,q3,q4⟩:=yX hk (n:=xs.length) (by simp) hv1';have hx1':∀j x,xs[j]?=some x->(es1 j).cells.size=k/\aX w (Imm tag) w0.heap.size (es1 j) (E x) (fps1 j):=fun j x hj=>
    ⟨(hv1' j (E x) (by rw[A5,hj];rfl)).1,hx1 j (E x) (by rw[A5,hj];rfl)⟩
   have hcv:(∃c,v0=.slice (some ⟨b1,o1,none⟩) xs.length c/\c=cap1)\/(xs.length=0/\cap1=0/\∃p,v0=.slice (some ⟨b1,p,none⟩) 0 0):=by
    generalize hL:xs.length=L' at h0 hb1;cases h0 with
    |p _ _ hp=>cases hp
    | slB r i n b o sz cap len c hh hc hn hl =>
      rw[hb1] at hh;cases hh;exact .inl ⟨c,by simp,by omega⟩
    | slE r i b o sz cap len p hh hp =>
      rw[hb1] at hh;cases hh;exact .inr ⟨rfl,hp.2.symm,p,rfl⟩
    |slN r hh=>rw[hb1] at hh;cases hh
    |slD r i n v hh=>rw[hb1] at hh;cases hh
   rcases hcv with⟨c,rfl,rfl⟩|⟨g1,g2,p,rfl⟩
   ·exact⟨some ⟨b1,o1,none⟩,c,cl,es1,fps1,rfl,hc1,fun a ha=>by cases ha;exact⟨rfl,hne,fun _=>hF1⟩,fun ha=>(by cases ha),q1,fun a ha=>by cases ha;exact q2,q3,q4,hx1',hn1,hu1,fun a ha=>by cases ha;exact⟨ht1,hB1⟩⟩
   ·have hcn:cl=[]:=G4.1 (by rw[q1,g1,J3]);subst hcn;exact⟨some ⟨b1,p,none⟩,0,[],es1,fps1,by rw[g1],by omega,fun a ha=>by cases ha;exact⟨rfl,hne,fun h=>absurd h (by omega)⟩,fun ha=>(by cases ha),by rw[g1,J3];rfl,fun a ha j v hj=>(by simp at hj),fun v hv=>(by simp at hv),fun j p hj=>(by omega),hx1',hn1,hu1,fun a ha=>by cases ha;exact⟨ht1,hB1⟩⟩
 subst e0;have hii:i=((i.toNat:Nat):Int):=(Int.toNat_of_nonneg hi0).symm;generalize i.toNat=q at hil hii hza;subst hii;refine(L.ins base xs.length c q b2 o2 ys.length vc cl vl w hil hnc hml hmvc hby hbase hnil hcl hvl hcr hvr hF2 hc1 hv1).mono ?_;rintro e w' ⟨b,o,c',rfl,hLc,hbo,hF,hN,hcell⟩;rw[<-hzl] at hLc
 -- b:old and of the row,or new
 have hbn:∀c,Imm tag c->c≠b:=fun x hx e=>by
  subst e;have hxl:=hlt x (by rcases hx with e|⟨r,e⟩<;>rw[e]<;>simp);rcases hbo with hge|⟨hb',_⟩
  ·omega
  ·have:=(hob _ hb').1;rcases hx with e|⟨r,e⟩<;>rw[e] at this<;>cases this
 have hbB:w0.heap.size<=b:=by
  rcases hbo with hge|⟨hb',_⟩
  ·exact I9 hbel.size hge
  ·exact(hob _ hb').2
 have hbt:b<w.heap.size->tag b=.own 1000000000:=fun hl=>by
  rcases hbo with hge|⟨hb',_⟩
  ·omega
  ·exact(hob _ hb').1
 have hkeep:∀x,Imm tag x->w'.heap[x]?=w.heap[x]?:=fun x hx=>hN.block x (hlt x (by rcases hx with e|⟨r,e⟩<;>rw[e]<;>simp)) (hbn x hx);let tag':Nat->Tag:=fun x=>if x=b then .own 0 else match tag x with| .uq _=>.uq 0|t=>t
 let β':Nat->Option Own:=fun r=>if r=0 then some (.blk b o k c' zs.length) else none
 have himm:∀x,Imm tag x->Imm tag' x:=fun x hx=>by
  have hx':=hbn x hx;simp only[Imm,tag',if_neg hx'];rcases hx with e|⟨r,e⟩
  ·rw[e];exact .inl rfl
  ·rw[e];exact .inr ⟨_,rfl⟩
 have huq:∀x,tag x=.uq 1000000000\/tag x=.uq 1000000001->tag' x=.uq 0:=fun x hx=>by
  have hx':x≠b:=hbn x (by rcases hx with e|e<;>exact .inr ⟨_,e⟩);simp only[tag',if_neg hx'];rcases hx with e|e<;>rw[e]
 let es':Nat->Value:=fun j=>if j<q then es1 j else if j<q+ys.length then es2 (j-q) else es1 (j-ys.length)
 let fps':Nat->List Nat:=fun j=>if j<q then fps1 j else if j<q+ys.length then fps2 (j-q) else fps1 (j-ys.length)
 have hcells:∀j,j<zs.length->∀p,p<k->(cl.take (q*k)++vl++cl.drop (q*k))[j*k+p]?=(es' j).cells[p]?:=fun j hj p hp=>by
  have hq1:=A3 k hil;have hlt':(cl.take (q*k)).length=q*k:=by rw[D0];omega
  simp only[es'];by_cases c1:j<q
  ·have:=A3 k (show j+1<=q from c1);rw[B0,G1] at this;rw[u7 c1,C7,C3 (by omega),F6,u7 (by omega)];exact hcp j p (by omega) hp
  ·have c1':q<=j:=by omega
   have hs1:=A3 k c1';rw[u6 c1];by_cases c2:j<q+ys.length
   ·have:=A3 k (show j+1<=q+ys.length from c2);rw[B0,B0,G1] at this;rw[u7 c2,C7,C1 (by omega),hlt',C3 (by omega)];rw[<-hvp (j-q) p (by omega) hp,I1];congr 1;omega
   ·have:=A3 k (show q+ys.length<=j by omega);rw[B0] at this;rw[u6 c2,C1 (by rw[C0];omega),C0,hlt',F7,hvl];rw[<-hcp (j-ys.length) p (by omega) hp,I1];congr 1;omega
 have hel:∀j z,zs[j]?=some z->(es' j).cells.size=k/\aX w (Imm tag) w0.heap.size (es' j) (E z) (fps' j):=fun j z hj=>by
  rw[hza] at hj;simp only[es',fps'];by_cases c1:j<q
  ·rw[u7 c1] at hj⊢;rw[u7 c1];exact hx1 j z hj
  ·rw[u6 c1] at hj⊢;rw[u6 c1];by_cases c2:j<q+ys.length
   ·rw[u7 c2] at hj⊢;rw[u7 c2];exact⟨(hv2 _ (E z) (by rw[A5,hj];rfl)).1,hx2 _ (E z) (by rw[A5,hj];rfl)⟩
   ·rw[u6 c2] at hj⊢;rw[u6 c2];exact hx1 _ z hj
 obtain⟨n1,n1'⟩:=bR hn1;obtain⟨n2,n2'⟩:=bR hn2;have hft:∀j,j<zs.length->∀x∈fps' j,(∃j',j'<xs.length/\x∈fps1 j'/\(j<q/\j'=j\/q+ys.length<=j/\j'=j-ys.length))\/(q<=j/\j<q+ys.length/\x∈fps2 (j-q)):=fun j hj x hx=>by
  simp only[fps'] at hx;by_cases c1:j<q
  ·rw[u7 c1] at hx;exact .inl ⟨j,by omega,hx,.inl ⟨c1,rfl⟩⟩
  ·rw[u6 c1] at hx;by_cases c2:j<q+ys.length
   ·rw[u7 c2] at hx;exact .inr ⟨by omega,c2,hx⟩
   ·rw[u6 c2] at hx;exact .inl ⟨j-ys.length,by omega,hx,.inr ⟨by omega,rfl⟩⟩
 have hu1':∀j,j<xs.length->∀x∈fps1 j,tag x=.uq 1000000000:=fun j hj x hx=>hu1 x (be.2 ⟨j,hj,hx⟩);have hu2':∀j,j<ys.length->∀x∈fps2 j,tag x=.uq 1000000001:=fun j hj x hx=>hu2 x (be.2 ⟨j,hj,hx⟩);refine⟨_,tag',β',rfl,⟨⟨hN.os,hN.tape,hN.output,hN.size,fun c hc=>by omega⟩,hN.frz,hN.drawn⟩,fun x hx ht=>?_,fun x hx=>⟨himm x hx,hkeep x hx⟩,fun x hx=>?_,fun r=>?_,fun r x hr q hq=>?_,fun r hr hl=>?_,?_,fun r hr=>?_⟩
 ·have hxb:x≠b:=fun e=>by
   subst e;rcases ht with ht|ht<;>rw[hbt hx] at ht<;>cases ht
  refine⟨?_,hN.block x hx hxb⟩;simp only[tag',if_neg hxb];rcases ht with ht|ht<;>rw[ht]
 ·by_cases hxb:x=b
  ·rw[hxb];exact Uk hF
  ·refine A9 (hlt x fun e=>hx ?_) hN.size;simp only[tag',if_neg hxb,e]
 ·by_cases er:r=0
  ·subst er;refine .inr ⟨b,o,c',es',fps',by rw[A1];exact u7 rfl,⟨u7 rfl,hbB,hF⟩,by rw[A1];exact hLc,fun j x hj=>?_,fun j x hj=>?_,?_,fun x hx=>?_⟩
   ·rw[A5,B3] at hj;obtain⟨z,hz,rfl⟩:=hj;obtain⟨s1,s2⟩:=hel j z hz;have hjl:=(A0.1 hz).1;refine⟨s1,fun p v hp=>?_⟩;have hpk:p<k:=by have:=(B2.1 hp).1;omega
    rw[<-hcells j hjl p hpk] at hp;refine⟨by rw[C5];exact hcell _ _ hp,?_⟩;have hm':=I0 hp;simp only[H2] at hm';rcases hm' with(hm'|hm')|hm'
    ·exact hc1 v (List.mem_of_mem_take hm')
    ·exact hv1 v hm'
    ·exact hc1 v (List.mem_of_mem_drop hm')
   ·rw[A5,B3] at hj;obtain⟨z,hz,rfl⟩:=hj;exact(hel j z hz).2.mono fun x hx=>⟨himm x hx,hkeep x hx⟩
   ·rw[A1];refine dF (fun j hj=>?_) (fun a b' ha hb' hab x hxa hxb=>?_)
    ·simp only[fps'];by_cases c1:j<q
     ·rw[u7 c1];exact n1 j (by omega)
     ·rw[u6 c1];by_cases c2:j<q+ys.length
      ·rw[u7 c2];exact n2 _ (by omega)
      ·rw[u6 c2];exact n1 _ (by omega)
    ·rcases hft a ha x hxa with⟨a',a1,a2,a3⟩|⟨a1,a2,a3⟩<;>rcases hft b' hb' x hxb with⟨b'',b1,b2',b3⟩|⟨b1,b2',b3⟩
     ·exact n1' a' b'' a1 b1 (by omega) x a2 b2'
     ·have t1:=hu1' a' a1 x a2;have t2:=hu2' _ (by omega) x b3;rw[t1] at t2;cases t2
     ·have t1:=hu2' _ (by omega) x a3;have t2:=hu1' b'' b1 x b2';rw[t1] at t2;cases t2
     ·exact n2' _ _ (by omega) (by omega) (by omega) x a3 b3
   ·rw[A1] at hx;obtain⟨j,hj,hxj⟩:=be.1 hx;rcases hft j hj x hxj with⟨a',a1,a2,a3⟩|⟨a1,a2,a3⟩
    ·exact huq x (.inl (hu1' a' a1 x a2))
    ·exact huq x (.inr (hu2' _ (by omega) x a3))
  ·have:aB r [(0,Row.arr k (zs.map E))]=none:=u6 fun e=>er e.symm;rw[this];exact u6 er
 ·have:aB r [(0,Row.arr k (zs.map E))]=if 0=r then some (Row.arr k (zs.map E)) else none:=rfl
  rw[this] at hr;split at hr<;>cases hr
 ·have:aB r [(0,Row.arr k (zs.map E))]=none:=u6 fun e=>by omega
  rw[this] at hl;exact hl.elim
 ·have:=Rep.slB (w:=w') (S:=Imm tag') (B:=w0.heap.size) (β:=β') 0 0 zs.length b o k c' zs.length c' (u7 rfl) (F4 _) hLc (by omega);rw[J3,Nat.add_zero,hzl] at this;rw[hzl];exact this
 ·have:r=0:=by simpa[AV.ments] using hr
  rw[this];rfl
end Vs



