/-
  Part of the proof that FnExactAddService returns true at every input.
-/
import Derived.Test.YtfmhphgpijjejaaGreatVd
import Derived.Deep.Slices
import Derived.ChangeSame
import Derived.Test.YtfmhphgpijjejaaGreatVa
import Derived.Sort.Defs
import Derived.Sort.Statements
import Derived.Sort.AssemblyPlain
import Derived.Lib.BitFns
import Derived.Shelf.SlSortCmp.Whole1
import Derived.Shelf.SlSortCmp.WholeK
import Derived.Shelf.Sort.Plain
import Derived.Shelf.Slices.In.SortNone
import Derived.Laws.IdiomCopy
import Derived.Laws.NewBlocks
set_option linter.defProp false
set_option linter.unusedSimpArgs false
set_option linter.unusedVariables false
open List renaming getElem?_eq_some_iff -> A0, getElem?_eq_getElem -> A2, getElem?_map -> A5, length_map -> A7, all_eq_true -> B2, take_succ_cons -> B6, getElem?_append_right -> B8, mem_of_getElem? -> C0, take_of_length_le -> C2, getD_eq_getElem?_getD -> C4, range -> C5, length_append -> C6, drop_eq_getElem_cons -> C8, getElem?_append_left -> C9, mem_map -> D0, range' -> D4, map_congr_left -> D5, length_take -> D6, map_cons -> D8, append_assoc -> D9, getElem_mem -> E0, length_drop -> E4, map_eq_nil_iff -> E6, getElem?_cons_succ -> E7, length_mergeSort -> F0, length_cons -> F4, finRange -> F5, sum_cons -> F6, length_set -> F7, getElem_of_mem -> F8, drop_drop -> G1, getElem?_take -> G2, getElem?_drop -> G3, mem_of_find?_eq_some -> G4, getElem?_set -> G5, mapM_toArray -> G6, take_add_one -> G8, length_eq_zero_iff -> H0, any_eq_true -> H1, ext_getElem -> H2, getElem?_cons_zero -> H3, zipIdx_cons -> H4, map_map -> H6, mem_append -> H9, append_nil -> I0, map_append -> I2, nodup_nil -> I3, length_pos_iff -> I6, find?_eq_none -> I7, foldl -> I8, any_eq_false -> J1, size_toArray -> J3, range'_succ -> J7, take_length -> J8, mem_flatMap -> J9, length -> K1, find?_some -> K2, find?_cons -> K5, take_zero -> K6, range_add -> K7, any_cons -> K8
open Bool renaming and_eq_true -> A1, false_eq_true -> A8, not_eq_true -> E3, not_eq_true' -> E9
open Nat renaming lt_of_lt_of_le -> A3, mul_le_mul_right -> A4, add_mul -> B3, zero_le -> C1, add_assoc -> C3, le_of_ble_eq_true -> C7, le_refl -> D3, lt_or_ge -> E8, le_trans -> F9, add_comm -> G0, one_mul -> G7, sub_zero -> H5, zero_add -> H7, div_lt_of_lt_mul -> I4, sub_mul -> I5, eq_zero_or_pos -> I9, mul_comm -> J2, le_of_lt -> J4, le_succ_of_le -> J5, zero_mul -> J6, div_eq_of_lt -> K0, min_eq_left -> K3, strongRecOn -> K4, blt -> L3
open Array renaming getD_eq_getD_getElem? -> A6, getElem?_eq_getElem -> B0, ofFn -> B4, getElem?_eq_some_iff -> B5, getElem?_append_left -> B7, getElem?_modify -> B9, replicate -> D7, length_toList -> E5, size_ofFn -> I1, extract_size -> J0, ext -> K9, getD -> L0
open Option renaming map_eq_some_iff -> B1, getD_some -> F3, bind_eq_some_iff -> G9, map_some -> H8
namespace Vs
open Go Go.RowKit
variable{P:Program}{n:Nat}{w0:World}{S0:Fx}{σ τ:St}{a:Act}{w w':World}{tag tag':Nat->Tag}{β β':Nat->Option Own}
variable{B:Nat}{x:AV}{S S':Nat->Prop}{v:Value}{fp:List Nat}
theorem jA:∀{cs:List AV}{j:Nat}{x:AV},fzL cs=true->cs[j]?=some x->x.fz=true
 |[],j,x,_,h=>by simp at h
 |c::cs,0,x,h,hx=>by simp_all [fzL]
 |c::cs,j+1,x,h,hx=>by simp[fzL] at h;exact jA h.2 (by simpa using hx)
theorem iz:∀{cs:List AV}{j:Nat}{x:AV},gj cs=true->cs[j]?=some x->x.ouB=true
 |[],j,x,_,h=>by simp at h
 |c::cs,0,x,h,hx=>by simp_all [gj]
 |c::cs,j+1,x,h,hx=>by simp[gj] at h;exact iz h.2 (by simpa using hx)
def aV.mono_fz(h:aV w S B v x fp)(hx:x.fz=true)
 (h1:∀b,S b->b<B->S' b/\w'.heap[b]?=w.heap[b]?):aV w' S' B v x fp:=by
 induction h with
 |top v=>exact .top v
 |sc v h=>exact .sc v h
 |nil f n ad cap h=>exact .nil f n ad cap h
 | lst f n b o len cap xs vs fps hl hc hf hu hv hxx ih =>
   cases f<;>simp[AV.fz] at hx;obtain⟨f1,f2⟩:=hf;obtain⟨g1,g2⟩:=h1 b f1 f2;exact .lst .o n b o len cap xs vs fps hl hc ⟨g1,f2⟩ (fun e=>by cases e) (fun j x hj=>⟨(hv j x hj).1,(hv j x hj).2.mono g2⟩) fun j x hj=>ih j x hj (jA hx hj)
 |agg vs cs fps h h0 hxx ih=>simp only[AV.fz] at hx;exact .agg vs cs fps h h0 fun j x hj=>ih j x hj (jA hx hj)
 |tup vs cs fps h hxx ih=>simp only[AV.fz] at hx;exact .tup vs cs fps h fun j x hj=>ih j x hj (jA hx hj)
 |fn f vs cs fps h hxx ih=>simp only[AV.fz] at hx;exact .fn f vs cs fps h fun j x hj=>ih j x hj (jA hx hj)
 |ub b=>exact .ub b
 | bp f b o off v x hb hv hxx ih =>
   cases f<;>simp[AV.fz] at hx;obtain⟨f1,f2⟩:=hb;obtain⟨g1,g2⟩:=h1 b f1 f2;exact .bp .o b o off v x ⟨g1,f2⟩ (hv.mono g2) (ih hx)
def aV.mono_ou(h:aV w S B v x fp)(hx:x.ouB=true)
 (h1:∀b,S b->b<B->S' b/\w'.heap[b]?=w.heap[b]?) (h2:∀b,S b->b∈fp->S' b/\w'.heap[b]?=w.heap[b]?):aV w' S' B v x fp:=by
 induction h with
 |top v=>exact .top v
 |sc v h=>exact .sc v h
 |nil f n ad cap h=>exact .nil f n ad cap h
 | lst f n b o len cap xs vs fps hl hc hf hu hv hxx ih =>
   cases f<;>simp[AV.ouB] at hx
   ·obtain⟨f1,f2⟩:=hf;obtain⟨g1,g2⟩:=h1 b f1 f2;exact .lst .o n b o len cap xs vs fps hl hc ⟨g1,f2⟩ (fun e=>by cases e) (fun j x hj=>⟨(hv j x hj).1,(hv j x hj).2.mono g2⟩) fun j x hj=>(hxx j x hj).mono_fz (jA hx hj) h1
   ·obtain⟨f1,f2⟩:=hf;obtain⟨g1,g2⟩:=h2 b f1 (by simp);refine .lst .u n b o len cap xs vs fps hl hc ⟨g1,f2⟩ (fun e=>(hu e).mono g2) (fun j x hj=>⟨(hv j x hj).1,(hv j x hj).2.mono g2⟩) fun j x hj=>ih j x hj (iz hx hj) fun c hS hc=>h2 c hS ?_
    grind [List.mem_append_right,bi,List.getElem?_eq_some_iff]
 | agg vs cs fps h h0 hxx ih =>
   simp only[AV.ouB] at hx;exact .agg vs cs fps h h0 fun j x hj=>ih j x hj (iz hx hj) fun c hS hc=>h2 c hS (bi.2 ⟨j,(A0.1 hj).1,hc⟩)
 |tup vs cs fps h hxx ih=>simp[AV.ouB] at hx
 |fn f vs cs fps h hxx ih=>simp[AV.ouB] at hx
 |ub b=>simp[AV.ouB] at hx
 |bp f b o off v x hb hv hxx ih=>simp[AV.ouB] at hx
def aV.mono_flat(h:aV w S B v x fp)(hx:x.flat=true):fp=[]/\aV w' S' B v x []:=by
 cases h with
 |top v=>simp[AV.flat] at hx
 |sc v h=>exact⟨rfl,.sc v h⟩
 |nil f n ad cap h=>simp[AV.flat] at hx
 |lst f n b o len cap xs vs fps hl hc hf hu hv hxx=>simp[AV.flat] at hx
 | agg vs cs fps h h0 hxx =>
   simp only[AV.flat,B2] at hx;have key:∀(j:Nat)(x:AV),cs[j]?=some x->fps j=[]/\aV w' S' B (vs.getD j undef) x []:=by
    intro j x hj;have h1:=hx x (C0 hj);have h2:=hxx j x hj;cases x<;>simp at h1;generalize fps j=fp at h2⊢;generalize vs.getD j undef=u at h2⊢;cases h2 with
    |sc v h=>exact⟨rfl,.sc _ h⟩
   have e:cR cs.length fps=[]:=bA _ _ fun j hj=>(key j cs[j] (by simp[hj])).1;refine⟨e,?_⟩;have:=aV.agg (w:=w') (S:=S') (B:=B) vs cs (fun _=>[]) h h0 fun j x hj=>(key j x hj).2;rwa[bA _ _ fun _ _=>rfl] at this
 |tup vs cs fps h hxx=>simp[AV.flat] at hx
 |fn f vs cs fps h hxx=>simp[AV.flat] at hx
 |ub b=>simp[AV.flat] at hx
 |bp f b o off v x hb hv hxx=>simp[AV.flat] at hx
def Rep.mono_fz(h:Rep w S B β v x)(hx:x.fz=true)
 (hs:∀b,S b->b<B->S' b/\w'.heap[b]?=w.heap[b]?) (hb:∀r∈x.ments,β' r=β r\/β' r=none):Rep w' S' B β' v x:=by
 induction h with
 |p v x h=>exact .p v x (h.mono_fz hx hs)
 |slB r i n b o sz cap len c h hc hn hl=>exact(hb r (by simp[AV.ments])).elim (fun e=>.slB r i n b o sz cap len c (e.trans h) hc hn hl) (fun e=>.slD r i n _ e rfl)
 |slE r i b o sz cap len p h hp=>exact(hb r (by simp[AV.ments])).elim (fun e=>.slE r i b o sz cap len p (e.trans h) hp) (fun e=>.slD r i 0 _ e rfl)
 |slN r h=>exact(hb r (by simp[AV.ments])).elim (fun e=>.slN r (e.trans h)) (fun e=>.slD r 0 0 _ e rfl)
 |slD r i n v h h1=>exact .slD r i n v ((hb r (by simp[AV.ments])).elim (fun e=>e.trans h) id) h1
 |ptB r i off b o sz cap len h=>exact(hb r (by simp[AV.ments])).elim (fun e=>.ptB r i off b o sz cap len (e.trans h)) (fun e=>.ptD r i off _ e rfl)
 |ptD r i off v h h1=>exact .ptD r i off v ((hb r (by simp[AV.ments])).elim (fun e=>e.trans h) id) h1
 |tg f n len a xs hl h=>simp[AV.fz] at hx
 |agg vs cs hsz h1 hxx ih=>simp only[AV.fz] at hx;exact .agg vs cs hsz h1 (fun j x hj=>ih j x hj (jA hx hj) fun r hr=>hb r (by grind [bH,AV.ments]))
 |tup vs cs hsz hxx ih=>simp only[AV.fz] at hx;exact .tup vs cs hsz (fun j x hj=>ih j x hj (jA hx hj) fun r hr=>hb r (by grind [bH,AV.ments]))
 |fn f vs cs hsz hxx ih=>simp only[AV.fz] at hx;exact .fn f vs cs hsz (fun j x hj=>ih j x hj (jA hx hj) fun r hr=>hb r (by grind [bH,AV.ments]))
def ct.mono_fz{r:Nat}{row:Option Row}(h:ct w tag B β r row)(hx:∀x,row=some x->x.fz=true)(hold:∀b,Imm tag b->b<B->Imm tag' b/\w'.heap[b]?=w.heap[b]?)
 (hown:∀b,tag b=.own r->tag' b=.own r/\w'.heap[b]?=w.heap[b]?) (huq:∀b,tag b=.uq r->tag' b=.uq r/\w'.heap[b]?=w.heap[b]?) (hr:β' r=β r)
 (hβ:∀x,row=some (.var x)->∀q∈x.ments,β' q=β q\/β' q=none):ct w' tag' B β' r row:=by
 cases row with
 |none=>exact hr.trans h
 | some row => cases row with
   |dead=>exact hr.trans h
   | var x =>
     obtain⟨b,o,v,h1,⟨h2,h3,h4⟩,h5,h6,h7⟩:=h;exact⟨b,o,v,hr.trans h1,⟨(hown b h2).1,h3,h4.mono (hown b h2).2⟩,h5.mono (hown b h2).2,h6.mono_fz (hx _ rfl) hold (hβ x rfl),h7⟩
   | arr k es =>
     have hou:=hx _ rfl;simp only[Row.fz] at hou;rcases h with⟨h1,h2⟩|⟨b,o,cap,vs,fps,h1,⟨h2,h3,h4⟩,h5,h6,h7,h8,h9⟩
     ·exact .inl ⟨hr.trans h1,h2⟩
     ·exact .inr ⟨b,o,cap,vs,fps,hr.trans h1,⟨(hown b h2).1,h3,h4.mono (hown b h2).2⟩,h5,fun j x hj=>⟨(h6 j x hj).1,(h6 j x hj).2.mono (hown b h2).2⟩,
       fun j x hj=>(h7 j x hj).mono_ou (iz hou hj) hold fun c _ hc=>by
        have:=huq c (h9 c (bi.2 ⟨j,(A0.1 hj).1,hc⟩));exact⟨.inr ⟨r,this.1⟩,this.2⟩,h8,fun c hc=>(huq c (h9 c hc)).1⟩
def Hs(S0:Fx):Prop:=∀b,Imm S0.t b->S0.t b=.imm/\b<S0.w.heap.size
def St.fz_env(h:σ.fz=true){k:Nat}(hk:aC k σ.env=some x):x.fz=true:=by
 simp only[St.fz,A1,B2] at h;exact h.1 _ (gq hk)
def St.fz_row(h:σ.fz=true){k:Nat}{x:Row}(hk:aC k σ.rows=some x):x.fz=true:=by
 simp only[St.fz,A1,B2] at h;exact h.2 _ (gq hk)
def RR.changeH(h:RR n w0 S0 σ a w tag β)(hs:Hs S0)(hfz:σ.fz=true){rows':List (Nat×Row)}(hbelow:Below w0.heap.size w w')
 (hlt:∀b,tag' b≠.out->b<w'.heap.size)
 (hkeep:∀b,b<w.heap.size->tag b=.imm\/tag b=.out->tag' b=tag b/\w'.heap[b]?=w.heap[b]?)
 (hbk:∀r,1000000000<=r->cH (aC r rows')->cH (aC r σ.rows)/\β' r=β r)
 (hβ:∀r,(aC r σ.rows).isSome->β' r=β r\/β' r=none) (hdom:∀r,(aC r σ.rows).isSome->(aC r rows').isSome)
 (hrows:∀r,ct w' tag' w0.heap.size β' r (aC r rows')) (hwf:∀r x,aC r rows'=some (.var x)->∀q∈x.ments,(aC q rows').isSome):
 RR n w0 S0 ⟨σ.env,rows'⟩ a w' tag' β' where
 nn:=h.nn
 frm:=h.frm.trans (hbelow.mono (C1 _))
 keep:=fun b hb ht=>by
  obtain⟨h1,h2⟩:=h.keep b hb ht
  grind
 kimm:=fun b hb=>by
  obtain⟨e,hb⟩:=hs b hb;obtain⟨h1,h2⟩:=h.keep b hb (.inl e);obtain⟨h3,h4⟩:=hkeep b (A3 hb h.frm.size) (by rw[h1];exact .inl e);exact⟨.inl ((h3.trans h1).trans e),h4.trans h2⟩
 bk:=fun r hr hl=>by
  obtain⟨h1,h2⟩:=hbk r hr hl;exact h2.trans (h.bk r hr h1)
 below:=h.below.trans hbelow
 sz:=h.sz
 nodef:=h.nodef
 s0lt:=h.s0lt
 lt:=hlt
 old:=fun b hb=>by
  have:=h.old b hb;rw[(hkeep b (A3 hb h.below.size) this.2).1];exact this
 env:=fun k x hk=>by
  obtain⟨h1,h2⟩:=h.env k x hk;refine⟨h1.mono_fz (St.fz_env hfz hk) (fun b hb hlt=>?_) fun r hr=>hβ r (h2 r hr),fun r hr=>hdom r (h2 r hr)⟩;have ho:=(h.old b hlt).2;have e:tag b=.imm:=by
   rcases ho with e|e
   ·exact e
   ·rcases hb with e'|⟨r,e'⟩<;>rw[e] at e'<;>cases e'
  obtain⟨h3,h4⟩:=hkeep b (A3 hlt h.below.size) (.inl e);exact⟨.inl (h3.trans e),h4⟩
 rows:=hrows
 wfr:=hwf
end Vs

namespace Vs
open Go Go.RowKit
variable{P:Program}{n:Nat}{w0:World}{S0:Fx}{σ:St}{a:Act}{w w':World}{tag tag':Nat->Tag}{β β':Nat->Option Own}{H:World->Prop}[HS S0 H]
omit [HS S0 H] in
def Jb{o:Oper}{K:AV->List (Nat×Row)->Prop}{d:Nat}(h:RR n w0 S0 σ a w tag β)(hod:o.dst=some d)(hd:d<n){f:Nat}{args:List AV}{rs:List Nat}{vs:Array Value}
 (hsz:vs.size=args.length) (hat:∀(j:Nat)(x:AV),args[j]?=some x->Rep w (Imm tag) w0.heap.size β (vs.getD j undef) x/\σ.dom x)
 (hrun:∀fn,P.funcs[f]?=some fn->fn.body.isNone=false->(fn.name== "runtime.NumGoroutine")=false->(execOp a.eval o).run P w=.ok (.enter f vs) w)
 (hs:Hs S0) (hfz:σ.fz=true) (hk:callM ⟨(OkT H P).p,(OkT H P).h,(OkT H P).h⟩ σ.row d f args rs K):Snd P n w0 S0 σ o K a w:=by
 classical
 intro next Q hnx
 obtain⟨res,outs,hok,⟨hnd,hlive,hcl,hma⟩,⟨hnb,hcn,hfr⟩,hK⟩:=hk;obtain⟨⟨fn,f1,f2,f3⟩,hcall⟩:=hok;unfold Oper.wp;rw[hrun fn f1 f2 f3,Oper.upon_enter];obtain⟨li1,li2⟩:=zn (ρ:=σ.row) hnd;have hrowsome:∀r∈rs,∃row,aC r σ.rows=some row:=by
  intro r hr;have:=hlive r hr;unfold St.row at this;cases e:aC r σ.rows with
  |none=>rw[e] at this;exact this.elim
  |some row=>exact⟨row,rfl⟩
 have hC:∀b,tag b=.imm\/tag b=.out->eE rs tag b=tag b:=by
  intro b hb;rcases hb with e|e<;>simp[eE,e]
 have hprot:∀b,(eE rs tag b=.imm\/eE rs tag b=.out)->tag b=.imm\/tag b=.out\/∃r,r∉rs/\(tag b=.own r\/tag b=.uq r):=by
  intro b hb;unfold eE at hb;cases e:tag b with
  |imm=>exact .inl rfl
  |out=>exact .inr (.inl rfl)
  | own r =>
    rw[e] at hb;simp only at hb;by_cases hr:r∈rs
    ·rw[if_pos hr] at hb;rcases hb with hb|hb<;>cases hb
    ·exact .inr (.inr ⟨r,hr,.inl rfl⟩)
  | uq r =>
    rw[e] at hb;simp only at hb;by_cases hr:r∈rs
    ·rw[if_pos hr] at hb;rcases hb with hb|hb<;>cases hb
    ·exact .inr (.inr ⟨r,hr,.inr rfl⟩)
 refine(hcall w0 w (eE rs tag) (xr rs β) vs h.below (fun b hb=>by rw[hC b (h.old b hb).2];exact(h.old b hb).2) (fun b hb=>h.lt b fun e=>hb (by simp[eE,e])) (fun q=>?_) ?_ (by simpa using hsz) (fun j x hj=>?_)).mono ?_
 ·by_cases hq:∃r∈rs,cnm rs r=q
  ·obtain⟨r,hr,rfl⟩:=hq;obtain⟨row,hrow⟩:=hrowsome r hr;rw[li1 r hr,show σ.row r=some row from hrow];have h0:=h.rows r;rw[hrow] at h0;exact h0.rg (cnm rs) (fun b hb=>jh hb) (fun b hb=>by simp[eE,hb,hr]) (fun b hb=>by simp[eE,hb,hr]) (ey hr) (fun x hx p hp=>ey (hcl r hr p (by
    rw[show σ.row r=some row from hrow];cases hx;exact hp)))
  ·have hq':∀r∈rs,cnm rs r≠q:=fun r hr e=>hq ⟨r,hr,e⟩;rw[li2 q hq'];show xr rs β q=none;unfold xr;rw[if_neg];rintro⟨h1,h2⟩;refine hq' (rs.getD (q-1000000000) 0) ?_ ?_
   ·rw[C4,A2 h2];exact E0 _
   ·unfold cnm;rw[uZ hnd h2];omega
 ·intro q x hx p hp;by_cases hq:∃r∈rs,cnm rs r=q
  ·obtain⟨r,hr,rfl⟩:=hq;obtain⟨row,hrow⟩:=hrowsome r hr;rw[li1 r hr,show σ.row r=some row from hrow] at hx;simp only[F3,Option.some.injEq] at hx;cases row with
   | var y =>
     simp only[Row.rg,Row.var.injEq] at hx;subst hx;rw[fR] at hp;obtain⟨z,hz,rfl⟩:=D0.1 hp;have hzr:=hcl r hr z (by rw[show σ.row r=some (.var y) from hrow];exact hz);rw[li1 z hzr];rfl
   |arr k es=>simp[Row.rg] at hx
   |dead=>simp[Row.rg] at hx
  ·rw[li2 q fun r hr e=>hq ⟨r,hr,e⟩] at hx;cases hx
 ·rw[A5,B1] at hj;obtain⟨y,hy,rfl⟩:=hj;obtain⟨r1,r2⟩:=hat j y hy;have hsub:∀q∈y.ments,q∈rs:=fun q hq=>hma q (bH hy hq);refine⟨r1.rg (cnm rs) (fun b hb=>jh hb) (fun q hq=>ey (hsub q hq)),fun q hq=>?_⟩;rw[fR] at hq;obtain⟨z,hz,rfl⟩:=D0.1 hq;rw[li1 z (hsub z hz)];rfl
 ·rintro e w' ⟨v,tag1,β1,rfl,hb0,hkp,hlt1,hro,hwf,hbk1,hrep,hdr⟩
  -- what the caller makes of it
  let bk:=bkn d rs;let prot:Nat->Prop:=fun b=>b<w.heap.size/\(eE rs tag b=.imm\/eE rs tag b=.out);let tag2:Nat->Tag:=fun b=>if prot b then tag b else match tag1 b with| .own q=>.own (bk q)| .uq q=>.uq (bk q)|t=>t
  let β2:Nat->Option Own:=fun r=>match outs.find? (fun p=>bk p.1==r) with|some p=>β1 p.1|none=>if r∈rs then none else β r
  have hnd1:(outs.map (·.1)).Nodup:=by
   have:(outs.map fun p=>bkn d rs p.1)=(outs.map (·.1)).map (bkn d rs):=by simp[Function.comp_def]
   rw[this] at hnb;exact jp hnb
  have hβ2:∀p∈outs,β2 (bk p.1)=β1 p.1:=by
   intro p hp;simp only[β2];cases e:outs.find? (fun q=>bk q.1==bk p.1) with
   | none =>
     have:=I7.1 e p hp;simp at this
   | some q =>
     have h1:=K2 e;have h2:=G4 e;simp only[beq_iff_eq] at h1;have:q=p:=mh hnb h2 hp h1;subst this;rfl
  have hβn:∀r,(∀p∈outs,bk p.1≠r)->β2 r=if r∈rs then none else β r:=by
   intro r hr;simp only[β2];cases e:outs.find? (fun q=>bk q.1==r) with
   |none=>rfl
   | some q =>
     have h1:=K2 e;have h2:=G4 e;simp only[beq_iff_eq] at h1;exact(hr q h2 h1).elim
  have hcan:∀p∈outs,1000000000<=p.1->bk p.1∈rs/\p.1=cnm rs (bk p.1):=by
   intro p hp hge;have h1:=hcn p hp hge;have e:bk p.1=rs.getD (p.1-1000000000) 0:=by simp only[bk,bkn,if_pos hge]
   rw[e];refine⟨?_,?_⟩
   ·rw[C4,A2 h1];exact E0 _
   ·unfold cnm;rw[uZ hnd h1];omega
  have hpk:∀b,prot b->tag1 b=eE rs tag b/\w'.heap[b]?=w.heap[b]?:=fun b hb=>hkp b hb.1 hb.2;have hold:∀b,Imm tag b->b<w0.heap.size->Imm tag2 b/\w'.heap[b]?=w.heap[b]?:=by
   intro b hb hlt;have e:tag b=.imm:=by
    rcases(h.old b hlt).2 with e|e
    ·exact e
    ·rcases hb with e'|⟨r,e'⟩<;>rw[e] at e'<;>cases e'
   have hp:prot b:=⟨A3 hlt h.below.size,by rw[hC b (.inl e)];exact .inl e⟩;exact⟨.inl (by simp only[tag2,if_pos hp];exact e),(hpk b hp).2⟩
  have hnp:∀b q,tag1 b=.own q\/tag1 b=.uq q->¬prot b:=by
   intro b q hq hp;have:=(hpk b hp).1;rcases hp.2 with e|e<;>rw[e] at this<;>rw[this] at hq<;>rcases hq with e|e<;>cases e
  have himm1:∀b,Imm tag1 b->Imm tag2 b:=by
   intro b hb;unfold Imm;simp only[tag2];by_cases hp:prot b
   ·rw[if_pos hp];have e1:=(hpk b hp).1;have e2:eE rs tag b=.imm:=by
     rcases hp.2 with e|e
     ·exact e
     ·rw[e] at e1;rcases hb with hb|⟨q,hb⟩<;>rw[hb] at e1<;>cases e1
    rcases hprot b (.inl e2) with e|e|⟨r,hr,e|e⟩
    ·exact .inl e
    ·rw[hC b (.inr e),e] at e2;cases e2
    ·have:eE rs tag b=.out:=by simp[eE,e,hr]
     rw[this] at e2;cases e2
    ·exact .inr ⟨r,e⟩
   ·rw[if_neg hp];rcases hb with e|⟨q,e⟩
    ·rw[e];exact .inl rfl
    ·rw[e];exact .inr ⟨bk q,rfl⟩
  have hus:((outs.map (dA d rs)).map (·.1)).Nodup:=by simpa[dA,Function.comp_def] using hnb
  have hlk:∀r,aC r (bh (ck rs++outs.map (dA d rs)) σ.rows)=match aC r (outs.map (dA d rs)) with|some x=>some x|none=>if r∈rs then some .dead else aC r σ.rows:=fun r=>gC hus rs σ.rows
  have hin:∀p∈outs,aC (bk p.1) (outs.map (dA d rs))=some (p.2.rg bk):=by
   intro p hp;exact fC (p:=dA d rs p) hus (D0.2 ⟨p,hp,rfl⟩)
  have hout:∀r,(∀p∈outs,bk p.1≠r)->aC r (outs.map (dA d rs))=none:=by
   intro r hr;cases e:aC r (outs.map (dA d rs)) with
   |none=>rfl
   | some x =>
     obtain⟨p,hp,e'⟩:=D0.1 (gq e);have:=congrArg Prod.fst e';exact(hr p hp this).elim
  have hcase:∀r,(∃p∈outs,bk p.1=r)\/∀p∈outs,bk p.1≠r:=by
   intro r;by_cases e:∃p∈outs,bk p.1=r
   ·exact .inl e
   ·exact .inr fun p hp he=>e ⟨p,hp,he⟩
  have hlko:∀p∈outs,aC p.1 outs=some p.2:=fun p hp=>fC hnd1 hp;have hdomo:∀q,(aC q outs).isSome->∃p∈outs,p.1=q:=by
   intro q hq;obtain⟨x,hx⟩:=Option.isSome_iff_exists.1 hq;exact⟨(q,x),gq hx,rfl⟩
  have hβq:∀q,(aC q outs).isSome->β2 (bk q)=β1 q:=by
   intro q hq;obtain⟨p,hp,rfl⟩:=hdomo q hq;exact hβ2 p hp
  have hlive2:∀p∈outs,1000000000<=p.1->β1 p.1=β (bk p.1)\/β1 p.1=none:=by
   intro p hp hge;obtain⟨c1,c2⟩:=hcan p hp hge;have hr:=hro p.1;rw[hlko p hp] at hr;cases hrow:p.2 with
   |dead=>rw[hrow] at hr;exact .inr hr
   |var x=>left;rw[hbk1 p.1 hge (by rw[hlko p hp,hrow];trivial),c2,ey c1,<-c2]
   |arr k es=>left;rw[hbk1 p.1 hge (by rw[hlko p hp,hrow];trivial),c2,ey c1,<-c2]
  have hbelow:Below w0.heap.size w0 w':=by
   refine⟨⟨?_,?_,?_,?_,?_⟩,fun x hx=>?_,F9 h.below.drawn hb0.drawn⟩
   ·rw[hb0.bel.os,h.below.bel.os]
   ·rw[hb0.bel.tape,h.below.bel.tape]
   ·rw[hb0.bel.output,h.below.bel.output]
   ·exact F9 h.below.size hb0.size
   ·intro k hk;have ho:=(h.old k hk).2;have hp:prot k:=⟨A3 hk h.below.size,by rw[hC k ho];exact ho⟩;rw[(hpk k hp).2,h.below.block k hk]
   ·rw[hb0.frz x (A3 hx h.below.size),h.below.frz x hx]
  have hbelow':Below w0.heap.size w w':=by
   refine⟨⟨hb0.bel.os,hb0.bel.tape,hb0.bel.output,hb0.size,fun k hk=>?_⟩,hb0.frz,hb0.drawn⟩;have ho:=(h.old k hk).2;exact(hpk k ⟨A3 hk h.below.size,by rw[hC k ho];exact ho⟩).2
  have hdom:∀r,(aC r σ.rows).isSome->(aC r (bh (ck rs++outs.map (dA d rs)) σ.rows)).isSome:=by
   intro r hr;rw[hlk];cases aC r (outs.map (dA d rs)) with
   |some x=>rfl
   | none =>
     simp only;split
     ·rfl
     ·exact hr
  have hdomb:∀q,(aC q outs).isSome->(aC (bk q) (bh (ck rs++outs.map (dA d rs)) σ.rows)).isSome:=by
   intro q hq;obtain⟨p,hp,rfl⟩:=hdomo q hq;rw[hlk,hin p hp];rfl
  have hch:=h.changeH hs hfz (w':=w') (tag':=tag2) (β':=β2) (rows':=bh (ck rs++outs.map (dA d rs)) σ.rows) hbelow'
   (fun b hb=>by
    simp only[tag2] at hb;by_cases hp:prot b
    ·exact A3 hp.1 hb0.size
    ·rw[if_neg hp] at hb;exact hlt1 b fun e=>hb (by rw[e]))
   (fun b hb ht=>by
    have hp:prot b:=⟨hb,by rw[hC b ht];exact ht⟩;exact⟨by simp only[tag2,if_pos hp],(hpk b hp).2⟩)
   (fun r hr hl=>by
    rw[hlk] at hl;rcases hcase r with⟨p,hp,rfl⟩|hno
    ·rcases E8 p.1 1000000000 with hlt|hge
     ·have:=(hfr p hp hlt).2;simp only[bk] at hr;omega
     ·obtain⟨c1,c2⟩:=hcan p hp hge;refine⟨by have:=hlive _ c1;exact this,?_⟩;rw[hβ2 p hp];rw[hin p hp] at hl;simp only at hl;have hl':cH (aC p.1 outs):=by
       rw[hlko p hp];cases hrow:p.2 with
       |dead=>rw[hrow] at hl;exact hl
       |var x=>trivial
       |arr k es=>trivial
      rw[hbk1 p.1 hge hl',c2,ey c1,<-c2]
    ·rw[hout r hno] at hl;simp only at hl;by_cases hrs:r∈rs
     ·rw[if_pos hrs] at hl;exact hl.elim
     ·rw[if_neg hrs] at hl;exact⟨hl,by rw[hβn r hno,if_neg hrs]⟩)
   (fun r hr=>by
    rcases hcase r with⟨p,hp,rfl⟩|hno
    ·rw[hβ2 p hp];rcases E8 p.1 1000000000 with hlt|hge
     ·have:=(hfr p hp hlt).1;unfold St.row at this;simp only[bk] at hr;rw[this] at hr;cases hr
     ·exact hlive2 p hp hge
    ·rw[hβn r hno];split
     ·exact .inr rfl
     ·exact .inl rfl)
   hdom
   (fun r=>by
    rw[hlk];rcases hcase r with⟨p,hp,rfl⟩|hno
    ·rw[hin p hp];have h0:=hro p.1;rw[hlko p hp] at h0;exact h0.rg bk himm1 (fun b hb=>by simp only[tag2,if_neg (hnp b p.1 (.inl hb)),hb]) (fun b hb=>by simp only[tag2,if_neg (hnp b p.1 (.inr hb)),hb]) (hβ2 p hp)
      (fun x hx q hq=>hβq q (hwf p.1 x (by rw[hlko p hp];exact hx) q hq))
    ·rw[hout r hno];simp only;by_cases hrs:r∈rs
     ·rw[if_pos hrs];show β2 r=none;rw[hβn r hno,if_pos hrs]
     ·rw[if_neg hrs];refine(h.rows r).mono_fz (fun x hx=>St.fz_row hfz hx) hold (fun b hb=>?_) (fun b hb=>?_) (by rw[hβn r hno,if_neg hrs]) (fun x hx q hq=>?_)
      ·have hp:prot b:=⟨h.lt b (by simp[hb]),.inr (by simp[eE,hb,hrs])⟩;exact⟨by simp only[tag2,if_pos hp,hb],(hpk b hp).2⟩
      ·have hp:prot b:=⟨h.lt b (by simp[hb]),.inl (by simp[eE,hb,hrs])⟩;exact⟨by simp only[tag2,if_pos hp,hb],(hpk b hp).2⟩
      ·have hqs:=h.wfr r x hx q hq;rcases hcase q with⟨p,hp,rfl⟩|hno
       ·rw[hβ2 p hp];rcases E8 p.1 1000000000 with hlt|hge
        ·have:=(hfr p hp hlt).1;unfold St.row at this;simp only[bk] at hqs;rw[this] at hqs;cases hqs
        ·exact hlive2 p hp hge
       ·rw[hβn q hno];split
        ·exact .inr rfl
        ·exact .inl rfl)
   (fun r x hr q hq=>by
    rw[hlk] at hr;rcases hcase r with⟨p,hp,rfl⟩|hno
    ·rw[hin p hp] at hr;simp only[Option.some.injEq] at hr;cases hrow:p.2 with
     |dead=>rw[hrow] at hr;cases hr
     |arr k es=>rw[hrow] at hr;cases hr
     | var y =>
       rw[hrow] at hr;simp only[Row.rg,Row.var.injEq] at hr;subst hr;rw[fR] at hq;obtain⟨z,hz,rfl⟩:=D0.1 hq;exact hdomb z (hwf p.1 y (by rw[hlko p hp,hrow]) z hz)
    ·rw[hout r hno] at hr;simp only at hr;by_cases hrs:r∈rs
     ·rw[if_pos hrs] at hr;cases hr
     ·rw[if_neg hrs] at hr;exact hdom q (h.wfr r x hr q hq))
  refine hnx _ _ _ _ hK ?_;rw[hod];exact⟨tag2,β2,hch.step hd (hrep.rg bk himm1 fun q hq=>hβq q (hdr q hq)) fun q hq=>by
   rw[fR] at hq;obtain⟨z,hz,rfl⟩:=D0.1 hq;exact hdomb z (hdr z hz)⟩
section ops
variable{o:Oper}{K:AV->List (Nat×Row)->Prop}{d:Nat}(h:RR n w0 S0 σ a w tag β)(hod:o.dst=some d)(hd:d<n)
include h hod hd
omit [HS S0 H] in
def AL{c:Call}{f:Nat}{ys:List X}{rs:List Nat}(hop:o.op=.call c)(hm:be P (.call c) (.callM f ys rs)=true)(hs:Hs S0)(hfz:σ.fz=true)(hk:callM ⟨(OkT H P).p,(OkT H P).h,(OkT H P).h⟩ σ.row d f (ys.map σ.gx) rs K):Snd P n w0 S0 σ o K a w:=by
 simp only[be,A1] at hm;obtain⟨h1,h2⟩:=hm;split at h1
 ·rename_i g hg;simp at h1;subst h1;obtain⟨hl,hat⟩:=dD h2;refine Jb h hod hd (vs:=c.args.map a.eval) (by simpa using hl) (fun j x hj=>?_) (fun fn e1 e2 e3=>?_) hs hfz hk
  ·simp only[A5,B1] at hj;obtain⟨y,hy,rfl⟩:=hj;obtain⟨z,hz,hc⟩:=hat j y hy;have:(c.args.map a.eval).getD j undef=a.eval z:=by
    obtain⟨hlt,he⟩:=A0.1 hz;simp at hlt he;simp[hlt,he]
   rw[this];exact h.gx hc
  ·have e2':¬fn.body=none:=fun e=>by rw[e] at e2;cases e2
   have e3':¬fn.name= "runtime.NumGoroutine":=by simpa using e3
   simp[execOp,hop,resolve,hg,Deferred.ofValue,Act.eval,invoke,callFunc,e1,e2',e3']
 ·cases h1
end ops
end Vs

namespace Vs
open Go Go.RowKit
variable{P:Program}{n:Nat}{w0:World}{S0:Fx}{σ τ:St}{a:Act}{w w':World}{tag tag':Nat->Tag}{β β':Nat->Option Own}
def aV.cell{S:Nat->Prop}{B:Nat}{v:Value}{y x:AV}{fp:List Nat}{off:Nat}(h:aV w S B v y fp)(hp:part y off 1 false=some x)(hou:y.ouB=true)(hag:x.isAgg=false)(hw:x.width=1):
 ∃ u fx, v.cells[off]? = some u ∧ aV w S B u x fx ∧ (∀ c ∈ fx, c ∈ fp) ∧
   ∀ (x' : AV), x'.isAgg = false → x'.width = 1 → x'.cells = [x'] → ∃ z, Vs.setPart y off x' = some z ∧ z.width = y.width ∧
     ∀(w':World)(S':Nat->Prop),fp.Nodup->aV w' S' B u x' fx->(∀b,S b->b<B->S' b/\w'.heap[b]?=w.heap[b]?)->(∀b,S b->b∈fp->b∉fx->S' b/\w'.heap[b]?=w.heap[b]?)->aV w' S' B v z fp:=by
 have hcx:x.cells=[x]:=by cases x<;>simp_all [AV.width,AV.isAgg,AV.cells]
 simp only[part,A8,if_false] at hp;by_cases hy:y.isAgg=true
 ·cases y with
  | agg cs =>
    generalize hyy:AV.agg cs=yy at h;cases h with
    | agg vs cs' fps hs h1 hx =>
      cases hyy;simp only[AV.cells] at hp;have hlt:off<cs.length:=(A0.1 hp).1;refine⟨vs.getD off undef,fps off,by simp[Value.cells,L0,hs,hlt],hx off x hp,fun c hc=>bi.2 ⟨off,hlt,hc⟩,fun x' a1 a2 a3=>?_⟩;have hfl:fill cs off x'=cs.set off x':=by
       unfold fill;rw[a3];simp only[List.length_singleton];rw[D9,List.set_eq_take_append_cons_drop,if_pos hlt];rfl
      refine⟨.agg (cs.set off x'),?_,by simp[AV.width],fun w' S' hnd hu hs1 hs2=>?_⟩
      ·unfold Vs.setPart;rw[if_pos (show(AV.agg cs).isAgg=true from rfl),a1,if_neg (by simp),if_pos (show off+1<=(AV.agg cs).width from hlt)];simp only[AV.cells,hfl]
      ·simp only[AV.ouB] at hou;have:=aV.agg (w:=w') (S:=S') (B:=B) vs (cs.set off x') fps (by simpa using hs) h1 fun j z hj=>by
        rw[G5] at hj;by_cases e:off=j
        ·subst e;rw[if_pos rfl,if_pos hlt] at hj;cases hj;exact hu
        ·rw[if_neg e] at hj;have hjl:j<cs.length:=(A0.1 hj).1;refine(hx j z hj).mono_ou (iz hou hj) hs1 fun c hS hc=>hs2 c hS (bi.2 ⟨j,hjl,hc⟩) fun hc'=>?_;exact(bN hnd).2 j off hjl hlt (Ne.symm e) c hc hc'
       simpa using this
    |top=>cases hyy
    |ub=>cases hyy
    |sc=>cases hyy
    |nil=>cases hyy
    |lst=>cases hyy
    |tup=>cases hyy
    |fn=>cases hyy
    |bp=>cases hyy
  |_=>simp[AV.isAgg] at hy
 ·simp only[E3] at hy;have hcy:y.cells=[y]:=by
   by_cases hw1:y.width=1
   ·cases y<;>simp_all [AV.width,AV.isAgg,AV.cells]
   ·have:y.cells=[]:=by cases y<;>simp_all [AV.width,AV.isAgg,AV.cells]
    rw[this] at hp;simp at hp
  rw[hcy] at hp;have h0:off=0:=by have:=(A0.1 hp).1;simpa using this
  subst h0;simp at hp;subst hp;obtain⟨h1,h2⟩:=h.one hag hw;refine⟨v,fp,by rw[h1];rfl,h,fun c hc=>hc,fun x' a1 a2 a3=>⟨x',?_,by rw[a2,hw],fun w' S' _ hu _ _=>hu⟩⟩;simp[Vs.setPart,hy,a1,hw]
end Vs

namespace Vs
open Go Go.RowKit
variable{P:Program}{n:Nat}{w0:World}{S0:Fx}{σ τ:St}{a:Act}{w w':World}{tag tag':Nat->Tag}{β β':Nat->Option Own}{H:World->Prop}[HS S0 H]
def aV.slice_u{S:Nat->Prop}{B k:Nat}{v:Value}{ys:List AV}{fx:List Nat}(h:aV w S B v (.lst .u k ys) fx)(hfl:ys.all AV.flat=true):
 (v=.slice none 0 0/\ys=[]/\fx=[])\/∃(b o cap:Nat)(vs:Nat->Value),v=.slice (some ⟨b,o,none⟩) ys.length cap/\ys.length<=cap/\S b/\B<=b/\eP w b (o+cap*k)/\fx=[b]/\
  (∀j x,ys[j]?=some x->(vs j).cells.size=k/\dv w b (o+j*k) (vs j))/\(∀j x,ys[j]?=some x->∀(w':World)(S':Nat->Prop),aV w' S' B (vs j) x []):=by
 generalize hyy:AV.lst .u k ys=yy at h;cases h with
 | nil f m ad cap h =>
   cases hyy;have:=h.2 rfl;subst this;rw[h.1 rfl];exact .inl ⟨rfl,rfl,rfl⟩
 | lst f m b o len cap xs vs fps hl hc hf hu hv hxx =>
   cases hyy;subst hl;have hflat:∀(j:Nat)(x:AV),ys[j]?=some x->x.flat=true:=fun j x hj=>by
    rw[B2] at hfl;exact hfl x (C0 hj)
   refine .inr ⟨b,o,cap,vs,rfl,hc,hf.1,hf.2,hu rfl,?_,hv,fun j x hj w' S'=>((hxx j x hj).mono_flat (hflat j x hj)).2⟩;rw[bA _ _ fun j hj=>((hxx j ys[j] (by simp[hj])).mono_flat (w':=w) (S':=S) (hflat j ys[j] (by simp[hj]))).1];rfl
 |top=>cases hyy
 |ub=>cases hyy
 |sc=>cases hyy
 |agg=>cases hyy
 |tup=>cases hyy
 |fn=>cases hyy
 |bp=>cases hyy
def BD{b pos off:Nat}{v u u':Value}(h:dv w b pos v)(hu:v.cells[off]?=some u)(hc:w.cell? ⟨b,pos+off,none⟩=some u'):u=u':=by
 have:=(h off u hu).1;rw[this] at hc;cases hc;rfl
def ct.congrβ{B r k:Nat}{es:List AV}(h:ct w tag B β r (some (.arr k es)))(hr:β' r=β r):ct w tag B β' r (some (.arr k es)):=by
 rcases h with⟨h1,h2⟩|⟨b,o,cap,vs,fps,h1,h⟩
 ·exact .inl ⟨hr.trans h1,h2⟩
 ·exact .inr ⟨b,o,cap,vs,fps,hr.trans h1,h⟩
def tn(bo:Option Nat)(tag:Nat->Tag)(b:Nat):Tag:=if bo=some b then .own 1000000000 else match tag b with
 | .own _=>.out
 | .uq _=>.imm
 |t=>t
def Rt(h:RR n w0 S0 τ a w tag β)(hs:Hs S0)(hfz:τ.fz=true){r i off nn k d t f:Nat}{es ys ys':List AV}{y z:AV}{v v':Value}{xs:List X}{vs:Array Value}
 (hrow:aC r τ.rows=some (.arr nn es)) (hy:es[i]?=some y) (hp:part y off 1 false=some (.lst .u k ys)) (hfl:ys.all AV.flat=true)
 (hv:∃b o cap,β r=some (.blk b o nn cap es.length)/\w.cell? ⟨b,o+i*nn+off,none⟩=some v) (hd:d<n)
 (hok:ST H P f (xs.map (sV τ t ys.length)) [(1000000000,.arr k ys)] (.sc v') [(1000000000,.arr k ys')]) (hfl':ys'.all AV.flat=true) (hz:setPart y off (.lst .u k ys')=some z)
 (hsz:vs.size=xs.length) (hat:∀j x,xs[j]?=some x->(x=.t t/\vs.getD j undef=v)\/((sV τ t ys.length x).ments=[]/\
  ∀(tag':Nat->Tag)(β':Nat->Option Own),(∀b,Imm tag b->b<w0.heap.size->Imm tag' b)->Rep w (Imm tag') w0.heap.size β' (vs.getD j undef) (sV τ t ys.length x))):
 Calls P f vs w fun e w'=>∃u,e=.returned u/\R n w0 S0 (τ.app (some d) (.sc v') [(r,.arr nn (es.set i z))]) (a.put (some d) u) w':=by
 classical
 obtain⟨_,hcall⟩:=hok;obtain⟨b1,o1,cap1,hβr,hcell⟩:=hv;have hou:=St.fz_row hfz hrow;simp only[Row.fz] at hou;have hR:=h.rows r;rw[hrow] at hR;rcases hR with⟨e,_⟩|⟨b,o,cap,us,fps,hb,⟨hown,hBb,hfree⟩,hlc,hva,hrep,hnd,huq⟩
 ·rw[e] at hβr;cases hβr
 obtain⟨rfl,rfl,rfl⟩:b1=b/\o1=o/\cap1=cap:=by rw[hb] at hβr;cases hβr;exact⟨rfl,rfl,rfl⟩
 clear hβr;have hil:i<es.length:=(A0.1 hy).1;obtain⟨u,fx,hu,hru,hfx,hset⟩:=(hrep i y hy).cell hp (iz hou hy) rfl rfl;have huv:u=v:=BD (hva i y hy).2 hu hcell;subst huv;have hfxu:∀c∈fx,tag c=.uq r:=fun c hc=>huq c (bi.2 ⟨i,hil,hfx c hc⟩)
 -- the block of the slice
 obtain⟨bo,own,hbo,hlenI,hrowI,hvI⟩:∃(bo:Option Nat)(own:Own),(∀c,bo=some c↔c∈fx)/\(∀c,bo=some c->w0.heap.size<=c)/\
  (∀β',β' 1000000000=some own->ct w (tn bo tag) w0.heap.size β' 1000000000 (some (.arr k ys)))/\
  (∀β' S',β' 1000000000=some own->Rep w S' w0.heap.size β' u (.sl 1000000000 0 ys.length)/\
   ∀(w':World)(tag1:Nat->Tag)(S':Nat->Prop),(∀c,bo=some c->S' c)->ct w' tag1 w0.heap.size β' 1000000000 (some (.arr k ys'))->aV w' S' w0.heap.size u (.lst .u k ys') fx):=by
  rcases hru.slice_u hfl with⟨e1,e2,e3⟩|⟨b',o',cap',vs',e1,e2,e3,e4,e5,e6,e7,e8⟩
  ·subst e1 e2 e3;refine⟨none,.nil,by simp,by simp,fun β' hβ'=>.inl ⟨hβ',rfl⟩,fun β' S' hβ'=>⟨.slN _ hβ',fun w' tag1 S'' _ hr=>?_⟩⟩;rcases hr with⟨_,g⟩|⟨_,_,_,_,_,g,_⟩
   ·subst g;exact .nil _ _ _ _ ⟨fun _=>rfl,fun _=>rfl⟩
   ·rw[hβ'] at g;cases g
  ·subst e1 e6;refine⟨some b',.blk b' o' k cap' ys.length,by simp[eq_comm],by simpa using e4,fun β' hβ'=>?_,fun β' S' hβ'=>⟨?_,fun w' tag1 S'' hS hr=>?_⟩⟩
   ·refine .inr ⟨b',o',cap',vs',fun _=>[],hβ',⟨by simp[tn],e4,e5⟩,e2,e7,fun j x hj=>e8 j x hj _ _,?_,?_⟩
    ·rw[bA _ _ fun _ _=>rfl];exact I3
    ·rw[bA _ _ fun _ _=>rfl];simp
   ·have:=Rep.slB (w:=w) (S:=S') (B:=w0.heap.size) (β:=β') 1000000000 0 ys.length b' o' k cap' ys.length cap' hβ' (by omega) e2 (by omega);simpa using this
   ·rcases hr with⟨g,_⟩|⟨b2,o2,cap2,vs2,fps2,g1,⟨_,_,g2⟩,g3,g4,g5,_⟩
    ·rw[hβ'] at g;cases g
    ·rw[hβ'] at g1;simp only[Option.some.injEq,Own.blk.injEq] at g1;obtain⟨rfl,rfl,_,rfl,hll⟩:=g1;have hflat:∀(j:Nat)(x:AV),ys'[j]?=some x->x.flat=true:=fun j x hj=>by
      rw[B2] at hfl';exact hfl' x (C0 hj)
     have:=aV.lst (w:=w') (S:=S'') (B:=w0.heap.size) .u k b' o' ys'.length cap' ys' vs2 (fun _=>[]) rfl g3 ⟨hS _ rfl,e4⟩ (fun _=>g2) g4 fun j x hj=>((g5 j x hj).mono_flat (hflat j x hj)).2;rw[bA _ _ fun _ _=>rfl] at this;rw[hll];simpa using this
 have hI:∀c,bo=some c->tag c=.uq r:=fun c hc=>hfxu c ((hbo c).1 hc);have hne:∀c,(tag c=.imm\/tag c=.out)->tn bo tag c=tag c:=by
  intro c hc;have:bo≠some c:=fun e=>by rw[hI c e] at hc;rcases hc with e|e<;>cases e
  simp only[tn,if_neg this];rcases hc with e|e<;>rw[e]
 have hsame:∀c q,(tag c=.own q\/(tag c=.uq q/\c∉fx))->tn bo tag c=.imm\/tn bo tag c=.out:=by
  intro c q hc;have:bo≠some c:=fun e=>by
   rcases hc with h1|⟨_,h1⟩
   ·rw[hI c e] at h1;cases h1
   ·exact h1 ((hbo c).1 e)
  simp only[tn,if_neg this];rcases hc with e|⟨e,_⟩<;>rw[e]
  ·exact .inr rfl
  ·exact .inl rfl
 refine(hcall w0 w (tn bo tag) (fun q=>if q=1000000000 then some own else none) vs h.below (fun c hc=>?_) (fun c hc=>?_) (fun q=>?_) (fun q x hx=>?_) (by simpa using hsz) (fun j x hj=>?_) fun W hW=>HS.hs (S0:=S0) W fun c hc=>?hyp).mono ?_
 case hyp=>
  obtain⟨s1,s2⟩:=hs c hc;obtain⟨k1,k2⟩:=h.keep c s2 (.inl s1);rw[s1] at k1;exact(hW c (.inl ((hne c (.inl k1)).trans k1))).trans k2
 ·rw[hne c (h.old c hc).2];exact(h.old c hc).2
 ·by_cases e:bo=some c
  ·exact h.lt c (by rw[hI c e];simp)
  ·refine h.lt c fun e'=>hc ?_;rw[hne c (.inr e')];exact e'
 ·simp only[aC];by_cases e:1000000000=q
  ·subst e;rw[if_pos rfl];exact hrowI _ (by simp)
  ·rw[if_neg e];show(if q=1000000000 then some own else none)=none;rw[if_neg (Ne.symm e)]
 ·simp only[aC] at hx;split at hx<;>cases hx
 ·rw[A5,B1] at hj;obtain⟨x',hx',rfl⟩:=hj;rcases hat j x' hx' with⟨rfl,e⟩|⟨e1,e2⟩
  ·rw[e];simp only[sV,if_true];exact⟨(hvI _ _ (by simp)).1,by simp[AV.ments,aC]⟩
  ·refine⟨e2 _ _ fun c hc hlt=>?_,by rw[e1];simp⟩;have ht:=(h.old c hlt).2;have e:tag c=.imm:=by
    rcases ht with e|e
    ·exact e
    ·rcases hc with e'|⟨q,e'⟩<;>rw[e] at e'<;>cases e'
   left;rw[hne c (.inl e),e]
 ·rintro e w' ⟨v1,tag1,β1,rfl,hb0,hkp,_,hlt1,hro,hwf,hbk1,hrepv,hdr⟩;have hval:v1=v'/\v'.oneCell'=true:=by
   cases hrepv with|p _ _ hq=>cases hq with|sc _ h1=>exact⟨rfl,h1⟩
  obtain⟨rfl,hone⟩:=hval;have hout:=hro 1000000000;simp only[aC,if_true] at hout;have hβ1:β1 1000000000=some own:=by
   rw[hbk1 1000000000 (D3 _) (by simp[aC,cH])];simp
  let tag2:Nat->Tag:=fun c=>if c<w.heap.size then tag c else .out
  have hk:∀c,c<w.heap.size->(tn bo tag c=.imm\/tn bo tag c=.out)->w'.heap[c]?=w.heap[c]?:=fun c hc ht=>(hkp c hc ht).2;have ht2:∀c,c<w.heap.size->tag2 c=tag c:=fun c hc=>if_pos hc;have hbelow':Below w0.heap.size w w':=by
   refine⟨⟨hb0.bel.os,hb0.bel.tape,hb0.bel.output,hb0.size,fun c hc=>?_⟩,hb0.frz,hb0.drawn⟩;have ho:=(h.old c hc).2;exact hk c (A3 hc h.below.size) (by rw[hne c ho];exact ho)
  have hold:∀c,Imm tag c->c<w0.heap.size->Imm tag2 c/\w'.heap[c]?=w.heap[c]?:=by
   intro c hc hlt;have ho:=(h.old c hlt).2;have hl:=A3 hlt h.below.size;refine⟨?_,hk c hl (by rw[hne c ho];exact ho)⟩;unfold Imm;rw[ht2 c hl];exact hc
  obtain⟨z',hz',hzw,hzr⟩:=hset (.lst .u k ys') rfl rfl rfl;rw[hz] at hz';cases hz';have hndi:=(bN hnd).1 i hil;have hbs:b1<w.heap.size:=h.lt b1 (by rw[hown];simp);have hbh:w'.heap[b1]?=w.heap[b1]?:=hk b1 hbs (hsame b1 r (.inl hown));have hch:=h.changeH (w':=w') (tag':=tag2) (β':=β) (rows':=bh [(r,.arr nn (es.set i z))] τ.rows) hs hfz hbelow'
   (fun c hc=>by
    simp only[tag2] at hc;split at hc
    ·rename_i hl;exact A3 hl hb0.size
    ·exact(hc rfl).elim)
   (fun c hc ht=>⟨ht2 c hc,hk c hc (by rw[hne c ht];exact ht)⟩)
   (fun q hq hl=>by
    refine⟨?_,rfl⟩;simp only[bh,I8,aN] at hl;split at hl
    ·rename_i e;subst e;rw[hrow];trivial
    ·exact hl)
   (fun q _=>.inl rfl)
   (fun q hq=>by
    simp only[bh,I8,aN];split
    ·rfl
    ·exact hq)
   (fun q=>by
    simp only[bh,I8,aN];split
    ·rename_i e;subst e;refine .inr ⟨b1,o1,cap1,us,fps,by rw[F7];exact hb,⟨by rw[ht2 b1 hbs];exact hown,hBb,hfree.mono hbh⟩,by rw[F7];exact hlc,fun j x hj=>?_,fun j x hj=>?_,by rw[F7];exact hnd,fun c hc=>?_⟩
     ·rw[G5] at hj;split at hj
      ·rename_i e;subst e;exact⟨(hva i y hy).1,(hva i y hy).2.mono hbh⟩
      ·exact⟨(hva j x hj).1,(hva j x hj).2.mono hbh⟩
     ·have hfpI:∀j,j<es.length->∀c,Imm tag c->c∈fps j->c∉fx->Imm tag2 c/\w'.heap[c]?=w.heap[c]?:=by
       intro j hj c hS hc hcx;have hu:=huq c (bi.2 ⟨j,hj,hc⟩);have hcl:=h.lt c (by rw[hu];simp);refine⟨?_,hk c hcl (hsame c q (.inr ⟨hu,hcx⟩))⟩;unfold Imm;rw[ht2 c hcl];exact hS
      rw[G5] at hj;split at hj
      ·rename_i e;subst e;replace hj:z=x:=by simpa[hil] using hj
       subst hj;refine hzr w' (Imm tag2) hndi ?_ hold fun c hS hc hcx=>hfpI i hil c hS hc hcx;refine(hvI (fun q=>if q=1000000000 then some own else none) (Imm tag2) (by simp)).2 w' tag1 (Imm tag2) (fun c hc=>?_) ?_
       ·have:=hI c hc;exact .inr ⟨q,by rw[ht2 c (h.lt c (by rw[this];simp))];exact this⟩
       ·exact ct.congrβ hout (by simp[hβ1])
      ·rename_i hne';have hjl:j<es.length:=(A0.1 hj).1;refine(hrep j x hj).mono_ou (iz hou hj) hold fun c hS hc=>hfpI j hjl c hS hc fun hcx=>?_;exact(bN hnd).2 i j hil hjl hne' c (hfx c hcx) hc
     ·rw[F7] at hc;have hu:=huq c hc;rw[ht2 c (h.lt c (by rw[hu];simp))];exact hu
    ·rename_i hqr;refine(h.rows q).mono_fz (fun x hx=>St.fz_row hfz hx) hold (fun c hc=>?_) (fun c hc=>?_) rfl (fun x hx p hp=>.inl rfl)
     ·have hcl:=h.lt c (by rw[hc];simp);exact⟨by rw[ht2 c hcl];exact hc,hk c hcl (hsame c q (.inl hc))⟩
     ·have hcl:=h.lt c (by rw[hc];simp);refine⟨by rw[ht2 c hcl];exact hc,hk c hcl (hsame c q (.inr ⟨hc,fun hcx=>?_⟩))⟩;rw[hfxu c hcx] at hc;cases hc;exact hqr rfl)
   (fun q x hx p hp=>by
    simp only[bh,I8,aN] at hx⊢;split at hx
    ·cases hx
    ·split
     ·rfl
     ·exact h.wfr q x hx p hp)
  exact⟨_,rfl,tag2,β,hch.step hd (.p _ _ (.sc _ hone)) (cC _)⟩
end Vs

namespace Vs
open Go Go.RowKit
variable{P:Program}{n:Nat}{w0:World}{S0:Fx}{σ τ:St}{a:Act}{w w':World}{tag tag':Nat->Tag}{β β':Nat->Option Own}{H:World->Prop}[HS S0 H]
variable{ops:Array Oper}{Q:Exit->Act->World->Prop}
def pE(P:Program)(n t:Nat)(ops:Array Oper):List Oper->List (Nat×X)->Bool
 |[],[]=>true
 |o::os,(d,x)::ms=>cP P n ops o ⟨some d,.mv x,none⟩&&decide (d≠t)&&pE P n t ops os ms
 |_,_=>false
def HOp.len:HOp->Nat
 | .inn _ _ _ _ mids _ _ _=>mids.length+2
 | .har _ _ _ _=>1
def Bk(P:Program)(n:Nat)(ops:Array Oper):List Oper->HOp->Bool
 | l :: os, .inn t _ _ x mids d f xs => cP P n ops l ⟨some t, .load 1 false x, none⟩ && pE P n t ops (os.take mids.length) mids &&
     (match os.drop mids.length with|[c]=>cP P n ops c ⟨some d,.call f xs,none⟩|_=>false)
 |[o],.har d f xs rs=>cP P n ops o ⟨some d,.callM f xs rs,none⟩
 |_,_=>false
def KB(P:Program)(n:Nat)(ops:Array Oper)(pre:List bn)(h:HOp)(post:List bn):Bool:=
 bM P n ops (ops.toList.take pre.length) pre&&Bk P n ops ((ops.toList.drop pre.length).take h.len) h&&bM P n ops (ops.toList.drop (pre.length+h.len)) post
def DQ{k m:Nat}(hlt:k<ops.size){ao:bn}(hm:cP P n ops ops[k] ao=true)(hg:ao.gd=none)
 (h:(ops[k]).wp P a w (wpOps P ops Q (D4 (k+1) m)) Q):wpOps P ops Q (D4 k (m+1)) a w:=by
 have hw:Region.wanted ops[k] (yielded ops a.tmps)=true:=by
  unfold cP at hm;simp only[A1] at hm;obtain⟨_,h4⟩:=hm;unfold Region.wanted;rw[hg] at h4;split at h4
  ·rename_i e _;rw[e]
  ·simp_all
  ·cases h4
 simp_all [J7,B0,if_pos,wpOps]
theorem yJ:∀(aos:List bn)(ps:List Upd)(k m:Nat)(σ:St)(a:Act)(w:World),k+aos.length+m=ops.size->
 bM P n ops ((ops.toList.drop k).take aos.length) aos=true->hX (OkT H P) aos ps σ->R n w0 S0 σ a w->
 (∀a w,R n w0 S0 (cg ps σ) a w->wpOps P ops Q (D4 (k+aos.length) m) a w)->wpOps P ops Q (D4 k (aos.length+m)) a w
 | [], ps, k, m, σ, a, w, hk, hm, hc, hR, hQ => by
   cases ps with
   |nil=>simpa using hQ _ _ hR
   |cons x xs=>exact hc.elim
 | ao :: aos, ps, k, m, σ, a, w, hk, hm, hc, hR, hQ => by
   simp only[F4] at hk hm hQ⊢;have hlt:k<ops.size:=by omega
   have hd:ops.toList.drop k=ops[k]::ops.toList.drop (k+1):=by
    rw[C8 (by simpa using hlt)];simp
   rw[hd] at hm;cases ps with
   |nil=>exact hc.elim
   | cons p ps =>
     simp only[B6,bM,A1] at hm;obtain⟨tag,β,hRR⟩:=hR;rw[show aos.length+1+m=(aos.length+m)+1 by omega];simp only[J7,wpOps,B0 hlt];exact Did.step hRR hm.1 hc.1 fun a' w' hR'=>yJ aos ps (k+1) m _ a' w' (by omega) hm.2 hc.2 hR' fun a w h=>by
      have:=hQ a w h
      grind
theorem qg{t:Nat}{v:Value}:∀(mids:List (Nat×X))(k m:Nat)(σ:St)(a:Act),k+mids.length+m=ops.size->
 pE P n t ops ((ops.toList.drop k).take mids.length) mids=true->RR n w0 S0 σ a w tag β->a.tmps.getD t undef=v->
 (∀a',RR n w0 S0 (sF mids σ) a' w tag β->a'.tmps.getD t undef=v->wpOps P ops Q (D4 (k+mids.length) m) a' w)->wpOps P ops Q (D4 k (mids.length+m)) a w
 |[],k,m,σ,a,hk,hm,hR,hv,hQ=>by simpa using hQ a hR hv
 | (d, x) :: mids, k, m, σ, a, hk, hm, hR, hv, hQ => by
   simp only[F4] at hk hm hQ⊢;have hlt:k<ops.size:=by omega
   have hd:ops.toList.drop k=ops[k]::ops.toList.drop (k+1):=by
    rw[C8 (by simpa using hlt)];simp
   rw[hd] at hm;simp only[B6,pE,A1,decide_eq_true_eq] at hm;obtain⟨⟨m1,m2⟩,m3⟩:=hm;rw[show mids.length+1+m=(mids.length+m)+1 by omega];refine DQ hlt m1 rfl ?_;have m1':=m1;unfold cP at m1';simp only[A1,decide_eq_true_eq] at m1';obtain⟨⟨⟨q1,q2⟩,q3⟩,_⟩:=m1';have hdn:d<n:=q3.1;have hrun:∃y,cq y x=true/\(execOp a.eval ops[k]).run P w=.ok (.value (a.eval y)) w:=by
    cases ho:(ops[k]).op<;>rw[ho] at q2<;>simp[be] at q2
    ·rename_i y;exact⟨y,q2,by simp[execOp,ho]⟩
    ·rename_i y;exact⟨y,q2,by simp[execOp,ho]⟩
   obtain⟨y,hy,hrun⟩:=hrun;unfold Oper.wp;rw[hrun];show wpOps P ops Q (D4 (k+1) (mids.length+m)) (a.put (ops[k]).dst (a.eval y)) w;rw[q1];refine qg (v:=v) mids (k+1) m (σ.app (some d) (σ.gx x) []) _ (by omega) m3 (hR.step hdn (hR.gx hy).1 (hR.gx hy).2) ?_ fun a' h1 h2=>?_
   ·simp_all [mX,if_neg,Ne.symm,Act.put]
   ·have:=hQ a' h1 h2
    grind
theorem nK:∀(mids:List (Nat×X))(σ:St),(sF mids σ).rows=σ.rows
 |[],_=>rfl
 |(d,x)::mids,σ=>by rw[sF,nK mids];rfl
def JP{K:St->Prop}{h:HOp}{k m:Nat}(hk:k+h.len+m=ops.size)(hm:Bk P n ops ((ops.toList.drop k).take h.len) h=true)
 (hs:Hs S0) (hR:R n w0 S0 σ a w) (hst:stH (OkT H P) h K σ) (hQ:∀τ a w,K τ->R n w0 S0 τ a w->wpOps P ops Q (D4 (k+h.len) m) a w):wpOps P ops Q (D4 k (h.len+m)) a w:=by
 obtain⟨tag,β,hRR⟩:=hR;have hd:∀j,j<ops.size->ops.toList.drop j=ops[j]!::ops.toList.drop (j+1):=by
  intro j hj;rw[C8 (by simpa using hj)];simp[hj]
 cases h with
 | har d f xs rs =>
   simp only[HOp.len] at hk hm hQ⊢;have hlt:k<ops.size:=by omega
   rw[hd k hlt] at hm;simp only[B6,K6,Bk] at hm;have e:ops[k]! =ops[k]:=by simp[hlt]
   rw[e] at hm;rw[G0 1 m];refine DQ hlt hm rfl ?_;obtain⟨hfz,hc⟩:=hst;have hm':=hm;unfold cP at hm';simp only[A1,decide_eq_true_eq] at hm';obtain⟨⟨⟨q1,q2⟩,q3⟩,_⟩:=hm';cases ho:(ops[k]).op with
   | call c =>
     rw[ho] at q2;refine AL hRR q1 q3.1 ho q2 hs hfz hc _ _ fun a' w' x u hK hR'=>?_;rw[q1] at hR';exact hQ _ _ _ hK hR'
   |_=>rw[ho] at q2;simp[be] at q2
 | inn t nn kk x mids d f xs =>
   simp only[HOp.len] at hk hm hQ⊢;have hlt:k<ops.size:=by omega
   rw[hd k hlt] at hm;have e:ops[k]! =ops[k]:=by simp[hlt]
   rw[e] at hm;simp only[B6,Bk,A1] at hm;obtain⟨⟨m1,m2⟩,m3⟩:=hm;rw[List.take_take,K3 (by omega)] at m2;rw[List.drop_take,G1,show mids.length+1-mids.length=1 by omega] at m3;have hlt2:k+1+mids.length<ops.size:=by omega
   rw[hd _ hlt2] at m3;simp only[B6,K6] at m3;have e2:ops[k+1+mids.length]! =ops[k+1+mids.length]:=by simp[hlt2]
   rw[e2] at m3;have m1':=m1;unfold cP at m1';simp only[A1,decide_eq_true_eq] at m1';obtain⟨⟨⟨q1,q2⟩,q3⟩,_⟩:=m1';have m3':=m3;unfold cP at m3';simp only[A1,decide_eq_true_eq] at m3';obtain⟨⟨⟨r1,r2⟩,r3⟩,_⟩:=m3'
   -- what the walk says
   simp only[stH] at hst;unfold Pf at hst;split at hst
   case h_2=>exact hst.elim
   rename_i r i off hx;unfold Pe at hst;split at hst
   case h_2=>exact hst.elim
   rename_i w1 es hrow;obtain⟨rfl,hst⟩:=hst;obtain⟨y,hy,hst⟩:=cE hst;obtain⟨p,hp,hst⟩:=cE hst;unfold MM at hst;split at hst
   case h_2=>exact hst.elim
   rename_i w2 ys;obtain⟨rfl,hfl,hfz,hargs,v',ys',hok,hfl',hst⟩:=hst;obtain⟨z,hz,hK⟩:=cE hst
   -- the load
   obtain⟨b,o,cap,us,fps,hb,v,hcell,hload⟩:∃(b o cap:Nat)(us:Nat->Value)(fps:Nat->List Nat),β r=some (.blk b o w1 cap es.length)/\∃v,w.cell? ⟨b,o+i*w1+off,none⟩=some v/\
    (execOp a.eval ops[k]).run P w=.ok (.value v) w:=by
    rcases hRR.arr hrow with⟨_,e⟩|⟨b,o,cap,us,fps,hb,_,_,hva,hrep,_,_⟩
    ·subst e;simp at hy
    ·cases ho:(ops[k]).op with
     | load ty xx =>
       rw[ho] at q2;simp only[be,A1] at q2;obtain⟨⟨s1,s2⟩,s3⟩:=q2;have hpt:=(hRR.gx s3).1;rw[hx] at hpt;obtain⟨b',o',sz',cap',len',hb',hv⟩:=hRR.pt_inv (by rw[hrow];trivial) hpt;rw[hb] at hb';cases hb';have hou:y.ouB=true:=by
        have hrow':aC r (sF mids (σ.app (some t) .top [])).rows=some (.arr w1 es):=by rw[nK];exact hrow
        have:=St.fz_row hfz hrow';simp only[Row.fz] at this;exact iz this hy
       obtain⟨u,fx,hu,_⟩:=(hrep i y hy).cell hp hou rfl rfl;have hc:=((hva i y hy).2 off u hu).1;refine⟨b,o,cap,us,fps,hb,u,hc,?_⟩;simp[execOp,ho,hv,Instr.loadAt,Instr.sureAddr,loadVar,nZ s2,load,Sem.run,hc]
     |_=>rw[ho] at q2;simp[be] at q2
   rw[show mids.length+2+m=(mids.length+(1+m))+1 by omega];refine DQ hlt m1 rfl ?_;unfold Oper.wp;rw[hload];show wpOps P ops Q (D4 (k+1) (mids.length+(1+m))) (a.put (ops[k]).dst v) w;rw[q1];have htn:t<n:=q3.1;refine qg (tag:=tag) (β:=β) (t:=t) (v:=v) mids (k+1) (1+m) (σ.app (some t) .top []) _ (by omega) m2 (hRR.step htn (.p _ _ (.top _)) (by simp[St.dom,AV.ments])) ?_ fun a' h1 h2=>?_
   ·simp only[Act.put];rw[mX _ _ _ _ _ (hRR.sz▸htn),if_pos rfl]
   -- the call
   rw[G0 1 m];refine DQ hlt2 m3 rfl ?_;cases ho:(ops[k+1+mids.length]).op with
   | call c =>
     rw[ho] at r2;simp only[be,A1] at r2;obtain⟨r2,r4⟩:=r2;split at r2
     case h_2=>cases r2
     rename_i g hg;simp at r2;subst r2;obtain⟨hl,hat⟩:=dD r4;have hfn:=hok.1;obtain⟨fn,f1,f2,f3⟩:=hfn;have hrun:(execOp a'.eval ops[k+1+mids.length]).run P w=.ok (.enter g (c.args.map a'.eval)) w:=by
      have e2':¬fn.body=none:=fun e=>by rw[e] at f2;cases f2
      have e3':¬fn.name= "runtime.NumGoroutine":=by simpa using f3
      simp[execOp,ho,resolve,hg,Deferred.ofValue,Act.eval,invoke,callFunc,f1,e2',e3']
     unfold Oper.wp;rw[hrun,Oper.upon_enter];refine(Rt (d:=d) (t:=t) h1 hs hfz (by rw[nK];exact hrow) hy hp hfl ⟨b,o,cap,hb,hcell⟩ r3.1 hok hfl' hz (by simpa using hl) fun j x' hj=>?_).mono ?_
     ·obtain⟨zz,hzz,hmx⟩:=hat j x' hj;have hget:(c.args.map a'.eval).getD j undef=a'.eval zz:=by
       obtain⟨hlt,he⟩:=A0.1 hzz;simp at hlt he;simp[hlt,he]
      rw[hget];have hok':=hargs x' (C0 hj);cases x' with
      | t s =>
        cases zz with
        | tmp t' =>
          simp[cq] at hmx;subst hmx;by_cases hst:t'=t
          ·subst hst;exact .inl ⟨rfl,h2⟩
          ·right;have hments:=hok'.resolve_left hst;simp only[sV,if_neg hst];refine⟨hments,fun tag' β' hi=>?_⟩;have hg1:=(h1.get t').1;refine hg1.mono_fz ?_ (fun b hb hlt=>⟨hi b hb hlt,rfl⟩) (by rw[hments];simp);simp only[St.get];cases hlk:aC t' (sF mids (σ.app (some t) .top [])).env with
           |none=>rfl
           |some x0=>exact St.fz_env hfz hlk
        |const vv=>simp[cq] at hmx
        |func ff=>simp[cq] at hmx
        |global ff=>simp[cq] at hmx
      | c aa =>
        right;simp only[sV];refine⟨hok',fun tag' β' _=>?_⟩;cases zz with
        |tmp t'=>simp[cq] at hmx
        | const vv =>
          simp only[cq] at hmx;exact .p _ _ (eN hmx w (Imm tag') w0.heap.size).1
        | func ff =>
          cases aa with
          | fn g' cs =>
            cases cs with
            |nil=>simp[cq] at hmx;subst hmx;exact .fn _ _ _ rfl (by simp)
            |cons _ _=>simp[cq] at hmx
          |_=>simp[cq] at hmx
        |global ff=>simp[cq] at hmx
     ·rintro e w' ⟨u,rfl,hR'⟩;rw[r1];have:=hQ _ _ _ hK hR';rwa[show k+1+mids.length+1=k+(mids.length+2) by omega]
   |_=>rw[ho] at r2;simp[be] at r2
def Bx{pre post:List bn}{h:HOp}{id:Nat}{K:St->Prop}(hm:KB P n ops pre h post=true)(hs:Hs S0)(hR:R n w0 S0 σ a w)
 (hst:dS (OkT H P) pre (stH (OkT H P) h (dS (OkT H P) post K)) σ) (hQ:∀τ a w,K τ->R n w0 S0 τ a w->Q .normal a w):(Code.region id ops false).wp P Q a w:=by
 unfold KB at hm;simp only[A1] at hm;obtain⟨⟨m1,m2⟩,m3⟩:=hm;have hlen:pre.length+h.len+post.length=ops.size:=by
  have h1:=eY m3;simp only[E4,E5] at h1;have h2:h.len<=ops.size-pre.length:=by
   by_cases e:h.len<=ops.size-pre.length
   ·exact e
   ·exfalso;have hl:((ops.toList.drop pre.length).take h.len).length<h.len:=by simp;omega
    generalize (ops.toList.drop pre.length).take h.len=L at m2 hl;cases h with
    | har d f xs rs =>
      simp_all [HOp.len,Bk]
    | inn t nn kk x mids d f xs =>
      cases L with
      |nil=>simp[Bk] at m2
      | cons l L =>
        simp only[Bk,A1] at m2
        grind [List.length_cons,List.drop_eq_nil_of_le,HOp.len,absurd]
  have h3:=eY m1;simp only[D6,E5] at h3;have h4:0<h.len:=by cases h<;>simp[HOp.len]
  omega
 obtain⟨ps,τ,hc,hK,e⟩:=eF pre σ σ (.refl σ) hst;refine wp_region ?_;rw[List.range_eq_range',<-hlen,C3];refine yJ pre ps 0 _ σ a w (by omega) (by simpa using m1) hc hR fun a w hR1=>?_;refine JP (by omega) (by simpa using m2) hs (hR1.eqv e.symm) hK fun τ2 a w hK2 hR2=>?_;obtain⟨ps2,τ3,hc2,hK3,e2⟩:=eF post τ2 τ2 (.refl τ2) hK2;exact lX post.length (0+pre.length+h.len) post ps2 τ2 a w (by omega) (by simpa using m3) hc2 hR2 fun a w h=>hQ τ3 a w hK3 (h.eqv e2.symm)
end Vs

namespace Vs
open Go Go.RowKit
variable{P:Program}{n:Nat}{w0:World}{S0:Fx}{σ τ:St}{a:Act}{w w':World}{tag tag':Nat->Tag}{β β':Nat->Option Own}{H:World->Prop}[HS S0 H]
theorem gO{α:Type}(f:Nat->α)(k:Nat):∀l:List Nat,aC k (l.map fun j=>(j,f j))=if k∈l then some (f k) else none
 |[]=>by simp[aC]
 | j :: l => by
   simp only[D8,aC,gO f k l,List.mem_cons]
   grind
def RR.res(h:RR n w0 S0 σ a w tag β){lv lr:List Nat}(hok:σ.resOk lv lr):∃tag' β',RR n w0 S0 (σ.res lv lr) a w tag' β'/\
 ∀v x,Rep w (Imm tag) w0.heap.size β v x->(∀r∈x.ments,r∈lr)->Rep w (Imm tag') w0.heap.size β' v x:=by
 obtain⟨ho1,ho2,_⟩:=hok;let tag':Nat->Tag:=fun b=>match tag b with| .own r=>if r∈lr then .own r else .out| .uq r=>if r∈lr then .uq r else .imm|t=>t
 let β':Nat->Option Own:=fun r=>if r∈lr then β r else none
 have himm:∀b,Imm tag b->Imm tag' b/\w.heap[b]?=w.heap[b]?:=by
  intro b hb;refine⟨?_,rfl⟩;rcases hb with hb|⟨r,hb⟩
  ·left;simp only[tag',hb]
  ·by_cases e:r∈lr
   ·right;exact⟨r,by simp only[tag',hb,e,if_true]⟩
   ·left;simp only[tag',hb,e,if_false]
 have hβ:∀r,β' r=β r\/β' r=none:=by
  intro r;simp only[β'];by_cases e:r∈lr
  ·left;rw[if_pos e]
  ·right;rw[if_neg e]
 have hrow:∀r,aC r (σ.res lv lr).rows=if r∈lr then some ((σ.row r).getD .dead) else none:=fun r=>gO _ r lr
 have henv:∀k,aC k (σ.res lv lr).env=if k∈lv then some (σ.get k) else none:=fun k=>gO _ k lv
 refine⟨tag',β',⟨h.nn,h.frm,fun b hb ht=>?_,fun b hb=>?_,fun r hr hl=>?_,h.below,h.sz,h.nodef,h.s0lt,fun b hb=>h.lt b fun e=>hb (by simp only[tag',e]),fun b hb=>?_,fun k x hk=>?_,fun r=>?_,fun r x hr q hq=>?_⟩,fun v x hv hx=>hv.mono himm fun r hr=>.inl (by simp only[β',if_pos (hx r hr)])⟩
 ·obtain⟨k1,k2⟩:=h.keep b hb ht;refine⟨?_,k2⟩;simp only[tag',k1];rcases ht with e|e<;>rw[e]
 ·obtain⟨k1,k2⟩:=h.kimm b hb;exact⟨(himm b k1).1,k2⟩
 ·rw[hrow] at hl;by_cases e:r∈lr
  ·rw[if_pos e] at hl;simp only[β',if_pos e];refine h.bk r hr ?_;show cH (σ.row r);cases hrw:σ.row r with
   |none=>rw[hrw] at hl;exact hl.elim
   |some row=>rw[hrw] at hl;exact hl
  ·rw[if_neg e] at hl;exact hl.elim
 ·obtain⟨h1,h2⟩:=h.old b hb;have:tag' b=tag b:=by rcases h2 with e|e<;>simp only[tag',e]
  rw[this];exact⟨h1,h2⟩
 ·rw[henv] at hk;split at hk
  ·rename_i hkl;cases hk;refine⟨(h.get k).1.mono himm fun r _=>hβ r,fun r hr=>?_⟩;rw[hrow,if_pos (ho1 k hkl r hr)];rfl
  ·cases hk
 ·rw[hrow];split
  ·rename_i hl;have hr:=h.rows r;have hrw:σ.row r=aC r σ.rows:=rfl;rw[hrw];have hb:β' r=β r:=by simp only[β',if_pos hl]
   cases e:aC r σ.rows with
   |none=>rw[e] at hr;exact hb.trans hr
   | some row =>
     rw[e] at hr;refine hr.mono himm (fun b hb=>⟨by simp only[tag',hb,hl,if_true],rfl⟩) (fun b hb=>by simp only[tag',hb,hl,if_true]) hb fun x _ q _=>hβ q
  ·rename_i hl;simp only[ct,β',if_neg hl]
 ·rw[hrow] at hr;split at hr
  ·rename_i hl;cases hr':σ.row r with
   |none=>rw[hr'] at hr;cases hr
   | some row =>
     rw[hr'] at hr;simp only[F3,Option.some.injEq] at hr;subst hr;have:=ho2 r hl q (by rw[hr'];exact hq);rw[hrow,if_pos this];rfl
  ·cases hr
def R.res(h:R n w0 S0 σ a w){lv lr:List Nat}(hok:σ.resOk lv lr):R n w0 S0 (σ.res lv lr) a w:=by
 obtain⟨tag,β,h⟩:=h;obtain⟨tag',β',h',_⟩:=h.res hok;exact⟨tag',β',h'⟩
theorem xi{g:Nat->AV}{k:Nat}{x:AV}:∀lv:List Nat,aC k (lv.map fun j=>(j,g j))=some x->x=g k
 |[],h=>by simp[aC] at h
 | j :: lv, h => by
   simp only[D8,aC] at h;split at h
   ·simp_all
   ·exact xi lv h
def R.rb(h:R n w0 S0 σ a w)(lv:List Nat):∃S1,Hs S1/\HS S1 H/\R n w S1 (σ.rb lv) a w/\∀τ a' w',R n w S1 τ a' w'->R n w0 S0 τ.scal a' w':=by
 classical
 obtain⟨tag,β,h⟩:=h;have hi:∀b,Imm tag b->tag b≠.out:=fun b hb=>by rcases hb with e|⟨r,e⟩<;>simp[e]
 let tg:Nat->Tag:=fun b=>if tag b≠.out then .imm else .out
 have htg:∀b,Imm tg b->tag b≠.out:=fun b hb=>by
  grind [Imm]
 refine⟨⟨fun b=>tag b≠.out,w,tg,fun _=>none⟩,fun b hb=>⟨by simp[tg,htg b hb],h.lt b (htg b hb)⟩,⟨fun W hW=>h.hyp fun b hb=>hW b (.inl (by simp[tg,hi b hb]))⟩,⟨tg,fun _=>none,h.nn,.refl _ _,fun b _ _=>⟨rfl,rfl⟩,fun b hb=>⟨hb,rfl⟩,fun r _ hl=>by simp_all,.refl _ _,h.sz,h.nodef,h.lt,fun b hb=>?_,fun b hb=>?_,fun k x hk=>?_,fun r=>?_,fun r x hr=>by simp[St.rb,aC] at hr⟩,?_⟩
 ·refine h.lt b fun e=>hb ?_;simp[tg,e]
 ·grind
 ·have hx:x=snp σ.row 4 (σ.get k):=xi lv hk;subst hx;have hr:=h.snp (S:=fun b=>tag b≠.out) hi 4 _ _ (h.get k).1 (.inr fun b hb=>hb);refine⟨.p _ _ (hr.mono fun b hb=>⟨.inl (by simp[tg,hb]),rfl⟩),fun q hq=>by rw[hr.ments_nil] at hq;cases hq⟩
 ·simp[St.rb,aC,ct]
 ·rintro τ a' w' ⟨tag1,β1,h1⟩;have hblk:∀b,tag b≠.out->w'.heap[b]?=w.heap[b]?:=fun b hb=>h1.below.block b (h.lt b hb);refine⟨tag,fun _=>none,h1.nn,h.frm.trans (h1.below.mono (C1 _)),fun b hb ht=>?_,fun b hb=>?_,fun r _ hl=>by simp[St.scal,aC,cH] at hl,h.below.trans (h1.below.mono h.below.size),h1.sz,h1.nodef,h.s0lt,
   fun b hb=>A3 (h.lt b hb) h1.below.size,h.old,fun k x hk=>?_,fun r=>by simp[St.scal,aC,ct],fun r x hr=>by simp[St.scal,aC] at hr⟩
  ·obtain⟨k1,k2⟩:=h.keep b hb ht;exact⟨k1,(h1.below.block b (A3 hb h.frm.size)).trans k2⟩
  ·obtain⟨k1,k2⟩:=h.kimm b hb
   simp_all
  ·simp only[St.scal] at hk;rw[cr (fun x:AV=>x.scal)] at hk;cases hl:aC k τ.env with
   |none=>rw[hl] at hk;cases hk
   | some y =>
     rw[hl] at hk;simp only[H8,Option.some.injEq] at hk;subst hk;have hy:=(h1.env k y hl).1;generalize a'.tmps.getD k undef=vv at hy⊢;cases y with
     |sc v=>cases hy with|p v x hp=>cases hp with|sc v hv=>exact⟨.p _ _ (.sc _ hv),fun q hq=>by simp[AV.scal,AV.ments] at hq⟩
     |_=>exact⟨.p _ _ (.top _),fun q hq=>by simp[AV.scal,AV.ments] at hq⟩
def abv(ops:Array Oper):List (List Nat):=ops.toList.foldl (fun bs o=>bs++[o.after.toList.foldl (fun q e=>if Region.binds .any e then(if q.contains e.on then q else e.on::q)++((bs.getD e.on []).filter fun i=>!(i==e.on)&&!q.contains i) else q) []]) []
def bZ(P:Program)(n:Nat):Code->ar->Bool
 | .skip,.skip=>true
 | .region _ ops false,.reg aops can=>bM P n ops ops.toList aops&&can.all (Can.low n)
 | .region _ ops true,.drw aops can=>bM P n ops ops.toList aops&&iC ops (abv ops)&&(qo aops (abv ops)||wm aops (abv ops))&&can.all (Can.low n)
 | .region _ ops false,.regh pre h post can=>KB P n ops pre h post&&can.all (Can.low n)
 | .seq a b,.seq x y=>bZ P n a x&&bZ P n b y
 | .seq a b,.seqr x _ _ y=>bZ P n a x&&bZ P n b y
 | .seq a b,.seqb x _ y=>bZ P n a x&&bZ P n b y
 | .seq (.seq a b) c,.seqa x y _ _ z=>bZ P n a x&&bZ P n b y&&bZ P n c z
 | .cond c a b,.cond x y z=>cq c x&&bZ P n a y&&bZ P n b z
 | .block id a,.blk id' x=>id==id'&&bZ P n a x
 | .loop a,.loop x=>bZ P n a x
 | .exit id,.exit id'=>id==id'
 | .ret,.ret=>true
 |_,_=>false
def noH:ar->Bool
 | .regh _ _ _ _=>false
 | .seq a b=>noH a&&noH b
 | .seqr a _ _ b=>noH a&&noH b
 | .seqa x a _ _ b=>noH x&&noH a&&noH b
 | .seqb a _ _=>noH a
 | .cond _ a b=>noH a&&noH b
 | .blk _ a=>noH a
 | .loop a=>noH a
 |_=>true
def wP{H:Prop}{a b:ar}{c:ar}(h:H\/noH c=true)(e:noH c=(noH a&&noH b)):(H\/noH a=true)/\(H\/noH b=true):=by
 grind
def QQ(n:Nat)(w0:World)(S0:Fx)(Q:Ex->St->Prop):Exit->Act->World->Prop
 | .normal,a,w=>∃τ,Q .nrm τ/\R n w0 S0 τ a w
 | .exit id,a,w=>∃τ,Q (.ex id) τ/\R n w0 S0 τ a w
 | .ret,a,w=>∃τ,Q .ret τ/\R n w0 S0 τ a w
 |_,_,_=>False
def ox{p:Nat->Prop}(h:∃m,p m):∃m,p m/\∀k,p k->m<=k:=by
 obtain⟨m,hm⟩:=h;induction m using K4 with
 | _ m ih =>
   grind
def lQ(br:P.follows .mixedOrders=true):∀{c:Code}{ac:ar}{Q:Ex->St->Prop}{σ:St}{a:Act}{w:World},bZ P n c ac=true->(Hs S0\/noH ac=true)->AWP (OkT H P) ac Q σ->R n w0 S0 σ a w->c.wp P (QQ n w0 S0 Q) a w:=by
 intro c;induction c generalizing w0 S0 with
 | skip =>
   intro ac Q σ a w hm hh h hR;cases ac<;>simp[bZ] at hm;exact wp_skip ⟨σ,h,hR⟩
 | region id ops draw =>
   intro ac Q σ a w hm hh h hR;cases ac<;>cases draw<;>simp only[bZ,A1,A8,B2,decide_eq_true_eq] at hm
   ·exact Hy hm.1 hR h fun τ a w hK hR'=>⟨_,hK,hR'.can (B2.2 hm.2)⟩
   ·simp only[AWP] at h;exact Bx hm.1 (hh.resolve_right (by simp[noH])) hR h fun τ a w hK hR'=>⟨_,hK,hR'.can (B2.2 hm.2)⟩
   ·exact HL br hm.1.1.1 hm.1.1.2 hm.1.2 hR h fun τ a w hK hR'=>⟨_,hK,hR'.can (B2.2 hm.2)⟩
 | seq x y ihx ihy =>
   intro ac Q σ a w hm hh h hR;cases ac<;>(try simp only[bZ,A1,A8] at hm)
   case seqa xa ya lv lr zb=>
    cases x<;>simp only[bZ,A1,A8] at hm;rename_i p q;obtain⟨⟨m1,m2⟩,m3⟩:=hm;obtain⟨hh1,hh2⟩:=wP (a:=.seq xa ya) (b:=zb) hh (by simp[noH]);have e:(thn (AWP (OkT H P) ya (thn (fun τ=>τ.resOk lv lr/\AWP (OkT H P) zb Q (τ.res lv lr)) Q)) Q)=
     thn (AWP (OkT H P) ya (thn (fun τ=>τ.resOk lv lr/\AWP (OkT H P) zb Q (τ.res lv lr)) Q)) (thn (fun τ=>τ.resOk lv lr/\AWP (OkT H P) zb Q (τ.res lv lr)) Q):=by
     funext e τ;cases e<;>rfl
    simp only[AWP] at h;rw[e] at h;have hx:=ihx (ac:=.seq xa ya) (Q:=thn (fun τ=>τ.resOk lv lr/\AWP (OkT H P) zb Q (τ.res lv lr)) Q) (by simp_all [Bool.and_self,bZ]) hh1 (by simp_all [AWP]) hR;refine wp_seq (wp_mono hx fun e a w hq=>?_);cases e with
    |normal=>obtain⟨τ,h1,h2⟩:=hq;exact ihy m3 hh2 h1.2 (h2.res h1.1)
    |exit id=>obtain⟨τ,h1,h2⟩:=hq;exact⟨τ,h1,h2⟩
    |ret=>obtain⟨τ,h1,h2⟩:=hq;exact⟨τ,h1,h2⟩
    |goto l=>exact hq.elim
    |panic c=>exact hq.elim
    |outgrown=>exact hq.elim
   case seqr xa lv lr yb=>
    obtain⟨hh1,hh2⟩:=wP (a:=xa) (b:=yb) hh (by simp[noH]);simp only[AWP] at h;refine wp_seq (wp_mono (ihx hm.1 hh1 h hR) fun e a w hq=>?_);cases e with
    |normal=>obtain⟨τ,h1,h2⟩:=hq;exact ihy hm.2 hh2 h1.2 (h2.res h1.1)
    |exit id=>obtain⟨τ,h1,h2⟩:=hq;exact⟨τ,h1,h2⟩
    |ret=>obtain⟨τ,h1,h2⟩:=hq;exact⟨τ,h1,h2⟩
    |goto l=>exact hq.elim
    |panic c=>exact hq.elim
    |outgrown=>exact hq.elim
   case seqb xa lv yb=>
    refine wp_seq (wp_mono (ihx hm.1 (hh.imp_right fun h=>by simp_all [noH]) (by simpa only[AWP] using h) hR) fun e a w hq=>?_);cases e with
    | normal =>
      obtain⟨τ,h1,h2⟩:=hq;obtain⟨S1,s1,s4,s2,s3⟩:=h2.rb (H:=H) lv;refine wp_mono (ihy hm.2 (.inl s1) h1 s2) fun e a' w' hq=>?_;cases e with
      |normal=>obtain⟨τ,h1,h2⟩:=hq;exact⟨_,h1,s3 _ _ _ h2⟩
      |exit id=>obtain⟨τ,h1,h2⟩:=hq;exact⟨_,h1,s3 _ _ _ h2⟩
      |ret=>obtain⟨τ,h1,h2⟩:=hq;exact⟨_,h1,s3 _ _ _ h2⟩
      |goto l=>exact hq.elim
      |panic c=>exact hq.elim
      |outgrown=>exact hq.elim
    |exit id=>obtain⟨τ,h1,h2⟩:=hq;exact⟨τ,h1,h2⟩
    |ret=>obtain⟨τ,h1,h2⟩:=hq;exact⟨τ,h1,h2⟩
    |goto l=>exact hq.elim
    |panic c=>exact hq.elim
    |outgrown=>exact hq.elim
   case seq xa yb=>
    obtain⟨hh1,hh2⟩:=wP (a:=xa) (b:=yb) hh (by simp[noH]);refine wp_seq (wp_mono (ihx hm.1 hh1 h hR) fun e a w hq=>?_);cases e with
    |normal=>obtain⟨τ,h1,h2⟩:=hq;exact ihy hm.2 hh2 h1 h2
    |exit id=>obtain⟨τ,h1,h2⟩:=hq;exact⟨τ,h1,h2⟩
    |ret=>obtain⟨τ,h1,h2⟩:=hq;exact⟨τ,h1,h2⟩
    |goto l=>exact hq.elim
    |panic c=>exact hq.elim
    |outgrown=>exact hq.elim
 | cond c x y ihx ihy =>
   intro ac Q σ a w hm hh h hR;cases ac<;>simp only[bZ,A1,A8] at hm;rename_i xa yb;obtain⟨hh1,hh2⟩:=wP (a:=xa) (b:=yb) hh (by simp[noH]);simp only[AWP,tst] at h;obtain⟨tag,β,hRR⟩:=id hR;have hx:=(hRR.gx hm.1.1).1;split at h
   ·rename_i t e;rw[e] at hx;exact wp_cond_split hx.bool_inv (fun ht=>ihx hm.1.2 hh1 (h.1 ht) hR) fun ht=>ihy hm.2 hh2 (h.2 ht) hR
   ·rename_i e;rw[e] at hx;obtain⟨t,ht⟩:=hx.ub_inv
    grind [wp_cond_split]
   ·exact h.elim
 | block id x ihx =>
   intro ac Q σ a w hm hh h hR;cases ac<;>simp only[bZ,A1,A8,beq_iff_eq] at hm;obtain⟨rfl,hm⟩:=hm;refine wp_block (wp_mono (ihx hm (by simpa[noH] using hh) h hR) fun e a w hq=>?_);cases e with
   |normal=>obtain⟨τ,h1,h2⟩:=hq;exact⟨τ,h1,h2⟩
   | exit j =>
     obtain⟨τ,h1,h2⟩:=hq;simp only[inb] at h1;simp only[Exit.inBlock];split
     ·rename_i e;rw[if_pos e] at h1;exact⟨τ,h1,h2⟩
     ·rename_i e;rw[if_neg e] at h1;exact⟨τ,h1,h2⟩
   |ret=>obtain⟨τ,h1,h2⟩:=hq;exact⟨τ,h1,h2⟩
   |goto l=>exact hq.elim
   |panic c=>exact hq.elim
   |outgrown=>exact hq.elim
 | loop x ihx =>
   intro ac Q σ a w hm hh h hR;cases ac<;>simp only[bZ,A8] at hm;simp only[AWP] at h;obtain⟨lv,lr,I,μ,h1,h2,h3⟩:=h;let p:Act->World->Nat->Prop:=fun a w m=>∃τ,I τ/\R n w0 S0 τ a w/\μ τ=m;refine wp_loop (fun a w=>∃m,p a w m) (fun a w=>open Classical in if h:∃m,p a w m then Classical.choose (ox h) else 0) ⟨_,_,h2,hR.res h1,rfl⟩ ?_;intro a w hI;have hI':=hI;simp only[dif_pos hI];obtain⟨hp,hmin⟩:=Classical.choose_spec (ox hI);generalize Classical.choose (ox hI)=m at hp hmin;obtain⟨τ,i1,i2,i3⟩:=hp;refine wp_mono (ihx hm (by simpa[noH] using hh) (h3 τ i1) i2) fun e a' w' hq=>?_;cases e with
   | normal =>
     obtain⟨τ',⟨j1,j2,j3⟩,j4⟩:=hq;have hI2:∃m,p a' w' m:=⟨_,_,j2,j4.res j1,rfl⟩;refine⟨hI2,?_⟩;simp only[dif_pos hI2];obtain⟨_,hmin2⟩:=Classical.choose_spec (ox hI2);have:=hmin2 _ ⟨_,j2,j4.res j1,rfl⟩;omega
   |exit id=>obtain⟨τ,h1,h2⟩:=hq;exact⟨τ,h1,h2⟩
   |ret=>obtain⟨τ,h1,h2⟩:=hq;exact⟨τ,h1,h2⟩
   |goto l=>exact hq.elim
   |panic c=>exact hq.elim
   |outgrown=>exact hq.elim
 | exit id =>
   intro ac Q σ a w hm hh h hR;cases ac<;>simp only[bZ,A8,beq_iff_eq] at hm;subst hm;exact wp_exit ⟨σ,h,hR⟩
 | ret =>
   intro ac Q σ a w hm hh h hR;cases ac<;>simp[bZ] at hm;exact wp_ret ⟨σ,h,hR⟩
 |rangeFunc f ps asn body ih1 ih2=>simp_all [bZ]
 |scope body ih=>simp_all [bZ]
 |label l=>simp_all [bZ]
 |goto l=>simp_all [bZ]
 |refuse y=>simp_all [bZ]
def QZ(P:Program):ResultVar->RV->Bool
 | .tmp t,.t k=>t==k
 | .cell t ty,.c k s ag=>t==k&&lu P ty s&&oV P ty ag
 |_,_=>false
def uy(P:Program):List ResultVar->List RV->Bool
 |[],[]=>true
 |x::xs,y::ys=>QZ P x y&&uy P xs ys
 |_,_=>false
def LQ(h:RR n w0 S0 σ a w tag β){x:ResultVar}{y:RV}(hm:QZ P x y=true){z:AV}(hz:y.val σ=some z):
 ∃v,(match x with| .tmp t=>pure (a.tmps.getD t undef)| .cell t ty=>do loadVar ty (<-asAddr (a.tmps.getD t undef)):Sem Value).run P w=.ok v w/\Rep w (Imm tag) w0.heap.size β v z:=by
 cases x with
 | tmp t =>
   cases y<;>simp[QZ] at hm;subst hm;simp only[RV.val,Option.some.injEq] at hz;subst hz;exact⟨_,rfl,(h.get t).1⟩
 | cell t ty =>
   cases y with
   |t k=>simp[QZ] at hm
   | c k s ag =>
     simp only[QZ,A1,beq_iff_eq] at hm;obtain⟨⟨rfl,h1⟩,h2⟩:=hm;simp only[RV.val] at hz;split at hz
     ·rename_i r e;split at hz
      ·rename_i y hy;have hr:=(h.get t).1;rw[e] at hr;obtain⟨b,p,v,hb,_,hva,hrv,hwd⟩:=h.var hy;obtain⟨b',o',sz',cap',len',hb',hv⟩:=h.pt_inv (by rw[hy];trivial) hr
       grind [uc,Instr.loadAt,Instr.sureAddr,asAddr]
      ·cases hz
     ·cases hz
theorem kJ(h:RR n w0 S0 σ a w tag β):∀{xs:List ResultVar}{ys:List RV}{zs:List AV},uy P xs ys=true->RVs.val σ ys=some zs->
 ∃vs:List Value,(xs.mapM fun| .tmp t=>pure (a.tmps.getD t undef)| .cell t ty=>do loadVar ty (<-asAddr (a.tmps.getD t undef)):Sem (List Value)).run P w=.ok vs w/\vs.length=zs.length/\∀(j:Nat)(z:AV),zs[j]?=some z->∃v,vs[j]?=some v/\Rep w (Imm tag) w0.heap.size β v z
 | [], [], zs, _, hz => by
   simp[RVs.val] at hz;subst hz;exact⟨[],by simp,rfl,by simp⟩
 | x :: xs, y :: ys, zs, hm, hz => by
   simp only[uy,A1] at hm;simp only[RVs.val] at hz;split at hz
   ·rename_i z zs' e1 e2;cases hz;obtain⟨v,h1,h2⟩:=LQ h hm.1 e1;obtain⟨vs,h3,h4,h5⟩:=kJ h hm.2 e2;refine⟨v::vs,?_,by simp[h4],fun j z hj=>?_⟩
    ·simp_all
    grind
   ·cases hz
 |[],_::_,_,hm,_=>by simp[uy] at hm
 |_::_,[],_,hm,_=>by simp[uy] at hm
def qO{zs:List AV}{vs:List Value}{S:Nat->Prop}{B:Nat}(hl:vs.length=zs.length)(h:∀(j:Nat)(z:AV),zs[j]?=some z->∃v,vs[j]?=some v/\Rep w S B β v z):
 Rep w S B β (if h:vs.toArray.size=1 then vs.toArray[0] else .tuple vs.toArray) (hJ zs)/\(hJ zs).ments=aP zs:=by
 match zs,vs,hl with
 | [z], [v], _ =>
   obtain⟨u,hu,hr⟩:=h 0 z rfl
   simp_all [hJ,aP]
 |[],[],_=>exact⟨.tup _ _ rfl (by simp),by simp[hJ,AV.ments]⟩
 | z :: z' :: zs, v :: v' :: vs, hl =>
   refine⟨?_,by simp[hJ,AV.ments]⟩;rw[dif_neg (by simp)];refine .tup _ _ (by simpa using hl) fun j x hj=>?_;obtain⟨u,hu,hr⟩:=h j x hj
   simp_all
def aU(P:Program)(f k:Nat)(A:ar)(V:List RV):Bool:=match P.funcs[f]? with
 |some fn=> !(fn.name== "runtime.NumGoroutine")&&decide (k<=fn.ntmps)&&decide (fn.ntmps<=1000000000)&&uy P fn.results.toList V&&(match fn.body with|some c=>bZ P fn.ntmps c A|none=>false)
 |none=>false
theorem jM(k:Nat):∀(args:List AV)(i:Nat),aC k (St.start.go i args)=if i<=k then args[k-i]? else none
 |[],i=>by simp[St.start.go,aC]
 | x :: args, i => by
   simp only[St.start.go,aC,jM k args (i+1)]
   grind
def zm(br:P.follows .mixedOrders=true){f k:Nat}{A:ar}{V:List RV}{args:List AV}{res:AV}(hm:aU P f k A V=true)(hl:args.length=k){H:World->Prop}(h:VT (OkT H P) A V args res):OkR H P f args res:=by
 classical
 unfold aU at hm;split at hm
 ·rename_i fn hf;split at hm
  ·rename_i c hc;simp only[A1,E9,decide_eq_true_eq] at hm;obtain⟨⟨⟨⟨m1,m2⟩,m5⟩,m3⟩,m4⟩:=hm;refine⟨⟨fn,hf,by rw[hc];rfl,m1⟩,fun w S vs hS hvs hat hH=>?_⟩;refine calls_of_wp hf hc ?_;let tg:Nat->Tag:=fun b=>if S b then .imm else .out
   haveI:HS ⟨S,w,tg,fun _=>none⟩ H:=⟨fun W hW=>hH W fun b hb=>hW b (.inl (by simp[tg,hb]))⟩
   have hR:R fn.ntmps w ⟨S,w,tg,fun _=>none⟩ (St.start args) {tmps:=vs++D7 (fn.ntmps-vs.size) undef,defers:=[]} w:=by
    refine⟨tg,fun _=>none,m5,.refl _ _,fun b _ _=>⟨rfl,rfl⟩,fun b hb=>⟨hb,rfl⟩,fun r _ hl=>by simp[St.start,aC,cH] at hl,.refl _ _,by simp;omega,rfl,hS,fun b hb=>?_,fun b hb=>?_,fun j x hj=>?_,fun r=>?_,fun r x hr=>by simp[St.start,aC] at hr⟩
    ·by_cases e:S b
     ·exact hS b e
     ·simp[tg,e] at hb
    ·by_cases e:S b<;>simp[tg,e]
    ·simp only[St.start,jM,C1,if_true,H5] at hj;have hr:=hat j x hj;have hjl:j<vs.size:=by rw[hvs];exact(A0.1 hj).1
     have e:(vs++D7 (fn.ntmps-vs.size) undef).getD j undef=vs.getD j undef:=by
      rw[A6,A6,B7 hjl]
     refine⟨?_,fun q hq=>by rw[hr.ments_nil] at hq;cases hq⟩;dsimp only;rw[e];exact .p _ _ (hr.mono fun b hb=>⟨.inl (by simp[tg,hb]),rfl⟩)
    ·simp[St.start,aC,ct]
   refine wp_mono (lQ br m4 (.inl fun b hb=>by
    by_cases e:S b
    ·exact⟨by simp[tg,e],hS b e⟩
    ·simp[Imm,tg,e] at hb) h hR) fun e a' w' hq=>?_
   have fin:∀τ,(∃xs,RVs.val τ V=some xs/\(aP xs).Nodup/\lift τ.row 3 (hJ xs)=res)->R fn.ntmps w ⟨S,w,tg,fun _=>none⟩ τ a' w'->
    a'.defers = [] ∧ ∃ v, (results fn a'.tmps).run P w' = .ok v w' ∧ ∃ u fp S', (Ending.returned v) = .returned u ∧ Below w.heap.size w w' ∧ fp.Nodup ∧
      (∀b,S' b->b<w'.heap.size/\(b<w.heap.size->S b))/\aV w' S' w.heap.size u res fp:=by
    rintro τ ⟨xs,x1,x2,x3⟩ ⟨tag,β,hRR⟩;refine⟨hRR.nodef,?_⟩;obtain⟨vs',v1,v2,v3⟩:=kJ hRR m3 x1;obtain⟨t1,t2⟩:=qO v2 v3;refine⟨if h:vs'.toArray.size=1 then vs'.toArray[0] else .tuple vs'.toArray,?_,?_⟩
    ·unfold results;have e:fn.results=fn.results.toList.toArray:=by simp
     rw[e,G6];simp only[Sem.run_bind,Sem.run_map];exact congrArg (fun r:Result (List Value)=>(r.andThen fun a w'=>Result.ok a.toArray w').andThen fun a w'=>(pure (if h:a.size=1 then a[0] else Value.tuple a):Sem Value).run P w') v1
    ·obtain⟨fp,l1,l2,l3⟩:=hRR.lift (rs:=(hJ xs).ments) (d:=0) 3 (hJ xs) _ t1 (by rw[t2];exact x2) (fun r hr=>hr);rw[x3] at l1;refine⟨_,fp,_,rfl,hRR.below,l2,fun b hb=>?_,l1⟩;have hne:tag b≠.out:=by
      refine mu (rs:=(hJ xs).ments) (d:=0) ?_;rcases hb with e|⟨r,e⟩<;>rw[e]<;>simp
     refine⟨hRR.lt b hne,fun hlt=>?_⟩;have:=(hRR.old b hlt);exact this.1.1 (this.2.resolve_right hne)
   cases e with
   |normal=>obtain⟨τ,h1,h2⟩:=hq;exact fin τ h1 h2
   |ret=>obtain⟨τ,h1,h2⟩:=hq;exact fin τ h1 h2
   |exit id=>obtain⟨τ,h1,h2⟩:=hq;exact h1.elim
   |goto l=>exact hq.elim
   |panic c=>exact hq.elim
   |outgrown=>exact hq.elim
  ·simp at hm
 ·cases hm
def th(rs:List RV)(lr:List Nat)(res:AV)(outs:List (Nat×Row)):Ex->St->Prop
 | .nrm,σ| .ret,σ=>∃xs,RVs.val σ rs=some xs/\hJ xs=res/\σ.resOk [] lr/\(∀r∈res.ments,r∈lr)/\(σ.res [] lr).rows=outs
 |_,_=>False
def vX(br:P.follows .mixedOrders=true){f k:Nat}{A:ar}{V:List RV}{lr:List Nat}{args:List AV}{ins:List (Nat×Row)}{res:AV}{outs:List (Nat×Row)}
 (hm:aU P f k A V=true) (hn:noH A=true) (hl:args.length=k) {H:World->Prop} (h:AWP (OkT H P) A (th V lr res outs) ⟨St.start.go 0 args,ins⟩):ST H P f args ins res outs:=by
 classical
 unfold aU at hm;split at hm
 ·rename_i fn hf;split at hm
  ·rename_i c hc;simp only[A1,E9,decide_eq_true_eq] at hm;obtain⟨⟨⟨⟨m1,m2⟩,m5⟩,m3⟩,m4⟩:=hm;refine⟨⟨fn,hf,by rw[hc];rfl,m1⟩,fun w0 w tag β vs hbel hold hlt hrows hwf hvs hat hH=>?_⟩;refine calls_of_wp hf hc ?_;let F:Fx:=⟨fun b=>b<w0.heap.size/\tag b=.imm,w,tag,β⟩
   haveI:HS F H:=⟨hH⟩
   have hR:R fn.ntmps w0 F ⟨St.start.go 0 args,ins⟩ {tmps:=vs++D7 (fn.ntmps-vs.size) undef,defers:=[]} w:=by
    refine⟨tag,β,m5,.refl _ _,fun b _ _=>⟨rfl,rfl⟩,fun b hb=>⟨hb,rfl⟩,fun r _ _=>rfl,hbel,by simp;omega,rfl,fun b hb=>hb.1,hlt,fun b hb=>⟨⟨fun e=>⟨hb,e⟩,fun e=>e.2⟩,hold b hb⟩,fun j x hj=>?_,hrows,hwf⟩;simp only[jM,C1,if_true,H5] at hj;obtain⟨hr,hd⟩:=hat j x hj;have hjl:j<vs.size:=by rw[hvs];exact(A0.1 hj).1
    have e:(vs++D7 (fn.ntmps-vs.size) undef).getD j undef=vs.getD j undef:=by
     rw[A6,A6,B7 hjl]
    refine⟨?_,hd⟩;dsimp only;rw[e];exact hr
   refine wp_mono (lQ br m4 (.inr hn) h hR) fun e a' w' hq=>?_;have fin:∀τ,(∃xs,RVs.val τ V=some xs/\hJ xs=res/\τ.resOk [] lr/\(∀r∈res.ments,r∈lr)/\(τ.res [] lr).rows=outs)->R fn.ntmps w0 F τ a' w'->
    a'.defers=[]/\∃v,(results fn a'.tmps).run P w'=.ok v w'/\∃u tag' β',(Ending.returned v)=.returned u/\Below 0 w w'/\(∀b,b<w.heap.size->tag b=.imm\/tag b=.out->tag' b=tag b/\w'.heap[b]?=w.heap[b]?)/\
   (∀b,Imm tag b->Imm tag' b/\w'.heap[b]?=w.heap[b]?)/\(∀b,tag' b≠.out->b<w'.heap.size)/\(∀r,ct w' tag' w0.heap.size β' r (aC r outs))/\Wf outs/\
   (∀r,1000000000<=r->cH (aC r outs)->β' r=β r)/\Rep w' (Imm tag') w0.heap.size β' u res/\∀r∈res.ments,(aC r outs).isSome:=by
    rintro τ ⟨xs,x1,x2,x3,x4,x5⟩ ⟨tag1,β1,hRR⟩;refine⟨hRR.nodef,?_⟩;obtain⟨vs',v1,v2,v3⟩:=kJ hRR m3 x1;obtain⟨t1,t2⟩:=qO v2 v3;obtain⟨tag2,β2,hR2,htr⟩:=hRR.res x3;refine⟨if h:vs'.toArray.size=1 then vs'.toArray[0] else .tuple vs'.toArray,?_,_,tag2,β2,rfl,hR2.frm,hR2.keep,hR2.kimm,hR2.lt,?_,?_,?_,?_,?_⟩
    ·unfold results;have e:fn.results=fn.results.toList.toArray:=by simp
     rw[e,G6];simp only[Sem.run_bind,Sem.run_map];exact congrArg (fun r:Result (List Value)=>(r.andThen fun a w'=>Result.ok a.toArray w').andThen fun a w'=>(pure (if h:a.size=1 then a[0] else Value.tuple a):Sem Value).run P w') v1
    ·rw[<-x5];exact hR2.rows
    ·rw[<-x5];exact hR2.wfr
    ·rw[<-x5];exact hR2.bk
    ·rw[<-x2];exact htr _ _ t1 (by rw[x2];exact x4)
    ·intro r hr;rw[<-x5];show(aC r (lr.map fun q=>(q,(τ.row q).getD .dead))).isSome;rw[gO,if_pos (x4 r hr)];rfl
   cases e with
   |normal=>obtain⟨τ,h1,h2⟩:=hq;exact fin τ h1 h2
   |ret=>obtain⟨τ,h1,h2⟩:=hq;exact fin τ h1 h2
   |exit id=>obtain⟨τ,h1,h2⟩:=hq;exact h1.elim
   |goto l=>exact hq.elim
   |panic c=>exact hq.elim
   |outgrown=>exact hq.elim
  ·simp at hm
 ·cases hm
def aL(br:P.follows .mixedOrders=true){f k:Nat}{A:ar}{V:List RV}{args:List AV}{res:AV}(hm:aU P f k A V=true)(hl:args.length=k)(h:VT (OkS P) A V args res):Ok P f args res:=
 zm (H:=fun _=>True) br hm hl h
def aZ(br:P.follows .mixedOrders=true){f k:Nat}{A:ar}{V:List RV}{lr:List Nat}{args:List AV}{ins:List (Nat×Row)}{res:AV}{outs:List (Nat×Row)}
 (hm:aU P f k A V=true) (hn:noH A=true) (hl:args.length=k) (h:AWP (OkS P) A (th V lr res outs) ⟨St.start.go 0 args,ins⟩):OkM P f args ins res outs:=
 vX (H:=fun _=>True) br hm hn hl h
def vR(br:P.follows .mixedOrders=true){f k:Nat}{A:ar}{V:List RV}{lr:List Nat}{args:List AV}{ins:List (Nat×Row)}{res:AV}{outs:List (Nat×Row)}
 (hm:aU P f k A V=true) (hl:args.length=k) (h:AWP (OkT (fun _=>True) P) A (th V lr res outs) ⟨St.start.go 0 args,ins⟩):OkH P f args ins res outs:=by
 classical
 unfold aU at hm;split at hm
 ·rename_i fn hf;split at hm
  ·rename_i c hc;simp only[A1,E9,decide_eq_true_eq] at hm;obtain⟨⟨⟨⟨m1,m2⟩,m5⟩,m3⟩,m4⟩:=hm;refine⟨⟨fn,hf,by rw[hc];rfl,m1⟩,fun w0 w tag β vs hbel hold hlt hrows hwf hvs hat=>?_⟩;refine calls_of_wp hf hc ?_;let tg:Nat->Tag:=fun b=>match tag b with| .uq _=>.own 0|t=>t
   have htg:∀b,tg b=.imm\/tg b=.out->tg b=tag b:=fun b hb=>by
    simp only[tg] at hb⊢;cases e:tag b<;>simp[e] at hb⊢
   have htg2:∀b,tag b=.imm\/tag b=.out->tg b=tag b:=fun b hb=>by
    rcases hb with e|e<;>simp[tg,e]
   have himm:∀b,Imm tg b->tg b=.imm:=fun b hb=>by
    rcases hb with e|⟨r,e⟩
    ·exact e
    ·simp only[tg] at e;cases e':tag b<;>simp[e'] at e
   let F:Fx:=⟨fun b=>b<w0.heap.size/\tag b=.imm,w,tg,β⟩;have hR:R fn.ntmps w0 F ⟨St.start.go 0 args,ins⟩ {tmps:=vs++D7 (fn.ntmps-vs.size) undef,defers:=[]} w:=by
    refine⟨tag,β,m5,.refl _ _,fun b _ hb=>⟨(htg b hb).symm,rfl⟩,fun b hb=>⟨.inl ((htg b (.inl (himm b hb))).symm.trans (himm b hb)),rfl⟩,fun r _ _=>rfl,hbel,by simp;omega,rfl,fun b hb=>hb.1,hlt,fun b hb=>⟨⟨fun e=>⟨hb,e⟩,fun e=>e.2⟩,hold b hb⟩,fun j x hj=>?_,hrows,hwf⟩;simp only[jM,C1,if_true,H5] at hj;obtain⟨hr,hd⟩:=hat j x hj;have hjl:j<vs.size:=by rw[hvs];exact(A0.1 hj).1
    have e:(vs++D7 (fn.ntmps-vs.size) undef).getD j undef=vs.getD j undef:=by
     rw[A6,A6,B7 hjl]
    refine⟨?_,hd⟩;dsimp only;rw[e];exact hr
   refine wp_mono (lQ br m4 (.inl fun b hb=>⟨himm b hb,hlt b (by rw[<-htg b (.inl (himm b hb)),himm b hb];simp)⟩) h hR) fun e a' w' hq=>?_;have fin:∀τ,(∃xs,RVs.val τ V=some xs/\hJ xs=res/\τ.resOk [] lr/\(∀r∈res.ments,r∈lr)/\(τ.res [] lr).rows=outs)->R fn.ntmps w0 F τ a' w'->
    a'.defers=[]/\∃v,(results fn a'.tmps).run P w'=.ok v w'/\∃u tag' β',(Ending.returned v)=.returned u/\Below 0 w w'/\(∀b,b<w.heap.size->tag b=.imm\/tag b=.out->tag' b=tag b/\w'.heap[b]?=w.heap[b]?)/\
   (∀b,tag' b≠.out->b<w'.heap.size)/\(∀r,ct w' tag' w0.heap.size β' r (aC r outs))/\Wf outs/\
   (∀r,1000000000<=r->cH (aC r outs)->β' r=β r)/\Rep w' (Imm tag') w0.heap.size β' u res/\∀r∈res.ments,(aC r outs).isSome:=by
    rintro τ ⟨xs,x1,x2,x3,x4,x5⟩ ⟨tag1,β1,hRR⟩;refine⟨hRR.nodef,?_⟩;obtain⟨vs',v1,v2,v3⟩:=kJ hRR m3 x1;obtain⟨t1,t2⟩:=qO v2 v3;obtain⟨tag2,β2,hR2,htr⟩:=hRR.res x3;refine⟨if h:vs'.toArray.size=1 then vs'.toArray[0] else .tuple vs'.toArray,?_,_,tag2,β2,rfl,hR2.frm,fun b hb ht=>by rw[<-htg2 b ht];exact hR2.keep b hb (by rw[show F.t b=tag b from htg2 b ht];exact ht),hR2.lt,?_,?_,?_,?_,?_⟩
    ·unfold results;have e:fn.results=fn.results.toList.toArray:=by simp
     rw[e,G6];simp only[Sem.run_bind,Sem.run_map];exact congrArg (fun r:Result (List Value)=>(r.andThen fun a w'=>Result.ok a.toArray w').andThen fun a w'=>(pure (if h:a.size=1 then a[0] else Value.tuple a):Sem Value).run P w') v1
    ·rw[<-x5];exact hR2.rows
    ·rw[<-x5];exact hR2.wfr
    ·rw[<-x5];exact hR2.bk
    ·rw[<-x2];exact htr _ _ t1 (by rw[x2];exact x4)
    ·intro r hr;rw[<-x5];show(aC r (lr.map fun q=>(q,(τ.row q).getD .dead))).isSome;rw[gO,if_pos (x4 r hr)];rfl
   cases e with
   |normal=>obtain⟨τ,h1,h2⟩:=hq;exact fin τ h1 h2
   |ret=>obtain⟨τ,h1,h2⟩:=hq;exact fin τ h1 h2
   |exit id=>obtain⟨τ,h1,h2⟩:=hq;exact h1.elim
   |goto l=>exact hq.elim
   |panic c=>exact hq.elim
   |outgrown=>exact hq.elim
  ·simp at hm
 ·cases hm
def xZ(br:P.follows .mixedOrders=true){f k:Nat}{A:ar}{V:List RV}{lr:List Nat}{args:List AV}{ins:List (Nat×Row)}{res:AV}{outs:List (Nat×Row)}
 (hm:aU P f k A V=true) (hl:args.length=k) (h:AWP (OkS P) A (th V lr res outs) ⟨St.start.go 0 args,ins⟩):OkH P f args ins res outs:=vR br hm hl h
end Vs

namespace Vs
open Go Go.RowKit
inductive Lf where
 |int (k:IntKind)
 |bool
 |str
 |sl (ag:Bool) (ls:List Lf)
mutual
def vf:Lf->AV->Prop
 | .int k,a=>∃n,a=.sc (.int k n)/\(Lit.int k n).wf=true
 | .bool,a=>∃b,a=.sc (.bool b)
 | .str,a=>∃s,a=.sc (.string s)/\s.size<=maxLen
 | .sl ag ls,a=>∃xs,a=.lst .o ls.length xs/\xs.length<=maxLen/\∀x∈xs,(ag=true->∃cs,x=.agg cs/\dF ls cs)/\(ag=false->dF ls [x])
def dF:List Lf->List AV->Prop
 |[],[]=>True
 |l::ls,a::al=>vf l a/\dF ls al
 |_,_=>False
end
mutual
def lfs(P:Program):Nat->TypeId->Option (Bool×List Lf)
 |0,_=>none
 | k + 1, t => match P.underlying t with
   |some .bool=>some (false,[.bool])
   |some (.int kd)=>some (false,[.int kd])
   |some .string=>some (false,[.str])
   | some (.slice e) => match lfs P k e with
     |some (ag,ls)=>if P.cellsOf e=ls.length/\0<ls.length/\(ag=false->ls.length=1) then some (false,[.sl ag ls]) else none
     |none=>none
   | some (.struct fs) => match tj P k 0 fs.toList with
     |some ls=>if P.cellsOf t=ls.length then some (true,ls) else none
     |none=>none
   |_=>none
def tj(P:Program):Nat->Nat->List Field->Option (List Lf)
 |_,_,[]=>some []
 |0,_,_=>none
 | k + 1, off, f :: fs => match lfs P k f.type with
   |some (_,ls)=>if f.offset=off/\P.cellsOf f.type=ls.length then
    match tj P k (off+ls.length) fs with
    |some ms=>some (ls++ms)
    |none=>none
     else none
   |none=>none
end
theorem uH:∀{ls:List Lf}{al:List AV},dF ls al->ls.length=al.length
 |[],[],_=>rfl
 |l::ls,a::al,h=>by simp only[dF] at h;simp[uH h.2]
 |[],_::_,h=>by simp[dF] at h
 |_::_,[],h=>by simp[dF] at h
theorem mW:∀{ls ms:List Lf}{al bs:List AV},dF ls al->dF ms bs->dF (ls++ms) (al++bs)
 |[],ms,[],bs,_,h=>h
 | l :: ls, ms, a :: al, bs, h, h' => by
   simp only[dF] at h;simp only[List.cons_append,dF];exact⟨h.1,mW h.2 h'⟩
 |[],_,_::_,_,h,_=>by simp[dF] at h
 |_::_,_,[],_,h,_=>by simp[dF] at h
def fL(w:World)(S:Nat->Prop)(cs:List Value)(ls:List Lf):Prop:=
 ∃al,dF ls al/\cs.length=al.length/\∀(j:Nat)(v:Value)(a:AV),cs[j]?=some v->al[j]?=some a->aV w S w.heap.size v a []/\v.oneCell'=true
def fL.one{w:World}{S:Nat->Prop}{v:Value}{l:Lf}{a:AV}(h:vf l a)(hr:aV w S w.heap.size v a [])(h1:v.oneCell'=true):fL w S [v] [l]:=
 ⟨[a], by simp_all [trivial, dF], rfl, fun j u b hj hb => by
   grind⟩
def fL.append{w:World}{S:Nat->Prop}{cs ds:List Value}{ls ms:List Lf}(h:fL w S cs ls)(h':fL w S ds ms):fL w S (cs++ds) (ls++ms):=by
 obtain⟨al,f1,l1,r1⟩:=h;obtain⟨bs,f2,l2,r2⟩:=h';refine⟨al++bs,mW f1 f2,by simp[l1,l2],fun j v a hv ha=>?_⟩
 grind
section
variable{H:Type}{enc:TypeId×Value->H}{P:Program}{w:World}{base:Nat}{spare:Nat->Bool}{held:Bool}{S:Nat->Prop}
theorem kb(b o i:Nat):(⟨b,o,none⟩:Addr).add i=⟨b,o+i,none⟩:=by
 simp[Addr.add_lit]
def Ek{a:Addr}{v:Value}(h:w.cell? a=some v):a.block<w.heap.size/\a.spot=none:=by
 unfold World.cell? at h;split at h
 ·rename_i e;refine⟨(B5.1 e).1,?_⟩
  simp_all
 ·cases h
theorem qx(hS:∀b,b<w.heap.size->S b):∀(k:Nat),
 (∀(fuel:Nat)(t:TypeId)(cs:List Value)(x:DataW H×List MemPlace)(ag:Bool)(ls:List Lf),DataW.trod enc P w base spare held fuel t cs=some x->lfs P k t=some (ag,ls)->fL w S cs ls)/\
 (∀(fs:List Field)(off fuel:Nat)(cs:List Value)(ls:List Lf),tj P k off fs=some ls->(∀f∈fs,∃x,DataW.trod enc P w base spare held fuel f.type ((cs.drop f.offset).take (P.cellsOf f.type))=some x)->
  off+ls.length<=cs.length->fL w S ((cs.drop off).take ls.length) ls)
 | 0 => by
   refine⟨fun fuel t cs x ag ls h hl=>by simp[lfs] at hl,fun fs off fuel cs ls hl _ _=>?_⟩;cases fs with
   |nil=>simp[tj] at hl;subst hl;exact⟨[],by simp[dF],by simp,by simp⟩
   |cons f fs=>simp[tj] at hl
 | k + 1 => by
   obtain⟨ih1,ih2⟩:=qx hS k;constructor
   ·intro fuel t cs x ag ls h hl;simp only[lfs] at hl;split at hl
    ·rename_i hu;cases hl;obtain⟨b,rfl,_⟩:=DataW.trod_bool hu h;exact .one ⟨b,rfl⟩ (.sc _ rfl) rfl
    ·rename_i kd hu;cases hl;obtain⟨n,rfl,_,hw⟩:=DataW.trod_int hu h;exact .one ⟨n,rfl,hw⟩ (.sc _ rfl) rfl
    ·rename_i hu;cases hl;obtain⟨z,rfl,_,hw⟩:=DataW.trod_string hu h;exact .one ⟨z,rfl,hw⟩ (.sc _ rfl) rfl
    ·rename_i e hu;split at hl
     ·rename_i ag' ls' he;split at hl
      ·rename_i hc;obtain⟨c1,c2,c3⟩:=hc;cases hl;rcases Go.Deep.open_slice hu h with⟨rfl,_⟩|⟨a,len,cap,m,n,D,Pl,rfl,hb,hle,hmx,hm,_,hx⟩
       ·exact .one ⟨[],rfl,C1 _,by simp⟩ (.nil0 _ _) rfl
       ·have hlm:len<=m:=by rw[hm];split<;>omega
        have hsa0:0<len->a.spot=none:=by
         intro h0;obtain⟨cs',h1,_⟩:=hx 0 (by omega);rw[c1] at h1;obtain⟨_,hlen,hcell⟩:=World.cells?_some h1;have:=hcell 0 c2;rw[A2 (by omega)] at this;have:=(Ek this).2;simpa[Addr.add] using this
        -- the elements
        have hel:∀i,i<len->∃(v:Value)(y:AV),aV w S w.heap.size v y []/\v.cells.size=ls'.length/\((ag'=true->∃cs,y=.agg cs/\dF ls' cs)/\(ag'=false->dF ls' [y]))/\
         (∀j u,v.cells[j]?=some u->w.cell? (a.add (i*ls'.length+j))=some u/\u.oneCell'=true):=by
         intro i hi;obtain⟨cs',h1,h2⟩:=hx i (by omega);rw[c1] at h1;obtain⟨_,hlen,hcell⟩:=World.cells?_some h1;obtain⟨al,f1,f2,f3⟩:=ih1 n e cs' _ ag' ls' h2 he;have hll:=uH f1;have hcl:∀j u,cs'[j]?=some u->w.cell? (a.add (i*ls'.length+j))=some u/\u.oneCell'=true:=by
          intro j u hj;have hjl:j<ls'.length:=by rw[<-hlen];exact(A0.1 hj).1
          refine⟨?_,(f3 j u al[j] hj (A2 (by omega))).2⟩;have:=hcell j hjl;rw[hj] at this;rw[<-this];congr 1;have hsa:=hsa0 (by omega);obtain⟨b,o,sp⟩:=a;simp only at hsa;subst hsa;rw[kb,kb,kb,C3]
         cases ag' with
         | true =>
           have:=aV.agg (w:=w) (S:=S) (B:=w.heap.size) cs'.toArray al (fun _=>[]) (by simpa using f2) (fun x hx=>by
            obtain⟨j,hj,rfl⟩:=F8 (by simpa using hx:x∈cs');exact(f3 j _ al[j] (A2 hj) (A2 (by omega))).2)
            (fun j x hj=>by
             have hjl:j<cs'.length:=by rw[f2];exact(A0.1 hj).1
             have e:cs'.toArray.getD j undef=cs'[j]:=by simp[hjl]
             rw[e];exact(f3 j _ x (A2 hjl) hj).1)
           rw[bA _ _ fun _ _=>rfl] at this;exact⟨.agg cs'.toArray,.agg al,this,by simp[Value.cells,hlen],⟨fun _=>⟨al,rfl,f1⟩,(fun e=>by cases e)⟩,fun j u hj=>hcl j u (by simpa[Value.cells] using hj)⟩
         | false =>
           have hl1:=c3 rfl
           match cs',al,hlen,f2,f1 with
           | [v], [y], _, _, f1 =>
             obtain⟨r1,r2⟩:=f3 0 v y rfl rfl;have hvc:v.cells=#[v]:=oq r2;refine⟨v,y,r1,by rw[hvc,hl1];rfl,⟨(fun e=>by cases e),fun _=>f1⟩,fun j u hj=>?_⟩;rw[hvc] at hj;exact hcl j u (by simpa using hj)
           |[],_,hlen,_,_=>simp at hlen;omega
           |_::_::_,_,hlen,_,_=>simp at hlen;omega
           |[_],[],_,f2,_=>simp at f2
           |[_],_::_::_,_,f2,_=>simp at f2
        rcases I9 len with hl0|hl0
        ·subst hl0;exact .one ⟨[],rfl,C1 _,by simp⟩ (.nil _ _ _ _ ⟨fun e=>by(cases e),fun e=>by(cases e)⟩) rfl
        ·have hex:∃(vs:Nat->Value)(ys:Nat->AV),∀i,i<len->aV w S w.heap.size (vs i) (ys i) []/\(vs i).cells.size=ls'.length/\((ag'=true->∃cs,ys i=.agg cs/\dF ls' cs)/\(ag'=false->dF ls' [ys i]))/\
          (∀j u,(vs i).cells[j]?=some u->w.cell? (a.add (i*ls'.length+j))=some u/\u.oneCell'=true):=by
          classical
          refine⟨fun i=>if h:i<len then Classical.choose (hel i h) else undef,fun i=>if h:i<len then Classical.choose (Classical.choose_spec (hel i h)) else .top,fun i hi=>?_⟩;simp only[dif_pos hi];exact Classical.choose_spec (Classical.choose_spec (hel i hi))
         obtain⟨vs,ys,hvs⟩:=hex;obtain⟨p0,p1,_,p3⟩:=hvs 0 hl0;have h0:=p3 0 ((vs 0).cells[0]'(by omega)) (B0 (by omega));have hsp:=Ek h0.1;have hsa:=hsa0 hl0;have hbl:a.block<w.heap.size:=by
          have:=hsp.1;obtain⟨b,o,sp⟩:=a;simp only at hsa;subst hsa;rw[kb] at this;exact this
         obtain⟨b,o,sp⟩:=a;simp only at hsa hbl;subst hsa;have:=aV.lst (w:=w) (S:=S) (B:=w.heap.size) .o ls'.length b o len cap ((C5 len).map ys) vs (fun _=>[]) (by simp) hle ⟨hS b hbl,hbl⟩ (fun e=>by cases e)
          (fun j x hj=>by
           have hjl:j<len:=by simpa using(A0.1 hj).1
           refine⟨(hvs j hjl).2.1,fun i u hu=>?_⟩;have:=(hvs j hjl).2.2.2 i u hu;rw[kb] at this;rw[C3];exact this)
          (fun j x hj=>by
           have hjl:j<len:=by simpa using(A0.1 hj).1
           simp only[A5,List.getElem?_range hjl,H8,Option.some.injEq] at hj;subst hj;exact(hvs j hjl).1)
         rw[bA _ _ fun _ _=>rfl,if_neg (by intro e;cases e)] at this;refine .one ⟨_,rfl,by simp;omega,fun x hx=>?_⟩ this rfl;obtain⟨i,hi,rfl⟩:=D0.1 hx;exact(hvs i (by simpa using hi)).2.2.1
      ·cases hl
     ·cases hl
    ·rename_i fs hu;split at hl
     ·rename_i ls' hf;split at hl
      ·rename_i hc;cases hl;obtain⟨xs,n,_,_,hlen,hxs,hat⟩:=DataW.trod_struct hu h;have:=ih2 fs.toList 0 n cs ls hf (fun f hfm=>by
        obtain⟨i,hi,rfl⟩:=F8 hfm;have hi':i<fs.size:=by simpa using hi
        have:=hat i fs[i] (B0 hi');rw[A2 (by omega)] at this;exact⟨_,by simpa using this⟩) (by rw[hlen,hc];omega)
       have e:(cs.drop 0).take ls.length=cs:=by rw[List.drop_zero,<-hc,<-hlen,J8]
       rwa[e] at this
      ·cases hl
     ·cases hl
    ·cases hl
   ·intro fs off fuel cs ls hl hat hle;cases fs with
    |nil=>simp[tj] at hl;subst hl;exact⟨[],by simp[dF],by simp,by simp⟩
    | cons f fs =>
      simp only[tj] at hl;split at hl
      ·rename_i ag' ls' he;split at hl
       ·rename_i hc;obtain⟨c1,c2⟩:=hc;split at hl
        ·rename_i ms hms;cases hl;obtain⟨x,hx⟩:=hat f (by simp);rw[c1,c2] at hx;have r1:=ih1 fuel f.type _ x ag' ls' hx he;have r2:=ih2 fs (off+ls'.length) fuel cs ms hms (fun g hg=>hat g (by simp[hg])) (by simp at hle;omega);have:=r1.append r2;have e:(cs.drop off).take ls'.length++(cs.drop (off+ls'.length)).take ms.length=(cs.drop off).take (ls'++ms).length:=by
          rw[C6,List.take_add,G1]
         rwa[e] at this
        ·cases hl
       ·cases hl
      ·cases hl
def QA(hS:∀b,b<w.heap.size->S b){k:Nat}{t:TypeId}{v:Value}{d:DataW H}{ps:List MemPlace}{ag:Bool}{ls:List Lf}(h:DataW.Trod enc P w base spare held t v d ps)(hl:lfs P k t=some (ag,ls))
 (hag:ag=true->∃cs,v=.agg cs) (hag':ag=false->v.cells=#[v]/\ls.length=1):
 ∃y,aV w S w.heap.size v y []/\(ag=true->∃cs,y=.agg cs/\dF ls cs)/\(ag=false->dF ls [y]):=by
 obtain⟨fuel,h⟩:=h;obtain⟨al,f1,f2,f3⟩:=(qx hS k).1 fuel t _ _ ag ls h hl;cases ag with
 | true =>
   obtain⟨cs,rfl⟩:=hag rfl;simp only[Value.cells] at f2 f3;have:=aV.agg (w:=w) (S:=S) (B:=w.heap.size) cs al (fun _=>[]) (by simpa using f2) (fun x hx=>by
    obtain⟨j,hj,rfl⟩:=Array.mem_iff_getElem.1 hx;have hjl:j<al.length:=by rw[<-f2];simpa using hj
    exact(f3 j cs[j] al[j] (by simp[hj]) (A2 hjl)).2)
    (fun j x hj=>by
     have hjl:j<cs.size:=by have:=(A0.1 hj).1;rw[<-f2] at this;simpa using this
     have e:cs.getD j undef=cs[j]:=by simp[hjl]
     grind)
   rw[bA _ _ fun _ _=>rfl] at this
   grind
 | false =>
   obtain⟨h1,h2⟩:=hag' rfl;rw[h1] at f2 f3
   match al,f2,f1 with
   |[y],_,f1=>exact⟨y,(f3 0 v y rfl rfl).1,(fun e=>by cases e),fun _=>f1⟩
end
end Vs

namespace Vs
open Go Go.RowKit
section
variable{H:Type}{enc:TypeId×Value->H}{P:Program}{w w':World}{base:Nat}{sp:Nat->Bool}{held:Bool}
def pu{fs:Array Field}{t:TypeId}{n:Nat}{cs:List Value}{x:DataW H×List MemPlace}(ht:P.underlying t=some (.struct fs))(h:DataW.trod enc P w base sp held (n+1) t cs=some x):
 ∃xs,fs.toList.mapM (fun f=>DataW.trod enc P w base sp held n f.type ((cs.drop f.offset).take (P.cellsOf f.type)))=some xs/\x=(.agg (xs.map (·.1)),xs.flatMap (·.2))/\cs.length=P.cellsOf t:=by
 unfold DataW.trod at h;rw[ht] at h;split at h<;>simp_all
 grind
theorem Fe:∀(k:Nat),
 (∀(fuel:Nat)(t:TypeId)(cs:List Value)(x:DataW H×List MemPlace)(ag:Bool)(ls:List Lf),DataW.trod enc P w base (fun _=>true) held fuel t cs=some x->lfs P k t=some (ag,ls)->
  (∀p∈x.2,sp p.block=true)->DataW.trod enc P w base sp held fuel t cs=some x)/\
 (∀(fs:List Field)(off fuel:Nat)(cs:List Value)(ls:List Lf)(xs:List (DataW H×List MemPlace)),tj P k off fs=some ls->
  fs.mapM (fun f=>DataW.trod enc P w base (fun _=>true) held fuel f.type ((cs.drop f.offset).take (P.cellsOf f.type)))=some xs->(∀x∈xs,∀p∈x.2,sp p.block=true)->
  fs.mapM (fun f=>DataW.trod enc P w base sp held fuel f.type ((cs.drop f.offset).take (P.cellsOf f.type)))=some xs)
 | 0 => by
   refine⟨fun fuel t cs x ag ls h hl=>by simp[lfs] at hl,fun fs off fuel cs ls xs hl hm _=>?_⟩;cases fs with
   |nil=>simpa using hm
   |cons f fs=>simp[tj] at hl
 | k + 1 => by
   obtain⟨ih1,ih2⟩:=Fe k;constructor
   ·intro fuel t cs x ag ls h hl hs;cases fuel with
    |zero=>simp[DataW.trod] at h
    |succ fuel=>
    simp only[lfs] at hl;split at hl
    ·rename_i hu;obtain⟨b,rfl,rfl⟩:=DataW.trod_bool hu h;simp only[DataW.trod,hu]
    ·rename_i kd hu;obtain⟨n,rfl,rfl,hw⟩:=DataW.trod_int hu h;simp only[DataW.trod,hu];simp[hw]
    ·rename_i hu;obtain⟨z,rfl,rfl,hw⟩:=DataW.trod_string hu h;simp only[DataW.trod,hu];simp[hw]
    ·rename_i e hu;split at hl
     ·rename_i ag' ls' he;split at hl
      ·rename_i hc;obtain⟨c1,c2,c3⟩:=hc;have hcs:cs=[.slice none 0 0]\/∃a len cap,cs=[.slice (some a) len cap]:=by
        rcases Go.Deep.open_slice hu h with⟨e,_⟩|⟨a,len,cap,_,_,_,_,e,_⟩
        ·exact .inl e
        ·exact .inr ⟨a,len,cap,e⟩
       rcases hcs with rfl|⟨a,len,cap,rfl⟩
       ·simp only[DataW.trod,hu] at h⊢;exact h
       ·simp only[DataW.trod,hu] at h⊢;split at h
        ·rename_i hcc;rw[if_pos hcc];simp only[B1,G9,if_true] at h⊢;obtain⟨et,hel,rest,hrest,rfl⟩:=h;have hlen:et.length=len:=by simpa using mapM_some_length hel
         have hrl:rest.length=cap-len:=by simpa using mapM_some_length hrest
         have one:∀(i:Nat)(y:DataW H×List MemPlace),y∈et++rest->
          (w.cells? base (a.add (i*P.cellsOf e)) (P.cellsOf e)).bind (DataW.trod enc P w base (fun _=>true) held fuel e)=some y->
          (w.cells? base (a.add (i*P.cellsOf e)) (P.cellsOf e)).bind (DataW.trod enc P w base sp held fuel e)=some y:=by
          intro i y hy hv;simp only[G9] at hv⊢;obtain⟨cs',h1,h2⟩:=hv;refine⟨cs',h1,ih1 fuel e cs' y ag' ls' h2 he fun p hp=>hs p ?_⟩;simp only[H9,J9];right;exact⟨y,by simpa using hy,hp⟩
         refine⟨et,mapM_carry hel (fun i y hi hy=>one i y (by simp[hy])),rest,?_,rfl⟩;rcases I9 (cap-len) with hz|hz
         ·have:rest=[]:=H0.1 (by omega);subst this;rw[hz];simp
         ·have hsa:sp a.block=true:=by
           refine hs (.cell a.block (a.off+0)) ?_;simp only[H9];left;refine MemPlace.mem_row.2 ⟨0,?_,rfl⟩;rw[hlen,hrl];exact Nat.mul_pos (by omega) (by omega)
          rw[if_pos hsa];exact mapM_carry hrest (fun j y hj hy=>one (len+j) y (by simp[hy]))
        ·cases h
      ·cases hl
     ·cases hl
    ·rename_i fs hu;split at hl
     ·rename_i ls' hf;obtain⟨xs,hmap,rfl,hlen⟩:=pu hu h;exact Go.ChangeShapes.trod_struct_mk hu hlen (ih2 fs.toList 0 fuel cs ls' xs hf hmap fun y hy p hp=>hs p (J9.2 ⟨y,hy,hp⟩))
     ·cases hl
    ·cases hl
   ·intro fs off fuel cs ls xs hl hm hs;cases fs with
    |nil=>simpa using hm
    | cons f fs =>
      simp only[tj] at hl;split at hl
      ·rename_i ag' ls' he;split at hl
       ·split at hl
        ·rename_i ms hms;rw[List.mapM_cons] at hm⊢;cases hx:DataW.trod enc P w base (fun _=>true) held fuel f.type ((cs.drop f.offset).take (P.cellsOf f.type)) with
         |none=>simp[hx] at hm
         | some y =>
           cases hys:fs.mapM (fun f=>DataW.trod enc P w base (fun _=>true) held fuel f.type ((cs.drop f.offset).take (P.cellsOf f.type))) with
           |none=>simp[hx,hys] at hm
           | some ys =>
             simp[hx,hys] at hm;subst hm;rw[ih1 fuel f.type _ y ag' ls' hx he (fun p hp=>hs y (by simp) p hp),ih2 fs _ fuel cs ms ys hms hys (fun z hz p hp=>hs z (by simp[hz]) p hp)];rfl
        ·cases hl
       ·cases hl
      ·cases hl
def rr(s:Bool×List Lf)(y:AV):Prop:=(s.1=true->∃cs,y=.agg cs/\dF s.2 cs)/\(s.1=false->dF s.2 [y])
def pC:List (Bool×List Lf)->List AV->Prop
 |[],[]=>True
 |s::ss,y::ys=>rr s y/\pC ss ys
 |_,_=>False
def mb(P:Program)(k:Nat):List TypeId->Option (List (Bool×List Lf))
 |[]=>some []
 | t :: ts => match lfs P k t, mb P k ts with
   |some s,some ss=>some (s::ss)
   |_,_=>none
def vp{k b:Nat}{t:TypeId}{v:Value}{ag:Bool}{ls:List Lf}(hl:lfs P k t=some (ag,ls))(h:Value.okWide P w .any b t v):
 (ag=true->∃cs,v=.agg cs)/\(ag=false->v.cells=#[v]/\ls.length=1):=by
 cases k with
 |zero=>simp[lfs] at hl
 | succ k =>
   simp only[lfs] at hl;unfold Value.okWide at h;split at hl
   ·rename_i hu;cases hl;rw[hu] at h;simp only at h;refine⟨(fun e=>by cases e),fun _=>⟨?_,rfl⟩⟩;unfold Cell.okWide Cell.ok at h;rw[hu] at h;cases v<;>first|rfl|simp at h
   ·rename_i kd hu;cases hl;rw[hu] at h;simp only at h;refine⟨(fun e=>by cases e),fun _=>⟨?_,rfl⟩⟩;unfold Cell.okWide Cell.ok at h;rw[hu] at h;cases v<;>first|rfl|simp at h
   ·rename_i hu;cases hl;rw[hu] at h;simp only at h;refine⟨(fun e=>by cases e),fun _=>⟨?_,rfl⟩⟩;unfold Cell.okWide Cell.ok at h;rw[hu] at h;cases v<;>first|rfl|simp at h
   ·rename_i e hu;split at hl
    ·split at hl
     ·cases hl;rw[hu] at h;simp only at h;refine⟨(fun e=>by cases e),fun _=>⟨?_,rfl⟩⟩;unfold Cell.okWide Cell.ok at h;rw[hu] at h;cases v<;>first|rfl|simp at h
     ·cases hl
    ·cases hl
   ·grind
   ·cases hl
theorem xy{S:Nat->Prop}{k b0:Nat}(hS:∀b,b<w.heap.size->S b):∀{ts:List TypeId}{vs:List Value}{ds:List (DataW H)}{ps:List MemPlace}{ss:List (Bool×List Lf)},DataW.TrodAll enc P w base sp held ts vs ds ps->mb P k ts=some ss->
 (∀(j:Nat) t v,ts[j]?=some t->vs[j]?=some v->Value.okWide P w .any b0 t v)->
 ∃ys,pC ss ys/\ys.length=vs.length/\∀(j:Nat)(v:Value)(y:AV),vs[j]?=some v->ys[j]?=some y->aV w S w.heap.size v y []
 | [], [], [], ps, ss, _, hl, _ => by
   simp[mb] at hl;subst hl;exact⟨[],trivial,rfl,by simp⟩
 | t :: ts, v :: vs, d :: ds, ps, ss, h, hl, hok => by
   obtain⟨p,q,h1,h2,_⟩:=h;simp only[mb] at hl;split at hl
   ·rename_i s ss' e1 e2;cases hl;obtain⟨ag,ls⟩:=s;obtain⟨c1,c2⟩:=vp e1 (hok 0 t v rfl rfl);obtain⟨y,r1,r2,r3⟩:=QA hS h1 e1 c1 c2;obtain⟨ys,f1,f2,f3⟩:=xy hS h2 e2 fun j t v ht hv=>hok (j+1) t v (by simpa using ht) (by simpa using hv);refine⟨y::ys,⟨⟨r2,r3⟩,f1⟩,by simp[f2],fun j u z hu hz=>?_⟩
    grind
   ·cases hl
 |[],_::_,_,_,_,h,_,_=>by simp[DataW.TrodAll] at h
 |[],[],_::_,_,_,h,_,_=>by simp[DataW.TrodAll] at h
 |_::_,[],_,_,_,h,_,_=>by simp[DataW.TrodAll] at h
 |_::_,_::_,[],_,_,h,_,_=>by simp[DataW.TrodAll] at h
theorem tZ{k:Nat}:∀{ts:List TypeId}{vs:List Value}{ds:List (DataW H)}{ps:List MemPlace}{ss:List (Bool×List Lf)},DataW.TrodAll enc P w base (fun _=>true) held ts vs ds ps->mb P k ts=some ss->
 (∀p∈ps,w.sameAt w' p)->(∀p∈ps,sp p.block=true)->DataW.TrodAll enc P w' base sp held ts vs ds ps
 |[],[],[],ps,ss,h,_,_,_=>h
 | t :: ts, v :: vs, d :: ds, ps, ss, h, hl, hs, hsp => by
   obtain⟨p,q,⟨fuel,h1⟩,h2,rfl⟩:=h;simp only[mb] at hl;split at hl
   ·rename_i s ss' e1 e2;exact⟨p,q,⟨fuel,DataW.trod_carry fuel t _ _ ((Fe k).1 fuel t _ _ s.1 s.2 h1 e1 fun x hx=>hsp x (by simp_all)) fun x hx=>hs x (by simp_all)⟩,
     tZ h2 e2 (fun x hx=>hs x (by simp[hx])) (fun x hx=>hsp x (by simp[hx])),rfl⟩
   ·cases hl
 |[],_::_,_,_,_,h,_,_,_=>by simp[DataW.TrodAll] at h
 |[],[],_::_,_,_,h,_,_,_=>by simp[DataW.TrodAll] at h
 |_::_,[],_,_,_,h,_,_,_=>by simp[DataW.TrodAll] at h
 |_::_,_::_,[],_,_,h,_,_,_=>by simp[DataW.TrodAll] at h
def IK{f:Func}{s:ChangeSpec}{apart fresh handsOn again:Bool}{W W':World}{args:Array Value}{v:Value}{ds gs:List (DataW H)}{before pa pv:List MemPlace}
 (hW:DataW.Whole enc P f.params.toList s.vars apart W args.toList ds gs before)
 (hres:∀(b:Nat)(sp:Nat->Bool)(hd:Bool),DataW.TrodAll enc P W' b sp hd f.resultTypes.toList (v.resultList f.resultTypes.size) (s.fn H (ds++gs)).results [])
 (hargs:∀sp:Nat->Bool,(∀p∈before,sp p.block=true)->DataW.TrodAll enc P W' 0 sp true f.params.toList args.toList (s.fn H (ds++gs)).args pa)
 (hvars:∀sp:Nat->Bool,(∀p∈before,sp p.block=true)->DataW.TrodVars enc P W' sp s.vars (s.fn H (ds++gs)).vars pv)
 (hps:before=pa++pv) (hk:W.keptBut W' (·∈before)) (hfz:∀a:Addr,a.block<W.heap.size->W'.frozen? a=W.frozen? a)
 (hok:∀(j:Nat)(t:TypeId)(r:Value),f.resultTypes[j]?=some t->(v.resultList f.resultTypes.size)[j]?=some r->Value.okWide P W' .any 0 t r):
 s.post enc P f apart fresh handsOn again W args v W':=by
 have hold:∀p∈before,(fun b=>decide (b<W.heap.size)) p.block=true:=fun p hp=>by simpa using hW.lt p hp
 have hlt:=hW.lt;refine⟨ds,gs,before,[],pa,pv,hW,hres _ _ _,hargs _ hold,hvars _ hold,World.keptBut_mono (fun p hp=>⟨hp,?_⟩) hk,fun _=>?_⟩
 ·simp_all
 ·obtain⟨_,_,_,_,_,hz,hn⟩:=hW;refine⟨hok,_,_,([]++pa)++pv,⟨[]++pa,pv,Go.ChangeShapes.trodAll_append (hargs _ (fun _ _=>rfl)) (hres _ _ _),hvars _ (fun _ _=>rfl),rfl,?_,?_⟩,?_⟩
  ·intro b off hp;have hp':MemPlace.cell b off∈before:=by rw[hps];simpa using hp
   rw[hfz _ (hlt _ hp')];exact hz b off hp'
  ·simp_all
  simp_all
def law_calls{f k b0:Nat}{fn:Func}{s:ChangeSpec}{tb:TypeId}{ss:List (Bool×List Lf)}{again:Bool}{apart fresh:Bool}(hvars:s.vars=[])
 (hfn:∀ds:List (DataW H),ds.length=fn.params.size->s.fn H ds={results:=[.lit (.bool true)],args:=ds}) (hres:fn.resultTypes=#[tb]) (htb:P.underlying tb=some .bool) (hsh:mb P k fn.params.toList=some ss)
 (hok:∀ys,pC ss ys->Ok P f ys (.b true)) {args:Array Value} {ds gs:List (DataW H)} {before:List MemPlace}
 (hval:∀(j:Nat) t v,fn.params[j]?=some t->args[j]?=some v->Value.okWide P w .any b0 t v)
 (hW:DataW.Whole enc P fn.params.toList s.vars apart w args.toList ds gs before):
 Calls P f args w fun e W'=>∃v,e=.returned v/\s.post enc P fn apart fresh false again w args v W':=by
 have hW':=hW;have hlt:=hW.lt;obtain⟨p,q,hA,hV,rfl,hfz,hnd⟩:=hW;rw[hvars] at hV;obtain⟨rfl,rfl⟩:=Go.ChangeShapes.trodVars_none hV;obtain⟨ys,f1,f2,f3⟩:=xy (S:=fun b=>b<w.heap.size) (k:=k) (b0:=b0) (fun b hb=>hb) hA hsh (fun j t v ht hv=>hval j t v (by simpa using ht) (by simpa using hv));have hlen:∀{ts:List TypeId}{vs:List Value}{ds:List (DataW H)}{ps:List MemPlace},DataW.TrodAll enc P w 0 (fun _=>true) true ts vs ds ps->ds.length=ts.length:=by
  intro ts;induction ts with
  |nil=>intro vs ds ps h;cases vs<;>cases ds<;>simp_all [DataW.TrodAll]
  | cons t ts ih =>
    intro vs ds ps h;cases vs<;>cases ds<;>simp only[DataW.TrodAll] at h;obtain⟨_,_,_,h2,_⟩:=h;simp[ih h2]
 have hdl:=hlen hA;refine((hok ys f1).2 w (fun b=>b<w.heap.size) args (fun b hb=>hb) (by simpa using f2.symm) (fun j x hj=>?_) fun _ _=>trivial).mono ?_
 ·have hjl:j<args.size:=by rw[<-E5,<-f2];exact(A0.1 hj).1
  have e:args.getD j undef=args[j]:=by simp[hjl]
  rw[e];exact f3 j _ x (by simp[hjl]) hj
 ·rintro e W' ⟨v,fp,S',rfl,hbel,_,_,hr⟩;have hv:v=.bool true:=by cases hr;rfl
  subst hv;refine⟨_,rfl,?_⟩;have hfd:=hfn (ds++[]) (by simpa using hdl);refine IK (pa:=p) (pv:=[]) hW' (fun b sp' hd=>?_) (fun sp' hsp=>?_) (fun sp' _=>?_) rfl (hbel.bel.frame _) hbel.frz (ok_one hres rfl (okWide_bool_mk htb _))
  ·rw[hfd,hres];exact⟨[],[],shut_bool htb _,rfl,rfl⟩
  ·rw[hfd];simp only[I0];exact tZ hA hsh (fun x hx=>hbel.bel.same (hlt x (by simp[hx]))) (fun x hx=>hsp x (by simp[hx]))
  ·rw[hfd,hvars];rfl
end
end Vs

namespace Vs
open Go
variable{α:Type}{lr:List Nat}{S:Type}{lv:List Nat}{sh:S->St}{a:ar}{σ:St}{id:Nat}{B:Type}{Q:Ex->St->Prop}{s:S}{q:B->Ex->St->Prop}{xs:List α}{o:S⊕B}{x:α}{β:Type}{c:Bool}{y z:α}{i:Int}{ys:List α}{τ:St}{outs:List (Nat×Row)}
def Zt(n:Nat):X:=.t n
def Zm(d a:Nat):bn:=⟨some d,.mv (.t a),none⟩
def Zn(d:Nat)(a:Int):bn:=⟨some d,.mv (.c (.i a)),none⟩
def Zl(d a:Nat):bn:=⟨some d,.load 1 false (.t a),none⟩
def Za(d k a:Nat):bn:=⟨some d,.fad k (.t a),none⟩
def Zx(d k a b:Nat):bn:=⟨some d,.idx k (.t a) (.t b),none⟩
def Zk(d a:Nat):bn:=⟨some d,.len (.t a),none⟩
def Zb(d:Nat)(op:BinOp)(a b:Nat):bn:=⟨some d,.bin op (.t a) (.t b),none⟩
def Zd(d:Nat)(op:BinOp)(a:Nat)(b:Int):bn:=⟨some d,.bin op (.t a) (.c (.i b)),none⟩
def Ze(d a k:Nat):bn:=⟨some d,.ext (.t a) k,none⟩
def Zo(d:Nat)(op:AOp):bn:=⟨some d,op,none⟩
def Zg(d:Nat)(op:AOp)(q:Nat)(b:Bool):bn:=⟨some d,op,some (q,b)⟩
def Zw(op:AOp):bn:=⟨none,op,none⟩
def Zv(d k a:Nat):bn:=⟨some d,.load k true (.t a),none⟩
def Zs(l:List bn)(x:ar):ar:=.seq (.reg l []) x
def Zy(b:Bool):X:=.c (.b b)
def Zh(d:Nat)(b:Bool):bn:=⟨some d,.mv (.c (.b b)),none⟩
instance(n:Nat):OfNat X n:=⟨.t n⟩
theorem ZC:(∀n,Zt n=.t n)/\(∀d a,Zm d a=⟨some d,.mv (.t a),none⟩)/\(∀d a,Zn d a=⟨some d,.mv (.c (.i a)),none⟩)/\(∀d a,Zl d a=⟨some d,.load 1 false (.t a),none⟩)/\(∀d k a,Za d k a=⟨some d,.fad k (.t a),none⟩)/\
 (∀d k a b,Zx d k a b=⟨some d,.idx k (.t a) (.t b),none⟩)/\(∀d a,Zk d a=⟨some d,.len (.t a),none⟩)/\(∀d op a b,Zb d op a b=⟨some d,.bin op (.t a) (.t b),none⟩)/\
 (∀d op a b,Zd d op a b=⟨some d,.bin op (.t a) (.c (.i b)),none⟩)/\(∀d a k,Ze d a k=⟨some d,.ext (.t a) k,none⟩)/\(∀d op,Zo d op=⟨some d,op,none⟩)/\(∀d op q b,Zg d op q b=⟨some d,op,some (q,b)⟩)/\(∀op,Zw op=⟨none,op,none⟩)/\
 (∀d k a,Zv d k a=⟨some d,.load k true (.t a),none⟩)/\(∀l x,Zs l x=.seq (.reg l []) x)/\(∀b,Zy b=.c (.b b))/\(∀d b,Zh d b=⟨some d,.mv (.c (.b b)),none⟩)/\(∀n:Nat,(no_index (OfNat.ofNat n):X)=.t n):=
 ⟨fun _=>rfl,fun _ _=>rfl,fun _ _=>rfl,fun _ _=>rfl,fun _ _ _=>rfl,fun _ _ _ _=>rfl,fun _ _=>rfl,fun _ _ _ _=>rfl,fun _ _ _ _=>rfl,fun _ _ _=>rfl,fun _ _=>rfl,fun _ _ _ _=>rfl,fun _=>rfl,fun _ _ _=>rfl,fun _ _=>rfl,fun _=>rfl,fun _ _=>rfl,fun _=>rfl⟩
def amb{α:Type}[DecidableEq α](a b:Option α):Option α:=if a=b then a else none
def afr[DecidableEq α]{a b:Option α}{r:α}(h:amb a b=some r):a=some r:=by
 unfold amb at h;split at h
 ·exact h
 ·cases h
def afq[DecidableEq α]{a b:Option α}{r:α}(h:amb a b=some r):b=some r:=by
 unfold amb at h;split at h
 ·rename_i e;rw[<-e];exact h
 ·cases h
def OE(f:α->β)(xs ys:List α)(i:Nat):en (xs.map f) i (ys.map f)=(en xs i ys).map f:=by
 unfold en;simp only[A7];split
 ·simp
 ·rfl
def ov(xs ys:List α)(i:Nat):(en xs i ys).length=xs.length:=by
 unfold en;split
 ·simp;omega
 ·rfl
section
variable{ok:Oks}
def Qw{x:AV}{A B A' B':Prop}(h:tst x A B)(ha:A->A')(hb:B->B'):tst x A' B':=by
 unfold tst at h;split at h
 ·exact⟨fun e=>ha (h.1 e),fun e=>hb (h.2 e)⟩
 ·exact⟨ha h.1,hb h.2⟩
 ·exact h.elim
theorem ik{K K':St->Prop}(hk:∀τ,K τ->K' τ):∀(os:List bn)(σ:St),dS ok os K σ->dS ok os K' σ
 |[],σ,h=>hk σ h
 | o :: os, σ, h => by
   have ih:=ik hk os;simp only[dS,abm] at h⊢;have go:∀υ,Bh ok o.d o.op (dS ok os K) υ->Bh ok o.d o.op (dS ok os K') υ:=fun υ h=>
    (Er o.op).mono h fun v u h=>ih _ h
   cases hg:o.gd with
   |none=>rw[hg] at h;exact go σ h
   | some p =>
     obtain⟨s,b⟩:=p;rw[hg] at h;simp only[fB] at h;split at h
     ·rename_i t e;simp only[e,fB];exact⟨fun e=>go _ (h.1 e),fun e=>ih _ (h.2 e)⟩
     ·rename_i e;simp only[e,fB];exact ih _ h
     ·exact h.elim
theorem RU{K K':St->Prop}(hk:∀τ,K τ->K' τ):∀(h:HOp)(σ:St),stH ok h K σ->stH ok h K' σ
 | .inn t n k x mids d f xs, σ, h => by
   simp only[stH] at h⊢;unfold Pf at h⊢;split at h
   case h_2=>exact h.elim
   rename_i r i off e;unfold Pe at h⊢;split at h
   case h_2=>exact h.elim
   refine⟨h.1,rL h.2 fun y h=>rL h fun p h=>?_⟩;unfold MM at h⊢;split at h
   case h_2=>exact h.elim
   obtain⟨h1,h2,h3,h4,v,ys',h5,h6,h7⟩:=h;exact⟨h1,h2,h3,h4,v,ys',h5,h6,rL h7 fun z h=>hk _ h⟩
 | .har d f xs rs, σ, h => by
   simp only[stH] at h⊢;obtain⟨h1,res,outs,h2,h3,h4,h5⟩:=h;exact⟨h1,res,outs,h2,h3,h4,hk _ h5⟩
theorem bQ:∀(ac:ar){Q Q':Ex->St->Prop}{σ:St},AWP ok ac Q σ->(∀e τ,Q e τ->Q' e τ)->AWP ok ac Q' σ
 | .skip,_,_,_,h,hq=>hq _ _ h
 | .reg ops can, _, _, _, h, hq => by
   simp only[AWP] at h⊢;exact ik (fun τ h=>hq _ _ h) _ _ h
 | .drw ops can, _, _, _, h, hq => by
   simp only[AWP] at h⊢;exact ik (fun τ h=>hq _ _ h) _ _ h
 | .regh pre hh post can, _, _, _, h, hq => by
   simp only[AWP] at h⊢;exact ik (fun τ h=>RU (fun υ h=>ik (fun τ h=>hq _ _ h) _ _ h) hh τ h) _ _ h
 | .seq a b, _, _, _, h, hq => by
   simp only[AWP] at h⊢;refine bQ a h fun e τ h=>?_;cases e with
   |nrm=>exact bQ b h hq
   |ex id=>exact hq _ _ h
   |ret=>exact hq _ _ h
 | .seqr a lv lr b, _, _, _, h, hq => by
   simp only[AWP] at h⊢;refine bQ a h fun e τ h=>?_;cases e with
   |nrm=>exact⟨h.1,bQ b h.2 hq⟩
   |ex id=>exact hq _ _ h
   |ret=>exact hq _ _ h
 | .seqa x a lv lr b, _, _, _, h, hq => by
   simp only[AWP] at h⊢;refine bQ x h fun e τ h=>?_;cases e with
   | nrm =>
     refine bQ a h fun e τ h=>?_;cases e with
     |nrm=>exact⟨h.1,bQ b h.2 hq⟩
     |ex id=>exact hq _ _ h
     |ret=>exact hq _ _ h
   |ex id=>exact hq _ _ h
   |ret=>exact hq _ _ h
 | .seqb a lv b, _, _, _, h, hq => by
   simp only[AWP] at h⊢;refine bQ a h fun e τ h=>?_;cases e with
   |nrm=>exact bQ b h fun e τ h=>hq _ _ h
   |ex id=>exact hq _ _ h
   |ret=>exact hq _ _ h
 | .cond x a b, _, _, _, h, hq => by
   simp only[AWP] at h⊢;exact Qw h (fun h=>bQ a h hq) (fun h=>bQ b h hq)
 | .blk id a, _, _, _, h, hq => by
   simp only[AWP] at h⊢;refine bQ a h fun e τ h=>?_;cases e with
   |nrm=>exact hq _ _ h
   | ex j =>
     simp only[inb] at h⊢;split
     ·rename_i e;rw[if_pos e] at h;exact hq _ _ h
     ·rename_i e;rw[if_neg e] at h;exact hq _ _ h
   |ret=>exact hq _ _ h
 | .loop a, _, _, _, h, hq => by
   simp only[AWP] at h⊢;obtain⟨lv,lr,I,μ,h1,h2,h3⟩:=h;refine⟨lv,lr,I,μ,h1,h2,fun τ hI=>bQ a (h3 τ hI) fun e τ h=>?_⟩;cases e with
   |nrm=>exact h
   |ex id=>exact hq _ _ h
   |ret=>exact hq _ _ h
 | .exit id,_,_,_,h,hq=>by simp only[AWP] at h⊢;exact hq _ _ h
 | .ret,_,_,_,h,hq=>by simp only[AWP] at h⊢;exact hq _ _ h
def aW{S B:Type}(f:S->Option (S⊕B)):Nat->S->Option B
 |0,_=>none
 | n + 1, s => match f s with
   |none=>none
   |some (.inl s')=>aW f n s'
   |some (.inr b)=>some b
def Shp{S:Type}(lv lr:List Nat)(sh:S->St)(v:S)(τ:St):Prop:=τ.resOk lv lr/\τ.res lv lr=sh v
def qX{S:Type}(id:Nat)(lv lr:List Nat)(sh:S->St)(v:S)(e:Ex)(τ:St):Prop:=e=.ex id/\Shp lv lr sh v τ
def qR{R:Type}(V:List RV)(emb:R->AV)(r:R)(e:Ex)(τ:St):Prop:=e=.ret/\fin V (emb r) .ret τ
def qM{R:Type}(V:List RV)(lr:List Nat)(emb:R->AV)(out:R->List (Nat×Row))(r:R)(e:Ex)(τ:St):Prop:=e=.ret/\th V lr (emb r) (out r) .ret τ
theorem bC(rs:List RV)(lr:List Nat)(res:AV)(outs:List (Nat×Row))(σ:St):th rs lr res outs .ret σ=opt (RVs.val σ rs) fun xs=>hJ xs=res/\σ.resOk [] lr/\(∀r∈res.ments,r∈lr)/\(σ.res [] lr).rows=outs:=by
 simp only[th,opt];cases RVs.val σ rs<;>simp
theorem bB(rs:List RV)(lr:List Nat)(res:AV)(outs:List (Nat×Row))(σ:St):th rs lr res outs .nrm σ=opt (RVs.val σ rs) fun xs=>hJ xs=res/\σ.resOk [] lr/\(∀r∈res.ments,r∈lr)/\(σ.res [] lr).rows=outs:=by
 simp only[th,opt];cases RVs.val σ rs<;>simp
theorem du(P:Program):(OkS P).p=Ok P:=rfl
theorem dr(P:Program):(OkS P).m=OkM P:=rfl
theorem dq(P:Program):(OkS P).h=OkH P:=rfl
def qS{A B:Type}(q:A->Ex->St->Prop)(q':B->Ex->St->Prop):A⊕B->Ex->St->Prop
 | .inl a=>q a
 | .inr b=>q' b
def qL{S B:Type}(lv lr:List Nat)(sh:S->St)(q:B->Ex->St->Prop):S⊕B->Ex->St->Prop
 | .inl s,e,τ=>e=.nrm/\Shp lv lr sh s τ
 | .inr b,e,τ=>e≠.nrm/\q b e τ
def qJ{S B:Type}(lv lr:List Nat)(sh:S->St)(q:B->Ex->St->Prop):S⊕B->Ex->St->Prop
 | .inl s,e,τ=>e=.nrm/\Shp lv lr sh s τ
 | .inr b,e,τ=>e≠.nrm/\q b e τ
def qJ0{S:Type}(lv lr:List Nat)(sh:S->St)(s:S)(e:Ex)(τ:St):Prop:=e=.nrm/\Shp lv lr sh s τ
def aJ{f:S->Option (S⊕B)}
 (hb:∀s o,f s=some o->AWP ok a (qL lv lr sh q o) (sh s)) {n:Nat} {s0:S} {b:B} (h:aW f n s0=some b) {σ:St} (hs:Shp lv lr sh s0 σ):AWP ok (.loop a) (q b) σ:=by
 classical
 let p:St->Nat->Prop:=fun τ m=>∃s,τ=sh s/\aW f m s=some b;refine PW lv lr (fun τ=>∃m,p τ m) (fun τ=>if h:∃m,p τ m then Classical.choose (ox h) else 0) hs.1 ⟨n,s0,hs.2,h⟩ ?_;intro τ hI;simp only[dif_pos hI];obtain⟨hp,hmin⟩:=Classical.choose_spec (ox hI);generalize Classical.choose (ox hI)=m at hp hmin;obtain⟨s,rfl,hit⟩:=hp;cases m with
 |zero=>cases hit
 | succ m =>
   simp only[aW] at hit;cases hf:f s with
   |none=>rw[hf] at hit;cases hit
   | some o =>
     refine bQ a (hb s o hf) fun e τ' hq=>?_;rw[hf] at hit;cases o with
     | inl s' =>
       obtain⟨rfl,h1,h2⟩:=hq;have hI2:∃k,p (τ'.res lv lr) k:=⟨m,s',h2,hit⟩;refine⟨h1,hI2,?_⟩;simp only[dif_pos hI2];obtain⟨_,hmin2⟩:=Classical.choose_spec (ox hI2);have:=hmin2 m ⟨s',h2,hit⟩;omega
     | inr b' =>
       obtain⟨h1,h2⟩:=hq;simp only[Option.some.injEq] at hit;subst hit;cases e with
       |nrm=>exact(h1 rfl).elim
       |ex id=>exact h2
       |ret=>exact h2
def bW{b:ar}
 (ha:AWP ok a (qJ lv lr sh q o) σ) (hb:∀s,o=.inl s->AWP ok b Q (sh s)) (hx:∀x,o=.inr x->∀e τ,e≠.nrm->q x e τ->Q e τ):AWP ok (.seqr a lv lr b) Q σ:=by
 simp only[AWP];refine bQ a ha fun e τ h=>?_;cases o with
 | inl s =>
   obtain⟨rfl,h1,h2⟩:=h;exact⟨h1,h2▸hb s rfl⟩
 | inr x =>
   obtain⟨h1,h2⟩:=h;cases e with
   |nrm=>exact(h1 rfl).elim
   |ex id=>exact hx x rfl _ _ h1 h2
   |ret=>exact hx x rfl _ _ h1 h2
def aD{b:ar}
 (ha:AWP ok a (qJ0 lv lr sh s) σ) (hb:AWP ok b Q (sh s)):AWP ok (.seqr a lv lr b) Q σ:=by
 simp only[AWP];refine bQ a ha fun e τ h=>?_;obtain⟨rfl,h1,h2⟩:=h;exact⟨h1,h2▸hb⟩
def co(hq:∀b e τ,q b e τ->e≠.nrm/\e≠.ex id)
 (ha:AWP ok a (qS (qX id lv lr sh) q o) σ):AWP ok (.blk id a) (qJ lv lr sh q o) σ:=by
 simp only[AWP];refine bQ a ha fun e τ h=>?_;cases o with
 | inl s =>
   obtain⟨rfl,h1⟩:=h;simp only[inb,if_true];exact⟨rfl,h1⟩
 | inr x =>
   have:=hq x e τ h;cases e with
   |nrm=>exact(this.1 rfl).elim
   | ex j =>
     simp only[inb];rw[if_neg fun e=>this.2 (by rw[e])];exact⟨this.1,h⟩
   |ret=>exact⟨this.1,h⟩
def bb(ha:AWP ok a (qX id lv lr sh s) σ):AWP ok (.blk id a) (qJ0 lv lr sh s) σ:=by
 simp only[AWP];refine bQ a ha fun e τ h=>?_;obtain⟨rfl,h1⟩:=h;simp only[inb,if_true];exact⟨rfl,h1⟩
def ah{m:Option α}{f:α->Option β}{r:β}(h:m.bind f=some r):∃x,m=some x/\f x=some r:=by
 cases m with
 |none=>cases h
 |some x=>exact⟨x,rfl,h⟩
def aw(h:cond c x y=z):(c=true/\x=z)\/(c=false/\y=z):=by
 cases c
 ·exact .inr ⟨rfl,h⟩
 ·exact .inl ⟨rfl,h⟩
def bE{α:Type}(xs:List α)(i:Int):Option α:=if 0<=i then xs[i.toNat]? else none
def bc(h:bE xs i=some x):0<=i/\xs[i.toNat]?=some x:=by
 unfold bE at h;split at h
 ·exact⟨‹_›,h⟩
 ·cases h
def grd(p:Prop)[Decidable p]:Option Unit:=if p then some () else none
def ba{p:Prop}[Decidable p]{u:Unit}(h:grd p=some u):p:=by
 unfold grd at h;split at h
 ·assumption
 ·cases h
def bnd{α β:Type}(a:α)(f:α->Option β):Option β:=f a
def bf{a:α}{f:α->Option β}{r:β}(h:bnd a f=some r):∃x,a=x/\f x=some r:=⟨a,rfl,h⟩
def bt(c:Bool):c=true\/c=false:=by cases c<;>simp
def wn(s:ByteArray)(i:Int):Option UInt8:=if 0<=i then s[i.toNat]? else none
def aan{s:ByteArray}{x:UInt8}(h:wn s i=some x):0<=i/\s[i.toNat]?=some x:=by
 unfold wn at h;split at h
 ·exact⟨‹_›,h⟩
 ·cases h
def N0:Nat:=2^64
def gw{α:Type}(es:List α)(i n:Nat):List α:=if i=0/\n=es.length then es else(es.drop i).take n
def dH(f:α->AV)(xs:List α)(i n:Nat):sub (xs.map f) i n=(gw xs i n).map f:=by
 unfold sub gw;simp only[A7];split
 ·rfl
 ·rw[List.map_take,List.map_drop]
theorem dE(xs:List α):gw xs 0 xs.length=xs:=by simp[gw]
def nC(f:α->AV){n:Nat}(h:n=xs.length):sub (xs.map f) 0 n=xs.map f:=by rw[dH,h,dE]
def slT{α:Type}(xs:List α)(hi:Int):Option (List α):=if 0<=hi/\hi.toNat<=xs.length then some (xs.take hi.toNat) else none
def slB{α:Type}(xs:List α)(lo hi:Int):Option (List α):=if 0<=lo/\0<=hi/\lo.toNat<=hi.toNat/\hi.toNat<=xs.length then some ((xs.drop lo.toNat).take (hi.toNat-lo.toNat)) else none
def iU(xs:List α)(i n:Nat):gw xs i n=(xs.drop i).take n:=by
 unfold gw;split
 ·rename_i h;rw[h.1,h.2];simp
 ·rfl
def Ed(f:α->AV){hi:Int}(h:slT xs hi=some ys):True/\0<=hi/\True/\hi.toNat<=xs.length/\sub (xs.map f) 0 hi.toNat=ys.map f:=by
 unfold slT at h;split at h
 ·rename_i e;cases h;exact⟨trivial,e.1,trivial,e.2,by rw[dH,iU];simp⟩
 ·cases h
theorem Shp.sub{S':Type}{lv' lr':List Nat}{sh':S'->St}{s':S'}(h:Shp lv lr sh s τ)
 (h1:∀k∈lv',k∈lv) (h2:∀r∈lr',r∈lr) (h3:(sh s).resOk lv' lr'/\(sh s).res lv' lr'=sh' s'):Shp lv' lr' sh' s' τ:=by
 obtain⟨_,he⟩:=h;have cr:∀{α:Type}(g:Nat->α)(k:Nat)(l:List Nat),k∈l->aC k (l.map fun j=>(j,g j))=some (g k):=by
  intro α g k l hk;rw[gO,if_pos hk]
 have hg:∀k∈lv,(sh s).get k=τ.get k:=by
  intro k hk;rw[<-he];simp only[St.get,St.res,cr _ k lv hk,F3]
 have hr:∀r∈lr,((sh s).row r).getD .dead=(τ.row r).getD .dead:=by
  intro r hk;rw[<-he];simp only[St.row,St.res,cr _ r lr hk,F3]
 obtain⟨⟨a,b,c⟩,d⟩:=h3;refine⟨⟨fun k hk r hr'=>a k hk r (by rw[hg k (h1 k hk)];exact hr'),fun q hq r hr'=>b q hq r (by rw[hr q (h2 q hq)];exact hr'),c⟩,?_⟩;rw[<-d];simp only[St.res,St.mk.injEq];exact⟨D5 fun k hk=>by rw[hg k (h1 k hk)],D5 fun r hk=>by rw[hr r (h2 r hk)]⟩
def nL
 (ha:AWP ok a (qJ lv lr sh q o) σ) (hn:∀s,o=.inl s->∀τ,Shp lv lr sh s τ->Q .nrm τ) (hx:∀x,o=.inr x->∀e τ,e≠.nrm->q x e τ->Q e τ):AWP ok a Q σ:=by
 refine bQ a ha fun e τ h=>?_;cases o with
 |inl s=>obtain⟨rfl,h⟩:=h;exact hn s rfl τ h
 |inr x=>exact hx x rfl e τ h.1 h.2
def dz
 (ha:AWP ok a (qJ0 lv lr sh s) σ) (hn:∀τ,Shp lv lr sh s τ->Q .nrm τ):AWP ok a Q σ:=by
 refine bQ a ha fun e τ h=>?_;obtain⟨rfl,h⟩:=h;exact hn τ h
def qt:List Nat->Bool
 |[]=>true
 |x::xs=>!(xs.any fun y=>Nat.beq x y)&&qt xs
def YH(rs ns:List Nat):Bool:=qt (ns.map fun q=>rs.getD (q-1000000000) 0)&&ns.all fun q=>Nat.ble 1000000000 q&&L3 (q-1000000000) rs.length
theorem kv:∀{l:List Nat},qt l=true->l.Nodup
 |[],_=>I3
 | x :: xs, h => by
   simp only[qt,A1,E9,J1,Nat.beq_eq] at h;exact List.nodup_cons.2 ⟨fun hx=>h.1 x hx rfl,kv h.2⟩
def zC{ρ:Nat->Option Row}{d:Nat}{rs:List Nat}(ns:List Nat)(hn:outs.map (·.1)=ns)(h:YH rs ns=true):
 (outs.map fun p=>bkn d rs p.1).Nodup/\(∀p∈outs,1000000000<=p.1->p.1-1000000000<rs.length)/\(∀p∈outs,p.1<1000000000->ρ (bkn d rs p.1)=none/\bkn d rs p.1<1000000000):=by
 subst hn;unfold YH at h;simp only[A1,B2,D0,forall_exists_index,and_imp,H6] at h;obtain⟨h1,h2⟩:=h;have hb:∀p∈outs,1000000000<=p.1/\p.1-1000000000<rs.length:=fun p hp=>by
  have:=h2 p.1 p hp rfl;exact⟨C7 this.1,C7 this.2⟩
 refine⟨?_,fun p hp _=>(hb p hp).2,fun p hp hlt=>absurd (hb p hp).1 (by omega)⟩;have e:(outs.map fun p=>bkn d rs p.1)=outs.map ((fun q=>rs.getD (q-1000000000) 0)∘fun x=>x.1):=D5 fun p hp=>by
  simp only[bkn,if_pos (hb p hp).1,Function.comp]
 rw[e];exact kv h1
def Pg(d:Nat)(rs ns ks:List Nat):Bool:=qt (ns.map (bkn d rs))&&ns.all fun q=>if Nat.ble 1000000000 q then L3 (q-1000000000) rs.length else ks.any (Nat.beq (bkn d rs q))&&L3 (bkn d rs q) 1000000000
def vK{ρ:Nat->Option Row}{d:Nat}{rs:List Nat}(ns ks:List Nat)(hn:outs.map (·.1)=ns)(h:Pg d rs ns ks=true)(hk:∀q∈ks,ρ q=none):
 (outs.map fun p=>bkn d rs p.1).Nodup/\(∀p∈outs,1000000000<=p.1->p.1-1000000000<rs.length)/\(∀p∈outs,p.1<1000000000->ρ (bkn d rs p.1)=none/\bkn d rs p.1<1000000000):=by
 subst hn;unfold Pg at h;simp only[A1,B2,D0,forall_exists_index,and_imp,H6] at h;obtain⟨h1,h2⟩:=h;refine⟨kv h1,fun p hp hge=>?_,fun p hp hlt=>?_⟩
 ·have:=h2 p.1 p hp rfl;rw[if_pos (Nat.ble_eq_true_of_le hge)] at this;exact C7 this
 ·have:=h2 p.1 p hp rfl;rw[if_neg (fun e=>by have:=C7 e;omega),A1,H1] at this;obtain⟨⟨x,hx,e⟩,h3⟩:=this;have e:=Nat.eq_of_beq_eq_true e;exact⟨by rw[e];exact hk x hx,C7 h3⟩
def eC(ha:AWP ok a (qX id lv lr sh s) σ)(hn:∀τ,Shp lv lr sh s τ->Q .nrm τ):AWP ok a (inb id Q) σ:=by
 have:=dz (bb ha) hn;simpa only[AWP] using this
def An(hq:∀b e τ,q b e τ->e≠.nrm/\e≠.ex id)
 (ha:AWP ok a (qS (qX id lv lr sh) q o) σ) (hn:∀s,o=.inl s->∀τ,Shp lv lr sh s τ->Q .nrm τ) (hx:∀x,o=.inr x->∀e τ,e≠.nrm->q x e τ->Q e τ):AWP ok a (inb id Q) σ:=by
 have:=nL (co hq ha) hn hx;simpa only[AWP] using this
def gW{lr':List Nat}{res:AV}(h:Shp lv lr sh s τ)(h2:∀r∈lr',r∈lr)
 (h3:(sh s).resOk [] lr'/\((sh s).res [] lr').rows=outs) (h5:res=.tup []):th [] lr' res outs .nrm τ:=by
 have:=Shp.sub (sh':=fun(_:Unit)=>(sh s).res [] lr') (s':=()) h (by simp) h2 ⟨h3.1,rfl⟩;subst h5;refine⟨[],rfl,rfl,this.1,by simp[AV.ments,aP],?_⟩;rw[this.2];exact h3.2
def fM{R:Type}{V:List RV}{emb:R->AV}(b:R)(e:Ex)(τ:St)(h:qR V emb b e τ):e≠.nrm/\e≠.ex id:=by
 obtain⟨rfl,_⟩:=h;simp
def yG{R:Type}{V:List RV}{emb:R->AV}{out:R->List (Nat×Row)}(b:R)(e:Ex)(τ:St)(h:qM V lr emb out b e τ):e≠.nrm/\e≠.ex id:=by
 obtain⟨rfl,_⟩:=h;simp
def jR(C:List AV):Prop:=(∀ρ k,C.map (snp ρ (k+1))=C)/\aP C=[]
def bO{C:List AV}(h:jR C)(r d:Nat):C.map (AV.ren r d)=C:=by rw[<-mE];exact mB r d C h.2
end
end Vs

namespace Vs
open Go
def cfX{α:Type}(cmp:α->α->Option Int)(xs:List α)(i j:Fin xs.length):Int:=(cmp xs[i] xs[j]).getD 0
def ltX{α:Type}(cmp:α->α->Option Int)(xs:List α)(i j:Fin xs.length):Bool:=decide (cfX cmp xs i j<0)
def okX{α:Type}(cmp:α->α->Option Int)(xs:List α):Prop:=xs.length<4611686018427387904/\(∀i j:Fin xs.length,(cmp xs[i] xs[j]).isSome=true)/\(∀i,ltX cmp xs i i=false)/\
 (∀i j k,ltX cmp xs i j=true->ltX cmp xs j k=true->ltX cmp xs i k=true)/\(∀i j k,ltX cmp xs i j=false->ltX cmp xs j k=false->ltX cmp xs i k=false)
instance{α:Type}(cmp:α->α->Option Int)(xs:List α):Decidable (okX cmp xs):=by unfold okX;infer_instance
def fO{α:Type}(cmp:α->α->Option Int)(xs:List α)(h:0<xs.length):Array (Fin xs.length):=
 @Sort.pdq _ ⟨⟨0,h⟩⟩ (ltX cmp xs) (B4 id) 0 xs.length (Lib.bitLen xs.length) true true
def oD{α:Type}(cmp:α->α->Option Int)(xs:List α):Option (List α):=
 if h:0<xs.length then if okX cmp xs then some ((fO cmp xs h).toList.map fun i=>xs[i]) else none else some []
def swoX{α:Type}{cmp:α->α->Option Int}{xs:List α}(h:okX cmp xs):Sort.SWO (ltX cmp xs):=⟨h.2.2.1,h.2.2.2.1,h.2.2.2.2⟩
theorem ml{α:Type}{cmp:α->α->Option Int}{xs:List α}(h:0<xs.length)(hk:okX cmp xs):(fO cmp xs h).toList.Perm (F5 xs.length)/\(fO cmp xs h).size=xs.length/\
 ∀(i j:Nat)(hi:i<(fO cmp xs h).size)(hj:j<(fO cmp xs h).size),i<j->ltX cmp xs (fO cmp xs h)[j] (fO cmp xs h)[i]=false:=by
 letI:Inhabited (Fin xs.length):=⟨⟨0,h⟩⟩
 obtain⟨⟨p1,_,p3⟩,p4⟩:=Sort.pdq_sorts (ltX cmp xs) (swoX hk) (B4 id) 0 xs.length (Lib.bitLen xs.length) true true (C1 _) (by simp) (.inl rfl);have e:fO cmp xs h=Sort.pdq (ltX cmp xs) (B4 id) 0 xs.length (Lib.bitLen xs.length) true true:=rfl;rw[<-e] at p1 p3 p4;rw[I1] at p1;refine⟨?_,p1,fun i j hi hj hij=>?_⟩
 ·have h1:(fO cmp xs h).extract 0 xs.length=fO cmp xs h:=by
   have:=J0 (xs:=fO cmp xs h);rwa[p1] at this
  have h2:(B4 (n:=xs.length) id).extract 0 xs.length=B4 (n:=xs.length) id:=by
   have:=J0 (xs:=B4 (n:=xs.length) id);rwa[I1] at this
  rw[h1,h2] at p3;have h3:(B4 (n:=xs.length) id).toList=F5 xs.length:=by
   rw[Array.toList_ofFn];rfl
  simp_all
 ·have:=p4 i j (C1 _) hij (by omega)
  grind
def ld{α:Type}{cmp:α->α->Option Int}{xs ys:List α}(h:oD cmp xs=some ys):ys.length=xs.length:=by
 grind [List.length_map,Array.length_toList,ml,oD]
def BA{α:Type}{cmp:α->α->Option Int}{xs:List α}(cf:α->α->Int)(hl0:xs.length<4611686018427387904)(h1:∀x∈xs,∀y∈xs,cmp x y=some (cf x y))(h2:∀x∈xs,¬cf x x<0)
 (h3:∀x∈xs,∀y∈xs,∀z∈xs,cf x y<0->cf y z<0->cf x z<0) (h4:∀x∈xs,∀y∈xs,∀z∈xs,¬cf x y<0->¬cf y z<0->¬cf x z<0):
 ∃ys,oD cmp xs=some ys/\ys.Perm xs/\ys.Pairwise fun a b=>¬cf b a<0:=by
 have hm:∀i j:Fin xs.length,cmp xs[i] xs[j]=some (cf xs[i] xs[j]):=fun i j=>h1 _ (E0 i.isLt) _ (E0 j.isLt);have mm:∀i:Fin xs.length,xs[i]∈xs:=fun i=>E0 i.isLt;have hc:∀i j:Fin xs.length,cfX cmp xs i j=cf xs[i] xs[j]:=fun i j=>by
  simp_all [cfX]
 have hl:∀i j:Fin xs.length,ltX cmp xs i j=decide (cf xs[i] xs[j]<0):=fun i j=>by unfold ltX;rw[hc]
 have hk:okX cmp xs:=by
  refine⟨hl0,fun i j=>by rw[hm i j];rfl,fun i=>?_,fun i j k=>?_,fun i j k=>?_⟩
  ·simp_all
  ·grind
  ·grind
 unfold oD;by_cases h0:0<xs.length
 ·obtain⟨p1,p2,p3⟩:=ml h0 hk;rw[dif_pos h0,if_pos hk];refine⟨_,rfl,?_,?_⟩
  ·have:=p1.map fun i=>xs[i];refine this.trans ?_;have e:(F5 xs.length).map (fun i=>xs[i])=xs:=by
    apply H2
    ·simp
    ·intro i h1 h2;simp
   rw[e]
  grind [List.pairwise_iff_getElem,List.length_map,Array.length_toList]
 simp_all
end Vs

namespace Vs
open Go Go.RowKit
structure mi(w W:World)(b:Nat):Prop where
 os:W.os=w.os
 tape:W.tape=w.tape
 output:W.output=w.output
 drawn:w.drawn<=W.drawn
 size:w.heap.size<=W.heap.size
 block:∀c,c<w.heap.size->c≠b->W.heap[c]?=w.heap[c]?
 frz:∀a:Addr,a.block<w.heap.size->W.frozen? a=w.frozen? a
def NW(m:Nat)(hm:0<m)(lt:Fin m->Fin m->Bool):Array (Fin m):=@Sort.pdq _ ⟨⟨0,hm⟩⟩ lt (B4 id) 0 m (Lib.bitLen m) true true
structure Fc(P:Program)(f k:Nat)(sh:Value->Prop):Prop where
 fn:∃fn,P.funcs[f]?=some fn/\fn.body.isNone=false/\(fn.name== "runtime.NumGoroutine")=false
 nil0:∀(p:Option Addr)(cap:Nat)(fv:Value)(w:World),Calls P f #[.slice p 0 cap,fv] w fun e w'=>e=.returned (.tuple #[])/\w'=w
 srt:∀(m:Nat)(hm:0<m)(v:Fin m->Value)(cf:Fin m->Fin m->Int)(g:Nat)(us:Array Value)(b o cap:Nat)(w:World),Sort.SWO (fun i j=>decide (cf i j<0))->(∀i,(v i).cells.size=k/\sh (v i))->
  (∀args w,(callFunc g args).run P w=.ok (.enter g args) w)->
  (∀W,mi w W b->∀i j,Calls P g (#[v i,v j]++us) W fun e W'=>e=.returned (.int .i64 (cf i j))/\Below W.heap.size W W')->
  (∀i:Fin m,dv w b (o+i*k) (v i))->eP w b (o+cap*k)->m<=cap->b<w.heap.size->m<4611686018427387904->
  Calls P f #[.slice (some ⟨b,o,none⟩) m cap,.func (.func g) #[] us] w fun e w'=>e=.returned (.tuple #[])/\mi w w' b/\eP w' b (o+cap*k)/\
   (∀(j:Nat)(i:Fin m),(NW m hm fun i j=>decide (cf i j<0))[j]?=some i->dv w' b (o+j*k) (v i))/\∀t x,(t<o\/o+m*k<=t)->w.cell? ⟨b,t,none⟩=some x->w'.cell? ⟨b,t,none⟩=some x
def abd{w0 w:World}{tag:Nat->Tag}{β:Nat->Option Own}{ins:List (Nat×Row)}(hbel:Below w0.heap.size w0 w)(hold:∀b,b<w0.heap.size->tag b=.imm\/tag b=.out)(hlt:∀b,tag b≠.out->b<w.heap.size)
 (hrows:∀r,ct w tag w0.heap.size β r (aC r ins)) (hwf:Wf ins) (k:Nat) (x:AV) (v:Value) (hx:Rep w (Imm tag) w0.heap.size β v x):aV w (fun b=>tag b≠.out) w.heap.size v (snp (fun r=>aC r ins) k x) []:=by
 let F:Fx:=⟨fun b=>b<w0.heap.size/\tag b=.imm,w,tag,β⟩;have hR:RR 0 w0 F ⟨[],ins⟩ {tmps:=#[],defers:=[]} w tag β:=by
  refine⟨by omega,.refl _ _,fun b _ hb=>⟨rfl,rfl⟩,fun b hb=>⟨hb,rfl⟩,fun r _ _=>rfl,hbel,rfl,rfl,fun b hb=>hb.1,hlt,fun b hb=>⟨⟨fun e=>⟨hb,e⟩,fun e=>e.2⟩,hold b hb⟩,fun j x hj=>by simp[aC] at hj,hrows,hwf⟩
 exact hR.snp (S:=fun b=>tag b≠.out) (fun b hb=>by rcases hb with e|⟨r,e⟩<;>simp[e]) k x v hx (.inr fun b hb=>hb)
def GG{i0 m p:Nat}(d:Array (Fin m))(hd:d.toList.Perm (F5 m))(hs:d.size=m)(idx:Nat->Nat)(h0:∀j,j<i0->idx j=j)(h1:∀(j:Nat)(i:Fin m),d[j]?=some i->idx (i0+j)=i0+i.val)(h2:∀j,i0+m<=j->idx j=j):
 ((C5 (i0+m+p)).map idx).Perm (C5 (i0+m+p)):=by
 rw[K7,K7,I2,I2,H6,H6];have e0:(C5 i0).map idx=C5 i0:=by
  conv=>rhs;rw[<-List.map_id (C5 i0)]
  exact D5 fun j hj=>h0 j (List.mem_range.1 hj)
 have e2:(C5 p).map (idx∘fun x=>i0+m+x)=(C5 p).map fun x=>i0+m+x:=D5 fun j _=>by
  simp_all
 have e1:(C5 m).map (idx∘fun x=>i0+x)=d.toList.map fun i=>i0+i.val:=by
  apply H2
  ·simp[hs]
  ·simp_all
 have e3:(C5 m).map (fun x=>i0+x)=(F5 m).map fun i=>i0+i.val:=by
  apply H2
  ·simp
  ·intro j a b;simp
 grind
def SU{α:Type}(xs ys:List α)(i j:Nat)(h:i+ys.length<=xs.length):(en xs i ys)[j]?=if j<i then xs[j]? else if j<i+ys.length then ys[j-i]? else xs[j]?:=by
 unfold en
 grind
def HO{P:Program}{f k:Nat}{sh:Value->Prop}(L:Fc P f k sh){α:Type}(E:α->AV)(hE:∀(x:α)(v:Value)(w:World)(S:Nat->Prop)(B:Nat)(fp:List Nat),aV w S B v (E x) fp->v.cells.size=k->sh v)
 {cmp:α->α->Option Int} {g:Nat} {Caps C:List AV} {ins:List (Nat×Row)} {xs ms ys zs:List α} {i0 n:Nat} (hms:gw xs i0 n=ms) (hzs:en xs i0 ys=zs) (hC:Caps.map (snp (fun r=>aC r ins) 4)=C) (hno:aC 1000000000 ins=none) (hwfi:Wf ins) (hdi:∀r∈aP Caps,(aC r ins).isSome)
 (hg:∃fn,P.funcs[g]?=some fn/\fn.body.isNone=false/\(fn.name== "runtime.NumGoroutine")=false)
 (hcmp:∀x y r,cmp x y=some r->Ok P g ((E x).nrm::(E y).nrm::C) (.i r)) (h:oD cmp ms=some ys):
 OkM P f [.sl 1000000000 i0 n,.fn g Caps] ((1000000000,.arr k (xs.map E))::ins) (.tup []) ((1000000000,.arr k (zs.map E))::ins):=by
 subst hzs
 classical
 refine⟨L.fn,fun w0 w tag β vs hbel hold hlt hrows hwf hvs hat _=>?_⟩;have hlk:∀(row:Row)(r:Nat),aC r ((1000000000,row)::ins)=if r=1000000000 then some row else aC r ins:=fun row r=>by
  show(if 1000000000=r then some row else aC r ins)=_;by_cases e:r=1000000000
  ·simp[e]
  ·rw[if_neg e,if_neg (fun h=>e h.symm)]
 have h0:=hat 0 _ rfl;have h1:=hat 1 _ rfl;have hv2:vs=#[vs.getD 0 undef,vs.getD 1 undef]:=by
  apply K9
  ·rw[hvs];rfl
  ·intro i hi hj;rw[hvs] at hi;have:i=0\/i=1:=by simp at hi;omega
   rcases this with rfl|rfl<;>simp[hvs]
 generalize vs.getD 0 undef=v0 at h0 hv2;generalize vs.getD 1 undef=v1 at h1 hv2;subst hv2;obtain⟨us,rfl,hus,hux⟩:=h1.1.fn_inv;have hrow:=hrows 1000000000;rw[hlk,if_pos rfl] at hrow
 -- what stays if nothing turns
 have idle:∀(p:Option Addr)(cap:Nat),ms=[]->v0=.slice p 0 cap->Calls P f #[v0,.func (.func g) #[] us] w fun e w'=>∃v tag' β',e=.returned v/\Below 0 w w'/\(∀b,b<w.heap.size->tag b=.imm\/tag b=.out->tag' b=tag b/\w'.heap[b]?=w.heap[b]?)/\
  (∀b,Imm tag b->Imm tag' b/\w'.heap[b]?=w.heap[b]?)/\(∀b,tag' b≠.out->b<w'.heap.size)/\(∀r,ct w' tag' w0.heap.size β' r (aC r ((1000000000,.arr k ((en xs i0 ys).map E))::ins)))/\Wf ((1000000000,.arr k ((en xs i0 ys).map E))::ins)/\
  (∀r,1000000000<=r->cH (aC r ((1000000000,.arr k ((en xs i0 ys).map E))::ins))->β' r=β r)/\Rep w' (Imm tag') w0.heap.size β' v (.tup [])/\∀r∈(AV.tup []).ments,(aC r ((1000000000,.arr k ((en xs i0 ys).map E))::ins)).isSome:=by
  intro p cap hxs hv0;subst hv0;have hy:ys=[]:=List.eq_nil_of_length_eq_zero (by have:=ld h;rw[hxs] at this;simpa using this);have ho:en xs i0 ys=xs:=by rw[hy];unfold en;split<;>simp
  rw[ho];refine(L.nil0 p cap _ w).mono ?_;rintro e w' ⟨rfl,rfl⟩;exact⟨_,tag,β,rfl,.refl _ _,fun b _ _=>⟨rfl,rfl⟩,fun b hb=>⟨hb,rfl⟩,hlt,hrows,hwf,fun _ _ _=>rfl,.tup #[] [] rfl (fun j x hj=>by simp at hj),fun r hr=>by simp[AV.ments,aP] at hr⟩
 have hmk:∀(x:AV),aP [x]=x.ments:=fun x=>by simp[aP]
 have hsl:=h0.1;rcases hrow with⟨hb0,hes⟩|⟨b,o,cap,es,fps,hb0,⟨hb1,hb2,hb3⟩,hb4,hb5,hb6,hb7,hb8⟩
 ·have hxs:xs=[]:=E6.1 hes;cases hsl with
  |p _ _ hp=>cases hp
  |slB r i n b o sz cap len c hh=>rw[hb0] at hh;cases hh
  |slE r i b o sz cap len p hh=>rw[hb0] at hh;cases hh
  |slN r hh=>exact idle none 0 (by rw[<-hms,hxs];unfold gw;split<;>simp) rfl
  |slD r i n v hh=>rw[hb0] at hh;cases hh
 ·rw[A7] at hb0 hb4 hb7 hb8;have hcv:(∃c,v0=.slice (some ⟨b,o+i0*k,none⟩) n c/\i0+c=cap/\n<=c/\i0+n<=xs.length)\/n=0/\∃p c,v0=.slice p 0 c:=by
   cases hsl with
   |p _ _ hp=>cases hp
   | slB r i n b' o' sz cap' len c hh hc hn hl =>
     rw[hb0] at hh;cases hh;exact .inl ⟨c,rfl,hc,hn,hl⟩
   |slE r i b' o' sz cap' len p hh=>exact .inr ⟨rfl,_,_,rfl⟩
   |slN r hh=>rw[hb0] at hh;cases hh
   |slD r i n v hh=>rw[hb0] at hh;cases hh
  have hmsd:ms=(xs.drop i0).take n:=by rw[<-hms,iU]
  by_cases hx0:ms=[]
  ·rcases hcv with⟨c,e,_,hnc,hil⟩|⟨_,p,c,e⟩
   ·have hn0:n=0:=by
     have:=congrArg K1 hmsd;rw[hx0] at this;simp only[List.length_nil,D6,E4] at this;omega
    exact idle _ c hx0 (by rw[e,hn0])
   ·exact idle p c hx0 e
  have hpos:0<ms.length:=I6.2 hx0;obtain⟨c,hv0,hic,hnc,hil⟩:∃c,v0=.slice (some ⟨b,o+i0*k,none⟩) n c/\i0+c=cap/\n<=c/\i0+n<=xs.length:=by
   rcases hcv with e|⟨e,_⟩
   ·exact e
   ·exfalso;rw[hmsd,e] at hpos;simp at hpos
  have hml:ms.length=n:=by rw[hmsd];simp;omega
  subst hv0;rw[<-hml] at hil hnc⊢;have hmsq:∀q,q<ms.length->ms[q]?=xs[i0+q]?:=fun q hq=>by
   rw[hmsd,G2,if_pos (by omega),G3]
  have hmsx:∀i:Fin ms.length,xs[i0+i.val]?=some ms[i]:=fun i=>by
   rw[<-hmsq i.val i.isLt];exact A2 i.isLt
  -- the comparison answers on all pairs
  have h':=h;unfold oD at h';rw[dif_pos hpos] at h';by_cases hk:okX cmp ms
  ·rw[if_pos hk] at h';simp only[Option.some.injEq] at h';obtain⟨p1,p2,p3⟩:=ml hpos hk;have hd0:fO cmp ms hpos=NW ms.length hpos fun i j=>decide (cfX cmp ms i j<0):=rfl;have hmap:∀i:Fin ms.length,(xs.map E)[i0+i.val]?=some (E ms[i]):=fun i=>by rw[A5,hmsx i];rfl
   have hbl:b<w.heap.size:=hlt b (by rw[hb1];simp);have hnb:∀c,Imm tag c->c≠b:=fun c hc e=>by
    rw[e] at hc;rcases hc with hc|⟨r,hc⟩<;>rw[hb1] at hc<;>cases hc
   -- the rows that the comparison captures,without the row that is sorted
   let tag1:Nat->Tag:=fun c=>if c=b then .out else tag c
   let β1:Nat->Option Own:=fun r=>if r=1000000000 then none else β r
   have ht1:∀c,c≠b->tag1 c=tag c:=fun c hc=>if_neg hc;have himm1:∀c,Imm tag c->Imm tag1 c:=fun c hc=>by unfold Imm;rw[ht1 c (hnb c hc)];exact hc
   have hrows1:∀r,ct w tag1 w0.heap.size β1 r (aC r ins):=fun r=>by
    by_cases e:r=1000000000
    ·subst e;rw[hno];exact if_pos rfl
    ·have hr:=hrows r;rw[hlk,if_neg e] at hr;refine hr.mono (fun c hc=>⟨himm1 c hc,rfl⟩) (fun c hc=>⟨by rw[ht1 c (fun e2=>by rw[e2,hb1] at hc;cases hc;exact e rfl)];exact hc,rfl⟩) (fun c hc=>by rw[ht1 c (fun e2=>by rw[e2,hb1] at hc;cases hc)];exact hc) (if_neg e) fun x hx q hq=>?_;by_cases e2:q=1000000000
     ·exact .inr (if_pos e2)
     ·exact .inl (if_neg e2)
   have hold1:∀c,c<w0.heap.size->tag1 c=.imm\/tag1 c=.out:=fun c hc=>by rw[ht1 c (by omega)];exact hold c hc
   have hlt1:∀c,tag1 c≠.out->c<w.heap.size:=fun c hc=>by
    by_cases e:c=b
    ·rw[e];exact hbl
    ·rw[ht1 c e] at hc;exact hlt c hc
   have hCl:C.length=us.size:=by rw[<-hC,A7,hus]
   have hnear:∀W,mi w W b->∀c,tag1 c≠.out->c<W.heap.size/\W.heap[c]?=w.heap[c]?:=fun W hW c hc=>by
    have e:c≠b:=fun e=>hc (by simp[tag1,e]);exact⟨A3 (hlt1 c hc) hW.size,hW.block c (hlt1 c hc) e⟩
   have hcaps:∀W,mi w W b->∀(j:Nat)(x:AV),C[j]?=some x->aV W (fun c=>tag1 c≠.out) W.heap.size (us.getD j undef) x []:=fun W hW j x hj=>by
    rw[<-hC] at hj;obtain⟨y,hy,rfl⟩:=Cu hj;have hi1:∀c,Imm tag1 c->tag1 c≠.out:=fun c hc=>by rcases hc with e|⟨r,e⟩<;>rw[e]<;>simp
    refine abd (w:=W) ⟨⟨hW.os.trans hbel.bel.os,hW.tape.trans hbel.bel.tape,hW.output.trans hbel.bel.output,F9 hbel.size hW.size,fun c hc=>(hW.block c (A3 hc hbel.size) (by omega)).trans (hbel.block c hc)⟩,fun x hx=>(hW.frz x (A3 hx hbel.size)).trans (hbel.frz x hx),F9 hbel.drawn hW.drawn⟩
     hold1 (fun c hc=>(hnear W hW c hc).1) (fun r=>(hrows1 r).mono (fun c hc=>⟨hc,(hnear W hW c (hi1 c hc)).2⟩) (fun c hc=>⟨hc,(hnear W hW c (by rw[hc];simp)).2⟩) (fun c hc=>hc) rfl fun x hx q hq=>.inl rfl) hwfi 4 y _ ((hux j y hy).mono (fun c hc=>⟨himm1 c hc,(hnear W hW c (hi1 c (himm1 c hc))).2⟩) fun r hr=>?_)
    by_cases e2:r=1000000000
    ·exact .inr (if_pos e2)
    ·exact .inl (if_neg e2)
   have hsort:=L.srt ms.length hpos (fun i=>es (i0+i.val)) (cfX cmp ms) g us b (o+i0*k) c w (swoX hk) (fun i=>by
    have q1:=hb5 _ _ (hmap i);exact⟨q1.1,hE _ _ _ _ _ _ (hb6 _ _ (hmap i)) q1.1⟩) (fun args w1=>by
    obtain⟨fn,e1,e2,e3⟩:=hg;have e2':¬fn.body=none:=fun e=>by rw[e] at e2;cases e2
    have e3':¬fn.name= "runtime.NumGoroutine":=by simpa using e3
    simp[callFunc,e1,e2',e3']) (fun W hW i j=>by
    have hcm:cmp ms[i] ms[j]=some (cfX cmp ms i j):=by
     have:=hk.2.1 i j;unfold cfX;cases e:cmp ms[i] ms[j] with
     |none=>rw[e] at this;cases this
     |some r=>rfl
    obtain⟨_,hcall⟩:=hcmp _ _ _ hcm;refine(hcall W (fun c=>tag1 c≠.out) (#[es (i0+i.val),es (i0+j.val)]++us) (fun c hc=>(hnear W hW c hc).1) (by simp[hCl];omega) (fun q x hq=>?_) fun _ _=>trivial).mono ?_
    ·have helem:∀i:Fin ms.length,aV W (fun c=>tag1 c≠.out) W.heap.size (es (i0+i.val)) (E ms[i]).nrm []:=fun i=>by
      have:=hb6 _ _ (hmap i);exact(this.mono (S':=fun c=>tag1 c≠.out) (w':=W) (fun c hc=>by
       have:tag1 c≠.out:=by rw[ht1 c (hnb c hc)];rcases hc with e|⟨r,e⟩<;>rw[e]<;>simp
       exact⟨this,(hnear W hW c this).2⟩)).nrm fun c hc=>⟨hc,(hnear W hW c hc).1⟩
     match q with
     |0=>simp only[H3,Option.some.injEq] at hq;subst hq;rw[A6,B7 (by simp)];exact helem i
     |1=>simp only[E7,H3,Option.some.injEq] at hq;subst hq;rw[A6,B7 (by simp)];exact helem j
     | q + 2 =>
       simp only[E7] at hq;have e:(#[es (i0+i.val),es (i0+j.val)]++us).getD (q+2) undef=us.getD q undef:=by
        rw[A6,A6,Array.getElem?_append_right (by simp)];simp
       rw[e];exact hcaps W hW q x hq
    ·rintro e W' ⟨v,fp,S',rfl,hb,_,_,hr⟩;cases hr;exact⟨rfl,hb⟩) (fun i=>by
    have:=(hb5 _ _ (hmap i)).2;rwa[B3,<-C3] at this) (by rw[C3,<-B3,hic];exact hb3) hnc hbl hk.1
   refine hsort.mono ?_;rintro e w' ⟨rfl,hN,hfree,hva,hrest⟩;rw[C3,<-B3,hic] at hfree;have hblk:∀c,c<w.heap.size->c≠b->w'.heap[c]?=w.heap[c]?:=hN.block;have himmk:∀c,Imm tag c->Imm tag c/\w'.heap[c]?=w.heap[c]?:=fun c hc=>⟨hc,hblk c (hlt c (by rcases hc with e|⟨r,e⟩<;>rw[e]<;>simp)) (hnb c hc)⟩;have hyl:ys.length=ms.length:=ld h;have hol:(en xs i0 ys).length=xs.length:=ov _ _ _;let idx:Nat->Nat:=fun j=>if j<i0 then j else match(fO cmp ms hpos)[j-i0]? with|some i=>i0+i.val|none=>j
   have hidx0:∀j,j<i0->idx j=j:=fun j hj=>by simp only[idx,if_pos hj]
   have hidx1:∀(j:Nat)(i:Fin ms.length),(fO cmp ms hpos)[j]?=some i->idx (i0+j)=i0+i.val:=fun j i e=>by
    simp only[idx];rw[if_neg (by omega),Nat.add_sub_cancel_left,e]
   have hidx2:∀j,i0+ms.length<=j->idx j=j:=fun j hj=>by
    simp only[idx];rw[if_neg (by omega),Array.getElem?_eq_none (by omega)]
   have hperm:∀q:Nat->List Nat,(cR xs.length fun j=>q (idx j)).Perm (cR xs.length q):=fun q=>by
    have e:xs.length=i0+ms.length+(xs.length-(i0+ms.length)):=by omega
    have hp:=GG (p:=xs.length-(i0+ms.length)) (fO cmp ms hpos) p1 p2 idx hidx0 hidx1 hidx2;rw[<-e] at hp;have:=hp.flatMap_right q;unfold cR;rwa[List.flatMap_map] at this
   have hcell:∀j x,((en xs i0 ys).map E)[j]?=some x->(xs.map E)[idx j]?=some x/\((es (idx j)).cells.size=k->dv w b (o+idx j*k) (es (idx j))->dv w' b (o+j*k) (es (idx j))):=fun j x hj=>by
    rw[A5,SU xs ys i0 j (by omega),hyl] at hj;by_cases h1:j<i0
    ·rw[if_pos h1] at hj;rw[hidx0 j h1];refine⟨by rw[A5];exact hj,fun hsz hv p x hx=>⟨hrest _ _ (.inl ?_) (hv p x hx).1,(hv p x hx).2⟩⟩;have hp:=(B5.1 hx).1;have:=A4 k (show j+1<=i0 from h1);rw[B3,G7] at this;omega
    ·rw[if_neg h1] at hj;by_cases h2:j<i0+ms.length
     ·rw[if_pos h2] at hj;have hj':j-i0<(fO cmp ms hpos).size:=by rw[p2];omega
      have i1:(fO cmp ms hpos)[j-i0]?=some (fO cmp ms hpos)[j-i0]:=B0 hj';have e:idx j=i0+((fO cmp ms hpos)[j-i0]).val:=by
       have:=hidx1 _ _ i1;rwa[show i0+(j-i0)=j by omega] at this
      rw[e];refine⟨?_,fun _ _=>?_⟩
      ·rw[hmap];rw[<-h',A5,Array.getElem?_toList,i1] at hj;exact hj
      ·have:=hva (j-i0) _ (by rw[<-hd0];exact i1);rwa[C3,<-B3,show i0+(j-i0)=j by omega] at this
     ·rw[if_neg h2] at hj;rw[hidx2 j (by omega)];refine⟨by rw[A5];exact hj,fun hsz hv p x hx=>⟨hrest _ _ (.inr ?_) (hv p x hx).1,(hv p x hx).2⟩⟩;have:=A4 k (show i0+ms.length<=j by omega);rw[B3] at this;omega
   refine⟨_,tag,β,rfl,⟨⟨hN.os,hN.tape,hN.output,hN.size,fun c hc=>by omega⟩,hN.frz,hN.drawn⟩,fun c hc ht=>⟨rfl,hblk c hc (fun e=>by rw[e,hb1] at ht;rcases ht with ht|ht<;>cases ht)⟩,himmk,fun c hc=>A3 (hlt c hc) hN.size,fun r=>?_,fun q x hx=>?_,fun _ _ _=>rfl,.tup #[] [] rfl (fun j x hj=>by simp at hj),fun r hr=>by simp[AV.ments,aP] at hr⟩
   ·rw[hlk];split
    ·rename_i e;subst e;refine .inr ⟨b,o,cap,fun j=>es (idx j),fun j=>fps (idx j),by rw[A7,hol];exact hb0,⟨hb1,hb2,hfree⟩,by rw[A7,hol];exact hb4,fun j x hj=>?_,fun j x hj=>?_,?_,?_⟩
     ·obtain⟨c1,c2⟩:=hcell j x hj;exact⟨(hb5 _ _ c1).1,c2 (hb5 _ _ c1).1 (hb5 _ _ c1).2⟩
     ·exact(hb6 _ _ (hcell j x hj).1).mono himmk
     ·rw[A7,hol];exact(hperm fps).nodup_iff.2 hb7
     ·intro c hc;rw[A7,hol] at hc;exact hb8 c ((hperm fps).mem_iff.1 hc)
    ·rename_i e;have hr:=hrows r;rw[hlk,if_neg e] at hr;exact hr.mono himmk (fun c hc=>⟨hc,hblk c (hlt c (by rw[hc];simp)) (fun e2=>by rw[e2,hb1] at hc;cases hc;exact e rfl)⟩) (fun c hc=>hc) rfl fun x hx q hq=>.inl rfl
   ·rw[hlk] at hx;split at hx
    ·cases hx
    ·intro hq';have hw2:=hwf q x (by rw[hlk,if_neg (by assumption)];exact hx);intro hmem;have:=hw2 hq' hmem;rw[hlk] at this⊢;split
     ·rfl
     ·rename_i e2;rw[if_neg e2] at this;exact this
  ·rw[if_neg hk] at h';cases h'
def PN{P:Program}{f k:Nat}{sh:Value->Prop}(L:Fc P f k sh){α:Type}(E:α->AV)(hE:∀(x:α)(v:Value)(w:World)(S:Nat->Prop)(B:Nat)(fp:List Nat),aV w S B v (E x) fp->v.cells.size=k->sh v)
 {cmp:α->α->Option Int} {g:Nat} {Caps C:List AV} {ins:List (Nat×Row)} {xs ys:List α} {n:Nat} (hn:n=xs.length) (hC:Caps.map (snp (fun r=>aC r ins) 4)=C) (hno:aC 1000000000 ins=none) (hwfi:Wf ins) (hdi:∀r∈aP Caps,(aC r ins).isSome)
 (hg:∃fn,P.funcs[g]?=some fn/\fn.body.isNone=false/\(fn.name== "runtime.NumGoroutine")=false)
 (hcmp:∀x y r,cmp x y=some r->Ok P g ((E x).nrm::(E y).nrm::C) (.i r)) (h:oD cmp xs=some ys):
 OkM P f [.sl 1000000000 0 n,.fn g Caps] ((1000000000,.arr k (xs.map E))::ins) (.tup []) ((1000000000,.arr k (ys.map E))::ins):=by
 have:=HO L E hE (cmp:=cmp) (i0:=0) (n:=n) (ms:=xs) (by rw[hn,dE]) rfl hC hno hwfi hdi hg hcmp h;have e:en xs 0 ys=ys:=by
  have hl:=ld h;unfold en;rw[if_pos (by omega)];simp[hl]
 rwa[e] at this
end Vs

namespace Vs
open Go Go.RowKit Go.Proofs
def AW{W W':World}(h:Below W.heap.size W W'):∃q os,W'=Sort.grow (W.drewN q) os:=by
 refine⟨W'.drawn-W.drawn,W'.heap.extract W.heap.size W'.heap.size,?_⟩;have e1:W'.heap=W.heap++W'.heap.extract W.heap.size W'.heap.size:=by
  apply Array.ext_getElem?;intro i;rw[Array.getElem?_append];have hs:=h.size;split
  ·rename_i hi;exact h.block i hi
  ·grind
 have e2:W'.drawn=W.drawn+(W'.drawn-W.drawn):=by have:=h.drawn;omega
 have b1:=h.bel.os;have b2:=h.bel.tape;have b3:=h.bel.output;cases W' with
 | mk heap tape drawn os output =>
   grind [World.mk.injEq,Sort.grow,World.drewN]
def ut{α:Type}[Inhabited α]{enc:α->Value}{w:World}{b o m:Nat}{d:Array α}{os:Array Obj}(hb:b<w.heap.size):mi w (sortWorld enc w b o m d os) b:=by
 have hp:∀c,c≠b->(Sort.putRow enc (Sort.ahead w m) b o d).heap[c]?=w.heap[c]?:=fun c hc=>by
  simp only[Sort.putRow,Sort.mapBlock];rw[B9,if_neg (fun e=>hc e.symm)];rfl
 have hs:(Sort.putRow enc (Sort.ahead w m) b o d).heap.size=w.heap.size:=by simp[Sort.putRow,Sort.mapBlock,Sort.ahead]
 refine⟨rfl,rfl,rfl,?_,?_,?_,?_⟩
 ·show w.drawn<=w.drawn+m;omega
 ·show w.heap.size<=(Sort.grow _ os).heap.size;rw[Sort.size_grow,hs];omega
 ·intro c hc hne;show(Sort.grow _ os).heap[c]?=_;rw[Sort.heap_grow_old _ _ (by rw[hs];exact hc)];exact hp c hne
 ·intro a ha;show(Sort.grow _ os).frozen? a=_;rw[Sort.frozen?_grow _ _ _ (by rw[hs];exact ha)];rw[Sort.frozen?_putRow];rfl
def sx{α:Type}[Inhabited α]{enc:α->Value}{w:World}{b o m:Nat}{d0 d:Array α}{os:Array Obj}(hb:b<w.heap.size)(hH:Sort.Holds enc w b o d0)(hs:d.size=d0.size)(j:Nat)(hj:j<d.size):
 (sortWorld enc w b o m d os).cell? ⟨b,o+j,none⟩=some (enc d[j]!):=by
 show(Sort.grow _ os).cell? _=_;rw[Sort.cell?_grow _ _ _ (by simp_all)];have:=Sort.cell?_putRow enc (Sort.ahead w m) b o d0 d (Sort.holds_ahead _ _ _ _ _ _ hH) hs j hj;exact this
def qA{α:Type}[Inhabited α]{enc:α->Value}{w:World}{b o m t:Nat}{d:Array α}{os:Array Obj}(hb:b<w.heap.size)(hf:eP w b t):eP (sortWorld enc w b o m d os) b t:=by
 obtain⟨c,ty,h1,h2⟩:=hf;refine⟨Sort.putCells enc o d c,ty,?_,by grind [Sort.putCells]⟩;show(Sort.grow _ os).heap[b]?=_;rw[Sort.heap_grow_old _ _ (by simp_all)];simp only[Sort.putRow,Sort.mapBlock,B9,if_true];show((Sort.ahead w m).heap[b]?).map _=_;rw[show(Sort.ahead w m).heap[b]?=w.heap[b]? from rfl,h1];rfl
def pe{α:Type}[Inhabited α]{enc:α->Value}{w:World}{b o m:Nat}{d:Array α}{os:Array Obj}(hb:b<w.heap.size)(t:Nat)(h:t<o\/o+d.size<=t):
 (sortWorld enc w b o m d os).cell? ⟨b,t,none⟩=w.cell? ⟨b,t,none⟩:=by
 show(Sort.grow _ os).cell? _=_;rw[Sort.cell?_grow _ _ _ (by rw[Sort.size_putRow];exact hb),Sort.cell?_putRow_other _ _ _ _ _ _ (.inr h)];rfl
def aal{P:Program}{f k:Nat}{A:ar}{V:List RV}(h:aU P f k A V=true):∃fn,P.funcs[f]?=some fn/\fn.body.isNone=false/\(fn.name== "runtime.NumGoroutine")=false:=by
 unfold aU at h
 grind
end Vs

namespace Vs
open Go Go.RowKit Go.Proofs
def shK(k:Nat)(v:Value):Prop:=∃vs:Array Value,v=.agg vs/\vs.size=k/\∀x∈vs,x.oneCell'=true
def FK{k:Nat}{w:World}{S:Nat->Prop}{B:Nat}{v:Value}{cs:List AV}{fp:List Nat}(h:aV w S B v (.agg cs) fp)(hk:v.cells.size=k):shK k v:=by
 obtain⟨vs,_,rfl,_,h1,_⟩:=h.agg_at;exact⟨vs,rfl,hk,h1⟩
def divk{k j p:Nat}(hp:p<k):(j*k+p)/k=j/\(j*k+p)%k=p:=by
 rw[G0,Nat.add_mul_div_right _ _ (by omega),K0 hp,Nat.add_mul_mod_self_right,Nat.mod_eq_of_lt hp];exact⟨by omega,rfl⟩
def adt{P:Program}{ρ:Go.Shelf.Ren}(L:SlLaysF0.n6 P ρ)(k:Nat)(hk0:0<k)(aE:∀w,(isAgg (ρ.t 24)).run P w=.ok true w)(zE:∀w,(Go.sizeOf (ρ.t 24)).run P w=.ok k w)
 (hnil:∀(p:Option Addr)(cap:Nat)(fv:Value)(w:World),Calls P (ρ.f 6) #[.slice p 0 cap,fv] w fun e w'=>e=.returned (.tuple #[])/\w'=w)
 (hfn:∃fn,P.funcs[ρ.f 6]?=some fn/\fn.body.isNone=false/\(fn.name== "runtime.NumGoroutine")=false):Fc P (ρ.f 6) k (shK k) where
 fn:=hfn
 nil0:=hnil
 srt:=by
  intro m hm v cf g us b o cap w hO hv eg hcmp hva hfree hmc hb hbig
  letI:Inhabited (Fin m):=⟨⟨0,hm⟩⟩
  let enc:Fin m->List Value:=fun i=>(v i).cells.toList;have hk:∀x,(enc x).length=k:=fun x=>by simp only[enc,E5];exact(hv x).1
  have hsh:∀x,∃vs:Array Value,v x=.agg vs/\vs.size=k/\∀c∈vs,c.oneCell'=true:=fun x=>(hv x).2;have h1:∀x,∀c∈enc x,c.oneCell'=true:=fun x c hc=>by
   obtain⟨vs,e,_,h⟩:=hsh x;simp only[enc,e,Value.cells,Array.mem_toList_iff] at hc;exact h c hc
  have hval:∀x,Value.agg (enc x).toArray=v x:=fun x=>by
   obtain⟨vs,e,_,_⟩:=hsh x;simp only[enc,e,Value.cells,Array.toArray_toList]
  have hfz:∀t,w.frozen? ⟨b,t,none⟩=false:=fun t=>by
   obtain⟨c,ty,e1,_⟩:=hfree;unfold World.frozen?;rw[e1];simp
  have hsz:(B4 (n:=m) id).size=m:=I1;have hof:∀j(hj:j<m),(B4 (n:=m) id)[j]! =⟨j,hj⟩:=fun j hj=>by
   rw[getElem!_pos _ j (by simpa using hj),Array.getElem_ofFn];rfl
  have hcell1:∀(i:Fin m)(p:Nat)(hp:p<k),(v i).cells[p]?=some (enc i)[p]!:=fun i p hp=>by
   have hs:=(hv i).1;rw[B0 (by omega),getElem!_pos _ p (by rw[hk];exact hp)];simp only[enc,Array.getElem_toList]
  have hH:Sort.HoldsK enc k w b o (B4 (n:=m) id):=by
   intro t ht;rw[Sort.size_flatK,hsz] at ht;have hj:t/k<m:=I4 (by rwa[J2] at ht);have hp:t%k<k:=Nat.mod_lt _ hk0;rw[Sort.get_flatK _ _ _ t (by rw[hsz];exact ht),hof _ hj];have hc:=hva ⟨t/k,hj⟩ (t%k) _ (hcell1 _ _ hp);have e:o+t/k*k+t%k=o+t:=by
    have:=Nat.div_add_mod t k;rw[J2] at this;omega
   simp only[e] at hc;exact⟨hc.1,hfz _⟩
  have hwo:(Sort.SWO (ltOf cf)):=hO;have hC:CmpLays P g us enc k cf b o (B4 (n:=m) id).size w:=fun q os dk hdk x y=>by
   have hn:mi w (sortWorldK enc k w b o q dk os) b:=ut (enc:=fun v:Value=>v) (o:=o) (m:=q) (d:=Sort.flatK enc k dk) (os:=os) hb;rw[hval,hval];refine(hcmp _ hn x y).mono ?_;rintro e W' ⟨rfl,hbel⟩;exact⟨rfl,AW hbel⟩
  have:=AnyQ.slices_SortFunc_eq L k aE zE enc hk h1 cf hwo g us b o cap (B4 (n:=m) id) w eg hC hH hb (by rw[hsz];exact hbig);rw[hsz] at this;refine this.mono ?_;rintro e w' ⟨rfl,q,os,rfl⟩;have hd:Sort.pdq (ltOf cf) (B4 id) 0 m (Lib.bitLen m) true true=NW m hm fun i j=>decide (cf i j<0):=rfl;have hps:=(Sort.pdq_sorts (ltOf cf) hwo (B4 (n:=m) id) 0 m (Lib.bitLen m) true true (C1 _) (by simp) (.inl rfl)).1.1;refine⟨rfl,ut (enc:=fun v:Value=>v) hb,qA (enc:=fun v:Value=>v) hb hfree,fun j i hji=>?_,fun t x ht hx=>?_⟩;rotate_left
  ·have:=pe (enc:=fun v:Value=>v) (m:=q) (os:=os) (d:=Sort.flatK enc k (Sort.pdq (ltOf cf) (B4 id) 0 m (Lib.bitLen m) true true)) hb t (by rw[Sort.size_flatK,hps,hsz];omega);exact this.trans hx
  rw[<-hd] at hji;obtain⟨hj,e⟩:=B5.1 hji;intro p x hx;have hp:p<k:=by
   have:=(B5.1 hx).1;rw[(hv i).1] at this;exact this
  have hjm:j<m:=by rw[hps,hsz] at hj;exact hj
  have hlt:j*k+p<(Sort.pdq (ltOf cf) (B4 id) 0 m (Lib.bitLen m) true true).size*k:=by
   have:=A4 k (show j+1<=(Sort.pdq (ltOf cf) (B4 id) 0 m (Lib.bitLen m) true true).size from hj);rw[B3,G7] at this;omega
  have hcell:=sx (enc:=fun v:Value=>v) (m:=q) (os:=os) (d:=Sort.flatK enc k (Sort.pdq (ltOf cf) (B4 id) 0 m (Lib.bitLen m) true true)) hb hH (by rw[Sort.size_flatK,Sort.size_flatK,hps]) (j*k+p) (by rw[Sort.size_flatK];exact hlt);obtain⟨d1,d2⟩:=divk (j:=j) hp;rw[Sort.get_flatK _ _ _ _ hlt,d1,d2,getElem!_pos _ j hj,e] at hcell;have hx2:=hcell1 i p hp;rw[hx] at hx2;simp only[Option.some.injEq] at hx2;subst hx2;obtain⟨vs,ev,hvs,h⟩:=hsh i;refine⟨by rw[C3];exact hcell,h _ ?_⟩;have:=Array.mem_of_getElem? hx;rw[ev] at this;simpa[Value.cells] using this
end Vs

namespace Vs
open Go
def rC(xs:List Int):Option (List Int):=if xs.length<4611686018427387904 then some (xs.mergeSort fun x y=>decide (x<=y)) else none
def Fb{xs ys:List Int}(h:rC xs=some ys):xs.length<4611686018427387904/\ys=xs.mergeSort fun x y=>decide (x<=y):=by
 unfold rC at h;split at h
 ·rename_i e;cases h;exact⟨e,rfl⟩
 ·cases h
def IZ{xs ys:List Int}(h:rC xs=some ys):ys.length=xs.length:=by
 rw[(Fb h).2,F0]
def YR(xs:List Int)(h:xs.length<4611686018427387904):∃l,rC xs=some l/\l.Perm xs/\l.Pairwise (·<=·):=by
 refine⟨_,if_pos h,List.mergeSort_perm _ _,?_⟩;have:=List.pairwise_mergeSort (le:=fun x y:Int=>decide (x<=y)) (by intro a b c;simp;omega) (by intro a b;simp;omega) xs;exact this.imp (by simp)
end Vs

namespace Vs
open Go Go.RowKit Go.Proofs
structure Qp(P:Program)(f:Nat):Prop where
 fn:∃fn,P.funcs[f]?=some fn/\fn.body.isNone=false/\(fn.name== "runtime.NumGoroutine")=false
 nil0:∀(p:Option Addr)(cap:Nat)(w:World),Calls P f #[.slice p 0 cap] w fun e w'=>e=.returned (.tuple #[])/\w'=w
 srt:∀(zs:List Int)(b o cap:Nat)(w:World),(∀(j:Nat) x,zs[j]?=some x->w.cell? ⟨b,o+j,none⟩=some (.int .i64 x))->eP w b (o+cap)->zs.length<=cap->b<w.heap.size->zs.length<4611686018427387904->
  Calls P f #[.slice (some ⟨b,o,none⟩) zs.length cap] w fun e w'=>e=.returned (.tuple #[])/\mi w w' b/\eP w' b (o+cap)/\
   ∀(j:Nat) x,(zs.mergeSort fun x y=>decide (x<=y))[j]?=some x->w'.cell? ⟨b,o+j,none⟩=some (.int .i64 x)
def adv{P:Program}{ρ:Go.Shelf.Ren}(L:Lays.n189 P ρ)(hfn:∃fn,P.funcs[ρ.f 189]?=some fn/\fn.body.isNone=false/\(fn.name== "runtime.NumGoroutine")=false):Qp P (ρ.f 189) where
 fn:=hfn
 nil0:=fun p cap w=>Any.slices_Sort_int_none L p cap w
 srt:=by
  intro zs b o cap w hv hfree hmc hb hbig;have hH:Sort.Holds (Value.int .i64) w b o zs.toArray:=by
   intro j hj;rw[J3] at hj;have e:zs.toArray[j]! =zs[j]:=by rw[getElem!_pos _ j (by simpa using hj)];rfl
   rw[e];refine⟨hv j _ (A2 hj),?_⟩;obtain⟨c,ty,e1,_⟩:=hfree;unfold World.frozen?;rw[e1];simp
  refine(Any.slices_Sort_int L b o cap zs w hH hb hbig).mono ?_;rintro e w' ⟨rfl,m,os,rfl⟩;have hs:(Sort.putRow (Value.int .i64) (Sort.ahead w m) b o (zs.mergeSort fun x y=>decide (x<=y)).toArray).heap.size=w.heap.size:=by simp[Sort.putRow,Sort.mapBlock,Sort.ahead]
  refine⟨rfl,⟨rfl,rfl,rfl,?_,?_,?_,?_⟩,?_,fun j x hj=>?_⟩
  ·show w.drawn<=w.drawn+m;omega
  ·show w.heap.size<=(Sort.grow _ os).heap.size;rw[Sort.size_grow,hs];omega
  ·intro c hc hne;show(Sort.grow _ os).heap[c]?=_;rw[Sort.heap_grow_old _ _ (by rw[hs];exact hc)];simp only[Sort.putRow,Sort.mapBlock];rw[B9,if_neg (fun e=>hne e.symm)];rfl
  ·intro a ha;show(Sort.grow _ os).frozen? a=_;rw[Sort.frozen?_grow _ _ _ (by rw[hs];exact ha)];rw[Sort.frozen?_putRow];rfl
  ·obtain⟨c,ty,h1,h2⟩:=hfree;refine⟨Sort.putCells (Value.int .i64) o (zs.mergeSort fun x y=>decide (x<=y)).toArray c,ty,?_,by simp[Sort.putCells];exact h2⟩;show(Sort.grow _ os).heap[b]?=_;rw[Sort.heap_grow_old _ _ (by rw[Sort.size_putRow];exact hb)];simp only[Sort.putRow,Sort.mapBlock,B9,if_true];show((Sort.ahead w m).heap[b]?).map _=_;rw[show(Sort.ahead w m).heap[b]?=w.heap[b]? from rfl,h1];rfl
  ·show(Sort.grow _ os).cell? _=_;rw[Sort.cell?_grow _ _ _ (by rw[Sort.size_putRow];exact hb)];have hj':j<(zs.mergeSort fun x y=>decide (x<=y)).toArray.size:=by rw[J3];exact(A0.1 hj).1
   have:=Sort.cell?_putRow (Value.int .i64) (Sort.ahead w m) b o zs.toArray (zs.mergeSort fun x y=>decide (x<=y)).toArray (Sort.holds_ahead _ _ _ _ _ _ hH) (by simp[F0]) j hj';refine this.trans ?_;rw[getElem!_pos _ j hj',List.getElem_toArray,(A0.1 hj).2]
def JT{P:Program}{f:Nat}(L:Qp P f){xs ys:List Int}{n:Nat}(hn:n=xs.length)(h:rC xs=some ys):
 OkM P f [.sl 1000000000 0 n] [(1000000000,.arr 1 (xs.map AV.i))] (.tup []) [(1000000000,.arr 1 (ys.map AV.i))]:=by
 obtain⟨hbig,rfl⟩:=Fb h;refine⟨L.fn,fun w0 w tag β vs hbel hold hlt hrows hwf hvs hat _=>?_⟩;have hlk:∀(row:Row)(r:Nat),aC r [(1000000000,row)]=if r=1000000000 then some row else none:=fun row r=>by
  show(if 1000000000=r then some row else none)=_;by_cases e:r=1000000000
  ·simp[e]
  ·rw[if_neg e,if_neg (fun h=>e h.symm)]
 have h0:=(hat 0 _ rfl).1;have hv1:vs=#[vs.getD 0 undef]:=by
  apply K9
  ·rw[hvs];rfl
  ·intro i hi hj;have:i=0:=by simpa using hj
   subst this;simp[hi]
 generalize vs.getD 0 undef=v0 at h0 hv1;subst hv1;have hrow:=hrows 1000000000;rw[hlk,if_pos rfl] at hrow;have idle:∀(p:Option Addr)(cap:Nat),xs=[]->v0=.slice p 0 cap->Calls P f #[v0] w fun e w'=>∃v tag' β',e=.returned v/\Below 0 w w'/\(∀b,b<w.heap.size->tag b=.imm\/tag b=.out->tag' b=tag b/\w'.heap[b]?=w.heap[b]?)/\
  (∀b,Imm tag b->Imm tag' b/\w'.heap[b]?=w.heap[b]?)/\(∀b,tag' b≠.out->b<w'.heap.size)/\(∀r,ct w' tag' w0.heap.size β' r (aC r [(1000000000,Row.arr 1 ((xs.mergeSort fun x y=>decide (x<=y)).map AV.i))]))/\Wf [(1000000000,Row.arr 1 ((xs.mergeSort fun x y=>decide (x<=y)).map AV.i))]/\
  (∀r,1000000000<=r->cH (aC r [(1000000000,Row.arr 1 ((xs.mergeSort fun x y=>decide (x<=y)).map AV.i))])->β' r=β r)/\Rep w' (Imm tag') w0.heap.size β' v (.tup [])/\∀r∈(AV.tup []).ments,(aC r [(1000000000,Row.arr 1 ((xs.mergeSort fun x y=>decide (x<=y)).map AV.i))]).isSome:=by
  intro p cap hxs hv0;subst hxs hv0;refine(L.nil0 p cap w).mono ?_;rintro e w' ⟨rfl,rfl⟩;rw[List.mergeSort_nil];exact⟨_,tag,β,rfl,.refl _ _,fun b _ _=>⟨rfl,rfl⟩,fun b hb=>⟨hb,rfl⟩,hlt,hrows,hwf,fun _ _ _=>rfl,.tup #[] [] rfl (fun j x hj=>by simp at hj),fun r hr=>by simp[AV.ments,aP] at hr⟩
 rcases hrow with⟨hb0,hes⟩|⟨b,o,cap,es,fps,hb0,⟨hb1,hb2,hb3⟩,hb4,hb5,hb6,hb7,hb8⟩
 ·have hxs:xs=[]:=E6.1 hes;cases h0 with
  |p _ _ hp=>cases hp
  |slB r i n b o sz cap len c hh=>rw[hb0] at hh;cases hh
  |slE r i b o sz cap len p hh=>rw[hb0] at hh;cases hh
  |slN r hh=>subst hxs;exact idle none 0 rfl rfl
  |slD r i n v hh=>rw[hb0] at hh;cases hh
 ·rw[A7] at hb0 hb4 hb7 hb8;have hcv:v0=.slice (some ⟨b,o,none⟩) n cap\/n=0/\∃p c,v0=.slice p 0 c:=by
   cases h0 with
   |p _ _ hp=>cases hp
   | slB r i n b' o' sz cap' len c hh hc =>
     rw[hb0] at hh;cases hh;have:c=cap:=by omega
     subst this;exact .inl (by simp)
   |slE r i b' o' sz cap' len p hh=>exact .inr ⟨rfl,_,_,rfl⟩
   |slN r hh=>rw[hb0] at hh;cases hh
   |slD r i n v hh=>rw[hb0] at hh;cases hh
  by_cases hx0:xs=[]
  ·have hn0:n=0:=by rw[hn,hx0];rfl
   rcases hcv with e|⟨_,p,c,e⟩
   ·exact idle _ cap hx0 (by rw[e,hn0])
   ·exact idle p c hx0 e
  have hpos:0<xs.length:=I6.2 hx0;have hv0:v0=.slice (some ⟨b,o,none⟩) xs.length cap:=by
   rcases hcv with e|⟨e,_⟩
   ·rw[e,hn]
   ·omega
  subst hv0;have hbl:b<w.heap.size:=hlt b (by rw[hb1];simp);have hnb:∀c,Imm tag c->c≠b:=fun c hc e=>by
   rw[e] at hc;rcases hc with hc|⟨r,hc⟩<;>rw[hb1] at hc<;>cases hc
  simp only[Nat.mul_one] at hb3 hb5;have hval:∀(j:Nat) x,xs[j]?=some x->es j=.int .i64 x:=fun j x hj=>by
   have:=hb6 j (.i x) (by simp[hj]);generalize es j=e at this⊢;generalize fps j=fp at this;cases this with
   |sc v h=>rfl
  refine(L.srt xs b o cap w (fun j x hj=>by
   have h1:=(hb5 j (.i x) (by simp[hj])).2 0 (.int .i64 x) (by rw[hval j x hj];rfl);exact h1.1) hb3 hb4 hbl hbig).mono ?_
  rintro e w' ⟨rfl,hN,hfree,hva⟩;have hblk:∀c,c<w.heap.size->c≠b->w'.heap[c]?=w.heap[c]?:=hN.block;have himmk:∀c,Imm tag c->Imm tag c/\w'.heap[c]?=w.heap[c]?:=fun c hc=>⟨hc,hblk c (hlt c (by rcases hc with e|⟨r,e⟩<;>rw[e]<;>simp)) (hnb c hc)⟩;have hyl:(xs.mergeSort fun x y=>decide (x<=y)).length=xs.length:=F0 _;refine⟨_,tag,β,rfl,⟨⟨hN.os,hN.tape,hN.output,hN.size,fun c hc=>by omega⟩,hN.frz,hN.drawn⟩,fun c hc ht=>⟨rfl,hblk c hc (fun e=>by rw[e,hb1] at ht;rcases ht with ht|ht<;>cases ht)⟩,himmk,fun c hc=>A3 (hlt c hc) hN.size,fun r=>?_,fun q x hx=>?_,fun _ _ _=>rfl,.tup #[] [] rfl (fun j x hj=>by simp at hj),fun r hr=>by simp[AV.ments,aP] at hr⟩
  ·rw[hlk];split
   ·rename_i e;subst e;refine .inr ⟨b,o,cap,fun j=>.int .i64 ((xs.mergeSort fun x y=>decide (x<=y)).getD j 0),fun _=>[],by rw[A7,hyl];exact hb0,⟨hb1,hb2,by simpa using hfree⟩,by rw[A7,hyl];exact hb4,fun j x hj=>?_,fun j x hj=>?_,?_,?_⟩
    ·rw[A5,B1] at hj;obtain⟨z,hz,rfl⟩:=hj;have e1:(xs.mergeSort fun x y=>decide (x<=y)).getD j 0=z:=by rw[C4,hz];rfl
     refine⟨rfl,fun i y hy=>?_⟩;dsimp only at hy⊢;rw[e1] at hy;have hi:i=0:=by
      have:=(B5.1 hy).1;simpa[Value.cells] using this
     subst hi;have:y=.int .i64 z:=by simpa[Value.cells,eq_comm] using hy
     subst this;refine⟨?_,rfl⟩;have:=hva j z hz;simpa using this
    ·rw[A5,B1] at hj;obtain⟨z,hz,rfl⟩:=hj;have e1:(xs.mergeSort fun x y=>decide (x<=y)).getD j 0=z:=by rw[C4,hz];rfl
     dsimp only;rw[e1];exact .sc _ rfl
    ·rw[bA _ _ (fun _ _=>rfl)];exact I3
    ·rw[bA _ _ (fun _ _=>rfl)];intro c hc;cases hc
   ·rename_i e;have hr:=hrows r;rw[hlk,if_neg e] at hr;exact hr
  ·rw[hlk] at hx;split at hx<;>cases hx
end Vs

namespace Vs
open Go
variable{α B:Type}
theorem aA{n:Int}(h1:-9223372036854775808<=n)(h2:n<=9223372036854775807):IntKind.wrap .i64 n=n:=by
 rw[IntKind.wrap_i64];omega
def dm{n:Nat}(h:n<18446744073709551616):n<N0:=by unfold N0;omega
theorem bT{S:Type}{f:S->Option (S⊕B)}(I:S->Prop)(μ:S->Nat)(Q:B->Prop)
 (hs:∀s,I s->(∃s',f s=some (.inl s')/\I s'/\μ s'<μ s)\/∃b,f s=some (.inr b)/\Q b):∀(n:Nat)(s:S),I s->μ s<n->∃b,aW f n s=some b/\Q b
 |0,_,_,h=>by omega
 | n + 1, s, hI, hn => by
   rcases hs s hI with⟨s',h1,h2,h3⟩|⟨b,h1,h2⟩
   ·obtain⟨b,hb,hq⟩:=bT I μ Q hs n s' h2 (by omega);exact⟨b,by simp[aW,h1,hb],hq⟩
   ·exact⟨b,by simp[aW,h1],h2⟩
def bX{α A B:Type}(step:Nat->α->A->A⊕B)(fin:A->B):Nat->List α->A->B
 |_,[],a=>fin a
 | i, x :: xs, a => match step i x a with
   | .inl a'=>bX step fin (i+1) xs a'
   | .inr b=>b
def dg{A S:Type}{f:S->Option (S⊕B)}(xs:List α)(st:Nat->A->S)(step:Nat->α->A->A⊕B)(fin:A->B)(I:Nat->A->Prop)
 (h1:∀i a x,xs[i]?=some x->I i a->(∃a',step i x a=.inl a'/\I (i+1) a'/\f (st i a)=some (.inl (st (i+1) a')))\/∃b,step i x a=.inr b/\f (st i a)=some (.inr b))
 (h2:∀a,I xs.length a->f (st xs.length a)=some (.inr (fin a))) (a0:A) (h0:I 0 a0) (hl:xs.length<18446744073709551615):
 aW f N0 (st 0 a0)=some (bX step fin 0 xs a0):=by
 have key:∀(ys:List α)(i:Nat)(a:A)(n:Nat),xs.drop i=ys->i<=xs.length->I i a->ys.length<n->aW f n (st i a)=some (bX step fin i ys a):=by
  intro ys;induction ys with
  | nil =>
    intro i a n hd hi hI hn;have:i=xs.length:=by
     have:=congrArg K1 hd;simp at this;omega
    subst this;cases n with
    |zero=>simp at hn
    |succ n=>simp[aW,h2 a hI,bX]
  | cons y ys ih =>
    intro i a n hd hi hI hn;have hx:xs[i]?=some y:=by
     have:=congrArg (·[0]?) hd;simpa using this
    have hlt:i<xs.length:=(A0.1 hx).1;have hd':xs.drop (i+1)=ys:=by
     have:=congrArg (List.drop 1) hd;simpa[G1,G0] using this
    cases n with
    |zero=>simp at hn
    | succ n =>
      simp only[F4] at hn;rcases h1 i a y hx hI with⟨a',e1,e2,e3⟩|⟨b,e1,e2⟩
      ·simp only[aW,e3,bX,e1];exact ih (i+1) a' n hd' (by omega) e2 (by omega)
      ·simp only[aW,e2,bX,e1]
 exact key xs 0 a0 N0 (by simp) (by omega) h0 (dm (by omega))
theorem ul(p:α->Bool)(bad ok:B):∀(xs:List α)(i:Nat),bX (fun _ x(_:Unit)=>if p x then .inr bad else .inl ()) (fun _=>ok) i xs ()=if xs.any p then bad else ok
 |[],i=>rfl
 | x :: xs, i => by
   simp only[bX,K8];by_cases h:p x=true
   ·simp[h]
   ·simp only[E3] at h;simp[h,ul p bad ok xs (i+1)]
theorem aR(xs:List α)(i:Nat):bE xs (i:Int)=xs[i]?:=by simp[bE]
def gT{f:Int->Option (Int⊕B)}(xs:List α)(p:α->Bool)(bad ok:B)(h1:∀(i:Nat) x,xs[i]?=some x->f i=some (if p x then .inr bad else .inl ((i+1:Nat):Int)))
 (h2:f xs.length=some (.inr ok)) (hl:xs.length<18446744073709551615):aW f N0 0=some (if xs.any p then bad else ok):=by
 have:=dg (f:=f) xs (fun i(_:Unit)=>(i:Int)) (fun _ x _=>if p x then .inr bad else .inl ()) (fun _=>ok) (fun _ _=>True)
  (fun i a x hx _=>by
   cases h:p x
   ·exact .inl ⟨(),by simp,trivial,by rw[h1 i x hx,h];simp⟩
   ·exact .inr ⟨bad,by simp,by rw[h1 i x hx,h];simp⟩) (fun a _=>h2) () trivial hl
 rw[ul] at this;exact this
def iZ{β:Type}{f:Int×List β->Option ((Int×List β)⊕List β)}(xs:List α)(c:α->β)(l0:List β)(hl0:l0.length=xs.length)
 (h1:∀(i:Nat)(l:List β) x y,xs[i]?=some x->l[i]?=some y->l.length=xs.length->f (i,l)=some (.inl (((i+1:Nat):Int),l.set i (c x))))
 (h2:∀l,f (xs.length,l)=some (.inr l)) (hl:xs.length<18446744073709551615):aW f N0 (0,l0)=some (xs.map c):=by
 have key:∀(ys:List α)(i:Nat)(l:List β)(n:Nat),xs.drop i=ys->i<=xs.length->l.length=xs.length->l.take i=(xs.take i).map c->ys.length<n->aW f n ((i:Int),l)=some (xs.map c):=by
  intro ys;induction ys with
  | nil =>
    intro i l n hd hi hll hI hn;have:i=xs.length:=by
     have:=congrArg K1 hd;simp at this;omega
    subst this;rw[C2 (by omega),C2 (by omega)] at hI;cases n with
    |zero=>simp at hn
    |succ n=>simp[aW,h2,hI]
  | cons y ys ih =>
    intro i l n hd hi hll hI hn;have hx:xs[i]?=some y:=by
     have:=congrArg (·[0]?) hd;simpa using this
    have hlt:i<xs.length:=(A0.1 hx).1;have hd':xs.drop (i+1)=ys:=by
     have:=congrArg (List.drop 1) hd;simpa[G1,G0] using this
    cases n with
    |zero=>simp at hn
    | succ n =>
      simp only[F4] at hn;simp only[aW,h1 i l y l[i] hx (A2 (by omega)) hll];refine ih (i+1) _ n hd' (by omega) (by simpa using hll) ?_ (by omega);have e1:xs.take (i+1)=xs.take i++[y]:=by
       rw[G8,hx];rfl
      rw[e1,I2,<-hI,G8,List.take_set_of_le (by omega),List.getElem?_set_self (by omega)];rfl
 exact key xs 0 l0 N0 (by simp) (by omega) hl0 (by simp) (dm (by omega))
theorem bg{p:Prop}[Decidable p](h:p):grd p=some ():=by simp[grd,h]
theorem fg(c:Bool)(a b:α):cond c a b=if c=true then a else b:=by cases c<;>rfl
end Vs

namespace Vs
open Go
theorem lT{α:Type}(sz:α->Nat):∀{xs:List α}{i:Nat}{x:α},xs[i]?=some x->sz x<=(xs.map sz).sum
 |y::ys,0,x,h=>by simp at h;subst h;simp
 | y :: ys, i + 1, x, h => by
   have:=lT sz (xs:=ys) (i:=i) (x:=x) (by simpa using h);simp;omega
 |[],i,x,h=>by simp at h
def Du{α:Type}{f:Int×Int->Option ((Int×Int)⊕(Int⊕Int))}(xs:List α)(sz:α->Nat)
 (h1:∀(i:Nat) x(l:Int),xs[i]?=some x->0<=l->l<=1048576->f (l,(i:Int))=some (if l-sz x<0 then .inr (.inr (-1)) else .inl (l-sz x,((i+1:Nat):Int))))
 (h2:∀l,f (l,(xs.length:Int))=some (.inr (.inl l))) (l:Int) (h0:0<=l) (hl:l<=1048576) (hn:xs.length<18446744073709551615):
 aW f N0 (l,0)=some (if l-((xs.map sz).sum:Nat)<0 then .inr (-1) else .inl (l-((xs.map sz).sum:Nat))):=by
 have:=dg (f:=f) xs (fun i(a:Int)=>(a,(i:Int))) (fun _ x a=>if a-sz x<0 then .inr (.inr (-1)) else .inl (a-sz x)) (fun a=>.inl a) (fun _ a=>0<=a/\a<=1048576)
  (fun i a x hx hI=>by
   rw[h1 i x a hx hI.1 hI.2];by_cases h:a-sz x<0
   ·exact .inr ⟨_,by rw[if_pos h],by rw[if_pos h]⟩
   ·exact .inl ⟨a-sz x,by rw[if_neg h],⟨by omega,by omega⟩,by rw[if_neg h]⟩) (fun a _=>h2 a) l ⟨h0,hl⟩ hn
 have e:(((0:Nat)):Int)=0:=rfl;simp only[e] at this;rw[this];have gen:∀(ys:List α)(i:Nat)(a:Int),0<=a->bX (fun _ x(a:Int)=>if a-sz x<0 then Sum.inr (Sum.inr (-1)) else .inl (a-sz x)) (fun(a:Int)=>(Sum.inl a:Int⊕Int)) i ys a=
  if a-((ys.map sz).sum:Nat)<0 then .inr (-1) else .inl (a-((ys.map sz).sum:Nat)):=by
  intro ys;induction ys with
  |nil=>intro i a ha;simp[bX];omega
  | cons y ys ih =>
    intro i a ha;simp only[bX,D8,F6];by_cases h:a-sz y<0
    ·rw[if_pos h,if_pos (by omega)]
    ·rw[if_neg h];simp only;rw[ih (i+1) (a-sz y) (by omega)];have:a-(sz y:Int)-((ys.map sz).sum:Nat)=a-((sz y+(ys.map sz).sum:Nat):Int):=by omega
     rw[this]
 rw[gen xs 0 l h0]
def mY{α:Type}{f:Int->Option (Int⊕(Unit⊕Bool))}(xs:List α)(h1:∀(i:Nat) x,xs[i]?=some x->f (i:Int)=some (.inl ((i+1:Nat):Int)))(h2:f (xs.length:Int)=some (.inr (.inl ())))
 (hn:xs.length<18446744073709551615):aW f N0 0=some (.inl ()):=by
 have:=gT (f:=f) xs (fun _=>false) (.inl ()) (.inl ()) (fun i x hx=>by rw[h1 i x hx];simp) h2 hn;simpa using this
def bl{α:Type}(mk:Int->α->Int×α):Int->List α->Int×List α
 |k,[]=>(k,[])
 |k,x::xs=>((bl mk (mk k x).1 xs).1,(mk k x).2::(bl mk (mk k x).1 xs).2)
theorem dw{α:Type}(mk:Int->α->Int×α):∀(xs:List α)(k:Int),(bl mk k xs).2.length=xs.length
 |[],k=>rfl
 |x::xs,k=>by simp[bl,dw mk xs]
theorem cS{α:Type}(mk:Int->α->Int×α)(w:α->Nat)(hw:∀k x,(mk k x).1=k+w x):∀(xs:List α)(k:Int),(bl mk k xs).1=k+((xs.map w).sum:Nat)
 |[],k=>by simp[bl]
 |x::xs,k=>by simp only[bl,cS mk w hw xs,hw,D8,F6];omega
theorem pV{α:Type}(mk:Int->α->Int×α)(w:α->Nat)(hw:∀k x,(mk k x).1=k+w x):∀(xs:List α)(k:Int)(i:Nat)(x:α),xs[i]?=some x->(bl mk k xs).2[i]?=some (mk (k+(((xs.take i).map w).sum:Nat)) x).2
 |y::ys,k,0,x,h=>by simp at h;subst h;simp[bl]
 | y :: ys, k, i + 1, x, h => by
   have:=pV mk w hw ys (mk k y).1 i x (by simpa using h);rw[hw] at this;simp only[bl,E7,B6,D8,F6,hw];rw[this];have e:k+(w y:Int)+(((ys.take i).map w).sum:Nat)=k+((w y+((ys.take i).map w).sum:Nat):Int):=by omega
   rw[e]
 |[],k,i,x,h=>by simp at h
theorem kj{α:Type}(w:α->Nat):∀(xs:List α)(i:Nat),((xs.take i).map w).sum<=(xs.map w).sum
 |[],i=>by simp
 |x::xs,0=>by simp
 | x :: xs, i + 1 => by
   have:=kj w xs i;simp only[B6,D8,F6];exact Nat.add_le_add_left this _
theorem iO{α:Type}(w:α->Nat):∀(xs:List α)(i:Nat)(x:α),xs[i]?=some x->((xs.take (i+1)).map w).sum=((xs.take i).map w).sum+w x
 |y::ys,0,x,h=>by simp at h;subst h;simp
 | y :: ys, i + 1, x, h => by
   have:=iO w ys i x (by simpa using h);simp only[B6,D8,F6] at this⊢;omega
 |[],i,x,h=>by simp at h
def jf{α:Type}{f:Int×Int×List α->Option ((Int×Int×List α)⊕(Int×List α))}(xs:List α)(mk:Int->α->Int×α)(w:α->Nat)(hw:∀k x,(mk k x).1=k+w x)(K:Int)
 (h1:∀(i:Nat) x k(l:List α),l.length=xs.length->i<xs.length->xs[i]?=some x->l[i]?=some x->0<=k->k+w x<=K->f (k,(i:Int),l)=some (.inl ((mk k x).1,((i+1:Nat):Int),l.set i (mk k x).2)))
 (h2:∀k(l:List α),l.length=xs.length->f (k,(xs.length:Int),l)=some (.inr (k,l))) (k0:Int) (hk:0<=k0) (hK:k0+((xs.map w).sum:Nat)<=K) (hn:xs.length<18446744073709551615):
 aW f N0 (k0,0,xs)=some (bl mk k0 xs):=by
 obtain⟨b,hb,h3⟩:=bT (f:=f) (fun s=>∃i:Nat,s.2.1=i/\i<=xs.length/\s.1=k0+(((xs.take i).map w).sum:Nat)/\s.2.2=(bl mk k0 xs).2.take i++xs.drop i) (fun s=>xs.length-s.2.1.toNat) (fun b=>b=bl mk k0 xs) (fun s hI=>by
  obtain⟨k,i',l⟩:=s;obtain⟨i,e1,e2,e3,e4⟩:=hI;simp only at e1 e3 e4;subst e1;subst e3;have hll:l.length=xs.length:=by rw[e4];simp[dw];omega
  by_cases h:i<xs.length
  ·left;have hx:xs[i]?=some xs[i]:=A2 h;have hm:=pV mk w hw xs k0 i xs[i] hx;have hle:=kj w xs (i+1);have hs:=iO w xs i xs[i] hx;have hli:l[i]?=some xs[i]:=by
    rw[e4,B8 (by simp[dw];omega)];simp[dw,K3 (J4 h),h]
   refine⟨_,h1 i xs[i] _ l hll h hx hli (by omega) (by omega),⟨i+1,rfl,by omega,?_,?_⟩,?_⟩
   ·simp only[hw,hs];omega
   ·simp only;rw[e4,List.set_append_right _ _ (by simp[dw];omega)];have hml:i<(bl mk k0 xs).2.length:=by rw[dw];exact h
    have e5:i-((bl mk k0 xs).2.take i).length=0:=by simp[dw];omega
    rw[e5,C8 h,List.set_cons_zero,G8,hm];simp
   ·simp only[Int.toNat_natCast];omega
  ·right;have:i=xs.length:=by omega
   subst this;refine⟨_,h2 _ l hll,?_⟩;have e5:(bl mk k0 xs).2.take xs.length=(bl mk k0 xs).2:=C2 (by rw[dw];omega);have e6:xs.take xs.length=xs:=C2 (D3 _);rw[e4,e5,List.drop_eq_nil_of_le (D3 _),I0,e6];exact Prod.ext (cS mk w hw xs k0).symm rfl) N0 (k0,0,xs) ⟨0,rfl,by omega,by simp,by simp⟩ (dm (by simp;omega))
 rw[hb,h3]
def ue{α:Type}{f:Int×Int->Option ((Int×Int)⊕(Int⊕Int))}(xs:List α)(mk:Int->α->Int×α)(w:α->Nat)(hw:∀k x,(mk k x).1=k+w x)(K k0:Int)
 (h1:∀(i:Nat) x k,xs[i]?=some x->(bl mk k0 xs).2[i]?=some (mk k x).2->0<=k->k+w x<=K->f (k,(i:Int))=some (.inl ((mk k x).1,((i+1:Nat):Int))))
 (h2:∀k,f (k,(xs.length:Int))=some (.inr (.inl k))) (hk:0<=k0) (hK:k0+((xs.map w).sum:Nat)<=K) (hn:xs.length<18446744073709551615):
 aW f N0 (k0,0)=some (.inl (bl mk k0 xs).1):=by
 obtain⟨b,hb,h3⟩:=bT (f:=f) (fun s=>∃i:Nat,s.2=i/\i<=xs.length/\s.1=k0+(((xs.take i).map w).sum:Nat)) (fun s=>xs.length-s.2.toNat) (fun b=>b=.inl (bl mk k0 xs).1) (fun s hI=>by
  obtain⟨k,i'⟩:=s;obtain⟨i,e1,e2,e3⟩:=hI;simp only at e1 e3;subst e1;subst e3;by_cases h:i<xs.length
  ·left;have hx:xs[i]?=some xs[i]:=A2 h;have hm:=pV mk w hw xs k0 i xs[i] hx;have hle:=kj w xs (i+1);have hs:=iO w xs i xs[i] hx;refine⟨_,h1 i xs[i] _ hx hm (by omega) (by omega),⟨i+1,rfl,by omega,?_⟩,?_⟩
   ·simp only[hw,hs];omega
   ·simp only[Int.toNat_natCast];omega
  ·right;have:i=xs.length:=by omega
   subst this;refine⟨_,h2 _,?_⟩;rw[cS mk w hw,C2 (D3 _)]) N0 (k0,0) ⟨0,rfl,by omega,by simp⟩ (dm (by simp;omega))
 rw[hb,h3]
end Vs
namespace Vs
open Go
def eT{α:Type}(p:Nat->α->Bool)(xs:List α):Bool:=xs.zipIdx.any fun q=>p q.2 q.1
def Fz{α:Type}{xs:List α}{i:Nat}{x:α}:(x,i)∈xs.zipIdx↔xs[i]?=some x:=List.mem_zipIdx_iff_getElem?
def gr{α:Type}{p:Nat->α->Bool}{xs:List α}:eT p xs=true↔∃i x,xs[i]?=some x/\p i x=true:=by
 unfold eT;rw[H1];constructor
 ·rintro⟨⟨x,i⟩,h1,h2⟩;exact⟨i,x,Fz.1 h1,h2⟩
 ·rintro⟨i,x,h1,h2⟩;exact⟨(x,i),Fz.2 h1,h2⟩
def dj{α:Type}{p:Nat->α->Bool}{xs:List α}:eT p xs=false↔∀i x,xs[i]?=some x->p i x=false:=by
 rw[<-E3,gr];constructor
 ·intro h i x hx;cases e:p i x with
  |false=>rfl
  |true=>exact(h ⟨i,x,hx,e⟩).elim
 ·rintro h ⟨i,x,hx,e⟩;rw[h i x hx] at e;cases e
def NZ{p:Nat->Prop}(n:Nat)(h:p n):∃m,p m/\∀k,k<m->¬p k:=by
 induction n using K4 with
 | _ n ih =>
   by_cases e:∃k,k<n/\p k
   ·obtain⟨k,hk,hp⟩:=e;exact ih k hk hp
   ·exact⟨n,h,fun k hk hp=>e ⟨k,hk,hp⟩⟩
def CJ{α:Type}{p:Nat->α->Bool}{xs:List α}(h:eT p xs=true):∃i x,xs[i]?=some x/\p i x=true/\∀j y,j<i->xs[j]?=some y->p j y=false:=by
 obtain⟨i,x,h1,h2⟩:=gr.1 h;obtain⟨m,⟨y,hy,hp⟩,hm⟩:=NZ (p:=fun i=>∃x,xs[i]?=some x/\p i x=true) i ⟨x,h1,h2⟩;refine⟨m,y,hy,hp,fun j z hj hz=>?_⟩;cases e:p j z with
 |false=>rfl
 |true=>exact(hm j hj ⟨z,hz,e⟩).elim
def BW{α:Type}{p q:Nat->α->Bool}{xs:List α}(h:∀i x,xs[i]?=some x->(∀j y,j<i->xs[j]?=some y->p j y=false)->p i x=q i x):eT p xs=eT q xs:=by
 cases e:eT p xs with
 | true =>
   obtain⟨i,x,hx,hp,hf⟩:=CJ e;symm;rw[gr];exact⟨i,x,hx,by rw[<-h i x hx hf];exact hp⟩
 | false =>
   have:=dj.1 e;symm;rw[dj];intro i x hx;rw[<-h i x hx fun j y _ hy=>this j y hy];exact this i x hx
def nq{α:Type}(p:α->Bool)(xs:List α):eT (fun _ x=>p x) xs=xs.any p:=by
 cases e:xs.any p with
 | true =>
   rw[gr];obtain⟨x,hx,hp⟩:=H1.1 e;obtain⟨i,hi,rfl⟩:=F8 hx;exact⟨i,xs[i],A2 hi,hp⟩
 | false =>
   rw[dj];intro i x hx;rw[J1] at e;have:=e x (C0 hx);simpa using this
def eB{α B:Type}{f:Int->Option (Int⊕B)}(xs:List α)(p:Nat->α->Bool)(bad ok:B)
 (h1:∀(i:Nat) x,xs[i]?=some x->(∀j y,j<i->xs[j]?=some y->p j y=false)->f (i:Int)=some (if p i x then .inr bad else .inl ((i+1:Nat):Int)))
 (h2:f (xs.length:Int)=some (.inr ok)) (hl:xs.length<18446744073709551615):aW f N0 0=some (if eT p xs then bad else ok):=by
 have:=dg (f:=f) xs (fun i(_:Unit)=>(i:Int)) (fun i x _=>if p i x then .inr bad else .inl ()) (fun _=>ok) (fun i _=>∀j y,j<i->xs[j]?=some y->p j y=false)
  (fun i a x hx hI=>by
   cases h:p i x
   ·refine .inl ⟨(),by simp,fun j y hj hy=>?_,by rw[h1 i x hx hI,h];simp⟩;rcases E8 j i with h2|h2
    ·exact hI j y h2 hy
    ·have:j=i:=by omega
     subst this;rw[hx] at hy;cases hy;exact h
   ·exact .inr ⟨bad,by simp,by rw[h1 i x hx hI,h];simp⟩) (fun a _=>h2) () (fun j y hj=>by omega) hl
 have e:(((0:Nat)):Int)=0:=rfl;simp only[e] at this;rw[this];have gen:∀(ys:List α)(i:Nat),bX (fun i x(_:Unit)=>if p i x then .inr bad else .inl ()) (fun _=>ok) i ys ()=if(ys.zipIdx i).any (fun q=>p q.2 q.1) then bad else ok:=by
  intro ys;induction ys with
  |nil=>intro i;rfl
  | cons y ys ih =>
    intro i;simp only[bX,H4,K8];by_cases h:p i y=true
    ·simp[h]
    ·simp only[E3] at h;simp only[h,A8,if_false,Bool.false_or];exact ih (i+1)
 rw[gen];rfl
def cU{α:Type}(p:Nat->α->Bool)(xs:List α):Option (Nat×α):=(xs.zipIdx.find? fun q=>p q.2 q.1).map fun q=>(q.2,q.1)
def dh{α B U:Type}{f:Int->Option (Int⊕(U⊕B))}(xs:List α)(p:Nat->α->Bool)(g:Nat->α->B)(u:U)
 (h1:∀(i:Nat) x,xs[i]?=some x->(∀j y,j<i->xs[j]?=some y->p j y=false)->f (i:Int)=some (if p i x then .inr (.inr (g i x)) else .inl ((i+1:Nat):Int)))
 (h2:f (xs.length:Int)=some (.inr (.inl u))) (hl:xs.length<18446744073709551615):aW f N0 0=some (match cU p xs with|some q=>.inr (g q.1 q.2)|none=>.inl u):=by
 have:=dg (f:=f) xs (fun i(_:Unit)=>(i:Int)) (fun i x _=>if p i x then .inr (.inr (g i x)) else .inl ()) (fun _=>.inl u) (fun i _=>∀j y,j<i->xs[j]?=some y->p j y=false)
  (fun i a x hx hI=>by
   cases h:p i x
   ·refine .inl ⟨(),by simp,fun j y hj hy=>?_,by rw[h1 i x hx hI,h];simp⟩;rcases E8 j i with h2|h2
    ·exact hI j y h2 hy
    ·have:j=i:=by omega
     subst this;rw[hx] at hy;cases hy;exact h
   ·exact .inr ⟨.inr (g i x),by simp,by rw[h1 i x hx hI,h];simp⟩) (fun a _=>h2) () (fun j y hj=>by omega) hl
 have e:(((0:Nat)):Int)=0:=rfl;simp only[e] at this;rw[this];have gen:∀(ys:List α)(i:Nat),bX (fun i x(_:Unit)=>if p i x then .inr (.inr (g i x)) else .inl ()) (fun _=>(.inl u:U⊕B)) i ys ()=
  match((ys.zipIdx i).find? fun q=>p q.2 q.1).map (fun q=>(q.2,q.1)) with|some q=>.inr (g q.1 q.2)|none=>.inl u:=by
  intro ys;induction ys with
  |nil=>intro i;rfl
  | cons y ys ih =>
    intro i;simp only[bX,H4,K5];by_cases h:p i y=true
    ·simp[h]
    ·simp only[E3] at h;simp only[h,A8,if_false];exact ih (i+1)
 rw[gen];rfl
def cT{α:Type}{p:Nat->α->Bool}{xs:List α}{i:Nat}{x:α}:cU p xs=some (i,x)↔xs[i]?=some x/\p i x=true/\∀j y,j<i->xs[j]?=some y->p j y=false:=by
 have gen:∀(ys:List α)(k:Nat),((ys.zipIdx k).find? fun q=>p q.2 q.1).map (fun q=>(q.2,q.1))=some (i,x)↔k<=i/\ys[i-k]?=some x/\p i x=true/\∀j y,k<=j->j<i->ys[j-k]?=some y->p j y=false:=by
  intro ys;induction ys with
  |nil=>intro k;simp
  | cons y ys ih =>
    intro k;simp only[H4,K5];cases h:p k y
    ·simp only[A8];rw[ih (k+1)];constructor
     ·rintro⟨h1,h2,h3,h4⟩;refine⟨by omega,?_,h3,fun j z hj hji hz=>?_⟩
      ·rw[show i-k=(i-(k+1))+1 by omega];simpa using h2
      ·rcases E8 k j with h5|h5
       ·exact h4 j z (by omega) hji (by rw[show j-k=(j-(k+1))+1 by omega] at hz;simpa using hz)
       ·have:j=k:=by omega
        subst this;simp at hz;subst hz;exact h
     ·rintro⟨h1,h2,h3,h4⟩;have hne:i≠k:=by
       rintro rfl;simp at h2;subst h2;rw[h] at h3;cases h3
      refine⟨by omega,?_,h3,fun j z hj hji hz=>h4 j z (by omega) hji ?_⟩
      ·rw[show i-k=(i-(k+1))+1 by omega] at h2;simpa using h2
      ·rw[show j-k=(j-(k+1))+1 by omega];simpa using hz
    ·simp only[H8,Option.some.injEq,Prod.mk.injEq];constructor
     ·rintro⟨rfl,rfl⟩;exact⟨D3 _,by simp,h,fun j z hj hji=>by omega⟩
     ·rintro⟨h1,h2,h3,h4⟩;have:k=i:=by
       apply Decidable.byContradiction;intro hne;have:=h4 k y (D3 _) (by omega) (by simp);rw[h] at this;cases this
      subst this;simp at h2;exact⟨rfl,h2⟩
 have:=gen xs 0;simp only[H5,C1,true_and] at this;unfold cU;rw[this];exact⟨fun h=>⟨h.1,h.2.1,fun j y=>h.2.2 j y trivial⟩,fun h=>⟨h.1,h.2.1,fun j y _=>h.2.2 j y⟩⟩
def ef{α:Type}{p:Nat->α->Bool}{xs:List α}:cU p xs=none↔∀i x,xs[i]?=some x->p i x=false:=by
 unfold cU;rw[Option.map_eq_none_iff,I7];constructor
 ·intro h i x hx;have:=h (x,i) (Fz.2 hx);simpa using this
 ·rintro h ⟨x,i⟩ hx;have:=h i x (Fz.1 hx);simp[this]
end Vs
namespace Vs
open Go
def iw{α A:Type}(g:Nat->α->A->A):Nat->List α->A->A
 |_,[],a=>a
 |i,x::xs,a=>iw g (i+1) xs (g i x a)
def mf{α A B S:Type}{f:S->Option (S⊕B)}(xs:List α)(st:Nat->A->S)(g:Nat->α->A->A)(fin:A->B)(I:Nat->A->Prop)
 (h1:∀i a x,xs[i]?=some x->I i a->I (i+1) (g i x a)/\f (st i a)=some (.inl (st (i+1) (g i x a))))
 (h2:∀a,I xs.length a->f (st xs.length a)=some (.inr (fin a))) (a0:A) (h0:I 0 a0) (hl:xs.length<18446744073709551615):
 aW f N0 (st 0 a0)=some (fin (iw g 0 xs a0)):=by
 rw[dg xs st (fun i x a=>.inl (g i x a)) fin I (fun i a x hx hI=>.inl ⟨g i x a,rfl,(h1 i a x hx hI).1,(h1 i a x hx hI).2⟩) h2 a0 h0 hl];have gen:∀(ys:List α)(i:Nat)(a:A),bX (fun i x a=>(.inl (g i x a):A⊕B)) fin i ys a=fin (iw g i ys a):=by
  intro ys;induction ys with
  |nil=>intro i a;rfl
  |cons y ys ih=>intro i a;exact ih (i+1) (g i y a)
 rw[gen]
def vI{n:Int}(h1:0<=n)(h2:n<18446744073709551616):IntKind.wrap .u64 n=n:=by
 rw[IntKind.wrap_u64];omega
end Vs

namespace Vs
open Go Go.RowKit
variable{P:Program}{f:Nat}{res:AV}{w:World}{S:Nat->Prop}{B:Nat}{v:Value}{args:List AV}{ins:List (Nat×Row)}
variable{H:World->Prop}{α:Type}{E:Fl->α->AV}{k:Nat}
def differ(w:World)(c:Nat)(hc:c<w.heap.size):∃W:World,W.heap[c]?≠w.heap[c]?/\∀b,b≠c->W.heap[b]?=w.heap[b]?:=by
 have key:∀ob:Obj,w.heap[c]?≠some ob->∃W:World,W.heap[c]?≠w.heap[c]?/\∀b,b≠c->W.heap[b]?=w.heap[b]?:=fun ob h=>
  ⟨{w with heap:=w.heap.setIfInBounds c ob},by
   grind,fun b hb=>by
   grind⟩
 by_cases h:w.heap[c]?=some (.cells #[] 0 (0,0))
 ·exact key (.cells #[undef] 0 (0,0)) (by rw[h];simp)
 ·exact key _ h
end Vs





namespace Vs
open Go
def yn{α:Type}(BY:Nat)(xs:List α)(i:Int)(ys:List α):Option (List α):=
 if 0<=i/\i.toNat<=xs.length/\0<ys.length/\(xs.length+ys.length)*BY<=140737488355328 then some (xs.take i.toNat++ys++xs.drop i.toNat) else none
def De{α:Type}{BY:Nat}{xs:List α}{i:Int}{ys zs:List α}(h:yn BY xs i ys=some zs):
 0<=i/\i.toNat<=xs.length/\0<ys.length/\(xs.length+ys.length)*BY<=140737488355328/\zs=xs.take i.toNat++ys++xs.drop i.toNat:=by
 unfold yn at h;split at h
 ·rename_i hc;obtain⟨a,b,c,d⟩:=hc;exact⟨a,b,c,d,(Option.some.inj h).symm⟩
 ·cases h
def xt{α:Type}{BY:Nat}{xs:List α}{i:Int}{ys zs:List α}(h:yn BY xs i ys=some zs):zs.length=xs.length+ys.length:=by
 obtain⟨h1,h2,h3,h4,rfl⟩:=De h;simp only[C6,D6,E4];omega
def TW{α:Type}{BY:Nat}{xs:List α}{i:Int}{ys zs:List α}(h:yn BY xs i ys=some zs)(j:Nat):
 zs[j]?=if j<i.toNat then xs[j]? else if j<i.toNat+ys.length then ys[j-i.toNat]? else xs[j-ys.length]?:=by
 obtain⟨h1,h2,h3,h4,rfl⟩:=De h;have hl:(xs.take i.toNat).length=i.toNat:=by rw[D6];omega
 by_cases c1:j<i.toNat
 ·rw[if_pos c1,D9,C9 (by omega),G2,if_pos c1]
 ·rw[if_neg c1];by_cases c2:j<i.toNat+ys.length
  ·rw[if_pos c2,D9,B8 (by omega),hl,C9 (by omega)]
  ·rw[if_neg c2,B8 (by rw[C6];omega),C6,hl,G3];congr 1;omega
end Vs

namespace Vs
open Go Go.RowKit
variable{w:World}{b t:Nat}{vs:List Value}{n k:Nat}{cs:List Value}{m:Nat}{w':World}{e:Ending}{c:Nat}
theorem oW(b:Nat):∀(vs:List Value)(o:Nat)(w:World)(c:Array Value)(ty:TypeId)(fr:Nat×Nat),w.heap[b]?=some (.cells c ty fr)->
 ∃c',(w.setCells b o vs).heap[b]?=some (.cells c' ty fr)/\c'.size=c.size
 |[],o,w,c,ty,fr,h=>⟨c,h,rfl⟩
 | v :: r, o, w, c, ty, fr, h => by
   have h1:(w.setCell ⟨b,o,none⟩ v).heap[b]?=some (.cells (c.setIfInBounds o v) ty fr):=by
    simp[World.setCell,B9,h]
   obtain⟨c',e1,e2⟩:=oW b r (o+1) _ _ ty fr h1;exact⟨c',e1,by rw[e2,Array.size_setIfInBounds]⟩
def iV(h:eP w b t)(o:Nat)(vs:List Value):eP (w.setCells b o vs) b t:=by
 obtain⟨c,ty,e1,e2⟩:=h;obtain⟨c',e3,e4⟩:=oW b vs o w c ty (0,0) e1;exact⟨c',ty,e3,by omega⟩
theorem iY:∀(vs:List Value)(o:Nat)(W:World),mi w W b->mi w (W.setCells b o vs) b
 |[],o,W,h=>h
 | v :: r, o, W, h => iY r (o + 1) _ ⟨h.os, h.tape, h.output, h.drawn, by rw [World.size_setCell]; exact h.size,
     fun c hc hb=>by rw[<-h.block c hc hb];simp[World.setCell,B9,Ne.symm hb],fun a ha=>by rw[World.frozen?_setCell];exact h.frz a ha⟩
def kM(w:World)(b:Nat):mi w w b:=⟨rfl,rfl,rfl,D3 _,D3 _,fun _ _ _=>rfl,fun _ _=>rfl⟩
def la{W:World}(h:mi w W b):mi w W.drew b:=⟨h.os,h.tape,h.output,J5 h.drawn,h.size,h.block,h.frz⟩
def qr{W:World}(h:mi w W b)(c:Array Value)(t:TypeId):mi w (W.alloc (.cells c t)) b:=
 ⟨h.os,h.tape,h.output,h.drawn,by rw[World.size_alloc];exact J5 h.size,fun x hx hb=>by rw[Below.heap_alloc _ _ _ (A3 hx h.size)];exact h.block x hx hb,
  fun a ha=>by rw[World.frozen?_alloc_old _ _ _ (Nat.ne_of_lt (A3 ha h.size))];exact h.frz a ha⟩
def oe(h:eP w b t)(q:Nat)(hq:q<t):(w.cell? ⟨b,q,none⟩).isSome=true:=by
 obtain⟨c,ty,e1,e2⟩:=h
 grind [World.cell?]
def sG(h:eP w b t)(q:Nat):w.frozen? ⟨b,q,none⟩=false:=by
 obtain⟨c,ty,e1,e2⟩:=h;simp[World.frozen?,e1]
def qB(h:eP w b t):∃ty n,w.shape? b=some (ty,n)/\t<=n:=by
 obtain⟨c,ty,e1,e2⟩:=h
 grind [World.shape?]
def TR(h:eP w b t):b<w.heap.size:=by
 obtain⟨c,ty,e1,e2⟩:=h
 grind
def kG{o:Nat}(h:eP w b t)(hl:o+vs.length<=t)(q:Nat):
 (w.setCells b o vs).cell? ⟨b,q,none⟩=if o<=q/\q<o+vs.length then vs[q-o]? else w.cell? ⟨b,q,none⟩:=by
 split
 ·rename_i hq;have:=World.cell?_setCells_in b vs o w (fun j hj=>oe h _ (by omega)) (q-o) (by omega)
  simp_all
 grind [World.cell?_setCells_out]
def RX(k:Nat)(w:World)(base:Option Addr)(c L:Nat)(rs:List Value)(e:Ending)(w':World):Prop:=
 ∃ b o c', e = .returned (.slice (some ⟨b, o, none⟩) L c') ∧ L ≤ c' ∧ (w.heap.size ≤ b ∨ base = some ⟨b, o, none⟩ ∧ c' = c) ∧ eP w' b (o + c' * k) ∧ mi w w' b ∧
   ∀j x,rs[j]?=some x->w'.cell? ⟨b,o+j,none⟩=some x
def Lw{a j:Nat}{x:Value}(ha:a<=cs.length)(h:(cs.take a++vs++cs.drop a)[j]?=some x):
 (j<a/\cs[j]?=some x)\/(a<=j/\j<a+vs.length/\vs[j-a]?=some x)\/(a+vs.length<=j/\j<vs.length+cs.length/\cs[j-vs.length]?=some x):=by
 grind
def BS{off i:Nat}(hF:eP w b (off+c*k))(hr:n+m<=c)(hi:i<n)(hcl:cs.length=n*k)(hvl:vs.length=m*k)
 (hcs:∀j v,cs[j]?=some v->w.cell? ⟨b,off+j,none⟩=some v)
 (h:e=.returned (.slice (some ⟨b,off,none⟩) (n+m) c)/\w'=(w.drew.setCells b (off+(i+m)*k) (cs.drop (i*k))).setCells b (off+i*k) vs):
 RX k w (some ⟨b,off,none⟩) c (n+m) (cs.take (i*k)++vs++cs.drop (i*k)) e w':=by
 obtain⟨rfl,rfl⟩:=h;have h1:=A4 k hr;have h2:=A4 k (J4 hi);rw[B3] at h1;have hF1:eP w.drew b (off+c*k):=hF;have hdl:(cs.drop (i*k)).length=n*k-i*k:=by rw[E4,hcl]
 refine⟨b,off,c,rfl,hr,.inr ⟨rfl,rfl⟩,iV (iV hF1 _ _) _ _,iY _ _ _ (iY _ _ _ (la (kM _ _))),fun j x hj=>?_⟩;rw[kG (iV hF1 _ _) (by rw[hvl];omega),kG hF1 (by grind),hdl,hvl,B3];rcases Lw (by omega) hj with⟨a1,a2⟩|⟨a1,a2,a3⟩|⟨a1,a2,a3⟩
 ·rw[if_neg (by omega),if_neg (by omega)];exact hcs j x a2
 ·grind
 grind
def Gq{off:Nat}(hF:eP w b (off+c*k))(hr:n+m<=c)(hcl:cs.length=n*k)(hvl:vs.length=m*k)
 (hcs:∀j v,cs[j]?=some v->w.cell? ⟨b,off+j,none⟩=some v)
 (h:e=.returned (.slice (some ⟨b,off,none⟩) (n+m) c)/\w'=w.setCells b (off+n*k) vs):
 RX k w (some ⟨b,off,none⟩) c (n+m) (cs.take (n*k)++vs++cs.drop (n*k)) e w':=by
 obtain⟨rfl,rfl⟩:=h;have h1:=A4 k hr;rw[B3] at h1;refine⟨b,off,c,rfl,hr,.inr ⟨rfl,rfl⟩,iV hF _ _,iY _ _ _ (kM _ _),fun j x hj=>?_⟩;rw[kG hF (by rw[hvl];omega),hvl];rcases Lw (by omega) hj with⟨a1,a2⟩|⟨a1,a2,a3⟩|⟨a1,a2,a3⟩
 ·rw[if_neg (by omega)];exact hcs j x a2
 ·rw[if_pos (by omega)];rw[show off+j-(off+n*k)=j-n*k by omega];exact a3
 ·omega
def sN{base:Option Addr}(hcl:cs.length=n*k)(hvl:vs.length=m*k)
 (h:∃(G:Nat)(tl:Array Value),n+m<=G/\tl.size=(G-(n+m))*k/\(∀x∈tl,x.oneCell'=true)/\e=.returned (.slice (some ⟨w.heap.size,0,none⟩) (n+m) G)/\
  w'=w.drew.alloc (.cells ((cs++vs).toArray++tl) t)):
 RX k w base c (n+m) (cs.take (n*k)++vs++cs.drop (n*k)) e w':=by
 obtain⟨G,tl,g1,g2,g3,rfl,rfl⟩:=h;have h1:=A4 k g1;rw[I5] at g2;refine⟨w.heap.size,0,G,rfl,g1,.inl (D3 _),⟨_,t,heap_alloc_new w.drew _,?_⟩,qr (la (kM _ _)) _ _,fun j x hj=>?_⟩
 ·grind
 ·rw[World.cell?_alloc_at (w:=w.drew) _ _ w.heap.size _ rfl,H7,<-hcl,J8,List.drop_length,I0] at*
  grind
def GX{base:Option Addr}{i:Nat}(hi:i<n)(hcl:cs.length=n*k)(hvl:vs.length=m*k)
 (h:∃(G:Nat)(tl:Array Value),n+m<=G/\tl.size=(G-(n+m))*k/\(∀x∈tl,x.oneCell'=true)/\e=.returned (.slice (some ⟨w.heap.size,0,none⟩) (n+m) G)/\
  ∃z:Array Value,z.size=(n+m-i)*k/\w'=(((w.alloc (.cells ((cs.take (i*k)).toArray++z++tl) t)).drew.setCells w.heap.size (i*k) vs).drew).setCells w.heap.size ((i+m)*k) (cs.drop (i*k))):
 RX k w base c (n+m) (cs.take (i*k)++vs++cs.drop (i*k)) e w':=by
 obtain⟨G,tl,g1,g2,g3,rfl,z,g4,rfl⟩:=h;have h1:=A4 k g1;have h2:=A4 k (J4 hi);rw[I5] at g2 g4;rw[B3] at h1 g2 g4;have hdl:(cs.drop (i*k)).length=n*k-i*k:=by rw[E4,hcl]
 have htl:(cs.take (i*k)).length=i*k:=by rw[D6];omega
 have hF:eP (w.alloc (.cells ((cs.take (i*k)).toArray++z++tl) t)).drew w.heap.size (G*k):=⟨_,t,heap_alloc_new w _,by
  grind⟩
 have hF2:eP (((w.alloc (.cells ((cs.take (i*k)).toArray++z++tl) t)).drew.setCells w.heap.size (i*k) vs).drew) w.heap.size (G*k):=iV hF _ _;refine⟨w.heap.size,0,G,rfl,g1,.inl (D3 _),by rw[H7];exact iV hF2 _ _,iY _ _ _ (la (iY _ _ _ (la (qr (kM _ _) _ _)))),fun j x hj=>?_⟩;rw[H7,kG hF2 (by grind),hdl,B3];have e1:∀q,(((w.alloc (.cells ((cs.take (i*k)).toArray++z++tl) t)).drew.setCells w.heap.size (i*k) vs).drew).cell? ⟨w.heap.size,q,none⟩=((w.alloc (.cells ((cs.take (i*k)).toArray++z++tl) t)).drew.setCells w.heap.size (i*k) vs).cell? ⟨w.heap.size,q,none⟩:=fun _=>rfl;rw[e1,kG hF (by rw[hvl];omega),hvl];rcases Lw (by omega) hj with⟨a1,a2⟩|⟨a1,a2,a3⟩|⟨a1,a2,a3⟩
 ·rw[if_neg (by omega),if_neg (by omega)];show(w.alloc _).cell? _=_
  grind [World.cell?_alloc_at,Array.getElem?_append_left]
 ·grind
 grind
structure InsC(P:Program)(f k BY:Nat):Prop where
 fn:∃fn,P.funcs[f]?=some fn/\fn.body.isNone=false/\(fn.name== "runtime.NumGoroutine")=false
 kp:0<k
 ins:∀(base:Option Addr)(n c i vb voff m vc:Nat)(cs vs:List Value)(w:World),i<=n->n<=c->0<m->m<=vc->(n+m)*BY<=140737488355328->
  (∀a,base=some a->a.spot=none/\a.block≠vb/\(0<c->eP w a.block (a.off+c*k)))->(base=none->c=0)->cs.length=n*k->vs.length=m*k->
  (∀a,base=some a->∀j v,cs[j]?=some v->w.cell? ⟨a.block,a.off+j,none⟩=some v)->(∀j v,vs[j]?=some v->w.cell? ⟨vb,voff+j,none⟩=some v)->
  eP w vb (voff+vc*k)->(∀v∈cs,v.oneCell'=true)->(∀v∈vs,v.oneCell'=true)->
  Calls P f #[.slice base n c,.int .i64 i,.slice (some ⟨vb,voff,none⟩) m vc] w (RX k w base c (n+m) (cs.take (i*k)++vs++cs.drop (i*k)))
def zj{o:Nat}{es:Nat->Value}{xs:List AV}(hk:0<k)(hn:n=xs.length)(hv:∀j x,xs[j]?=some x->(es j).cells.size=k/\dv w b (o+j*k) (es j)):
 ∃cs:List Value,cs.length=n*k/\(∀j v,cs[j]?=some v->w.cell? ⟨b,o+j,none⟩=some v)/\(∀v∈cs,v.oneCell'=true)/\∀j p,j<n->p<k->cs[j*k+p]?=(es j).cells[p]?:=by
 have hq:∀q,q<n*k->q/k<n/\q%k<k/\q=q/k*k+q%k:=fun q hq=>⟨I4 (by grind),Nat.mod_lt _ hk,by grind [Nat.mul_comm,Nat.div_add_mod]⟩;have hg:∀q,((C5 (n*k)).map fun q=>(es (q/k)).cells.getD (q%k) undef)[q]?=if q<n*k then some ((es (q/k)).cells.getD (q%k) undef) else none:=fun q=>by
  grind
 have hat:∀q,q<n*k->(es (q/k)).cells[q%k]?=some ((es (q/k)).cells.getD (q%k) undef)/\w.cell? ⟨b,o+q,none⟩=some ((es (q/k)).cells.getD (q%k) undef)/\((es (q/k)).cells.getD (q%k) undef).oneCell'=true:=fun q hql=>by
  obtain⟨a1,a2,a3⟩:=hq q hql;obtain⟨b1,b2⟩:=hv (q/k) _ (A2 (by omega));have e:(es (q/k)).cells[q%k]?=some ((es (q/k)).cells.getD (q%k) undef):=by
   rw[B0 (by omega)];simp[L0,b1,a2]
  obtain⟨c1,c2⟩:=b2 _ _ e
  grind
 refine⟨(C5 (n*k)).map fun q=>(es (q/k)).cells.getD (q%k) undef,by simp,fun j v hj=>?_,fun v hv'=>?_,fun j p hj hp=>?_⟩
 ·grind
 ·grind
 ·have hl:j*k+p<n*k:=by
   have:=A4 k (show j+1<=n from hj);rw[B3,G7] at this;omega
  have e1:(j*k+p)/k=j:=by rw[J2,Nat.mul_add_div hk,K0 hp];rfl
  grind
def WV{P:Program}{f BY:Nat}(L:InsC P f k BY){α:Type}(E:α->AV){xs ys zs:List α}{i:Int}(hn:n=xs.length)(hm:m=ys.length)(h:yn BY xs i ys=some zs):
 OkM P f [.sl 1000000000 0 n,.i i,.sl 1000000001 0 m] [(1000000000,.arr k (xs.map E)),(1000000001,.arr k (ys.map E))] (.sl 0 0 zs.length) [(0,.arr k (zs.map E))]:=by
 subst hn hm;obtain⟨hi0,hil,hml,hby,_⟩:=De h;have hzl:=xt h;have hza:=TW h;have hk:=L.kp;refine⟨L.fn,fun w0 w tag β vs hbel hold hlt hrows hwf hvs hat _=>?_⟩;have hr1:=hrows 1000000000;have hr2:=hrows 1000000001;have h0:=(hat 0 _ rfl).1;have h1:=(hat 1 _ rfl).1;have h2:=(hat 2 _ rfl).1;have hv3:vs=#[vs.getD 0 undef,vs.getD 1 undef,vs.getD 2 undef]:=by
  apply K9
  ·rw[hvs];rfl
  ·intro j hj _;rw[hvs] at hj;have:j=0\/j=1\/j=2:=by simp at hj;omega
   rcases this with rfl|rfl|rfl<;>simp[hvs]
 generalize vs.getD 0 undef=v0 at h0 hv3;generalize vs.getD 1 undef=v1 at h1 hv3;generalize vs.getD 2 undef=v2 at h2 hv3;subst hv3;have e1:v1=.int .i64 i:=by cases h1 with|p _ _ hp=>cases hp;rfl
 subst e1
 -- the row that is put in
 rcases hr2 with⟨_,hes⟩|⟨b2,o2,cap2,es2,fps2,hb2,⟨ht2,hB2,hF2⟩,hc2,hv2,hx2,hn2,hu2⟩
 ·have:ys=[]:=E6.1 hes;rw[this] at hml;cases hml
 rw[A7] at hb2 hc2 hn2 hu2;obtain⟨vc,e2,hvc,hmvc⟩:∃vc,v2=.slice (some ⟨b2,o2,none⟩) ys.length vc/\vc=cap2/\ys.length<=vc:=by
  generalize hL:ys.length=L' at h2;cases h2 with
  |p _ _ hp=>cases hp
  | slB r i n b o sz cap len c hh hc hn hl =>
    rw[hb2] at hh;cases hh;exact⟨c,by simp,by omega,hn⟩
  |slE r i b o sz cap len p hh hp=>omega
  |slN r hh=>omega
  |slD r i n v hh=>rw[hb2] at hh;cases hh
 subst e2 hvc;obtain⟨vl,hvl,hvr,hv1,hvp⟩:=zj hk (n:=ys.length) (by simp) hv2
 -- the row into which it is put
 obtain⟨base,c,cl,es1,fps1,e0,hnc,hbase,hnil,hcl,hcr,hc1,hcp,hx1,hn1,hu1,hob⟩:∃(base:Option Addr)(c:Nat)(cl:List Value)(es1:Nat->Value)(fps1:Nat->List Nat),v0=.slice base xs.length c/\xs.length<=c/\
  (∀a,base=some a->a.spot=none/\a.block≠b2/\(0<c->eP w a.block (a.off+c*k)))/\(base=none->c=0)/\cl.length=xs.length*k/\
  (∀a,base=some a->∀j v,cl[j]?=some v->w.cell? ⟨a.block,a.off+j,none⟩=some v)/\(∀v∈cl,v.oneCell'=true)/\
  (∀j p,j<xs.length->p<k->cl[j*k+p]?=(es1 j).cells[p]?)/\(∀j x,xs[j]?=some x->(es1 j).cells.size=k/\aV w (Imm tag) w0.heap.size (es1 j) (E x) (fps1 j))/\
  (cR xs.length fps1).Nodup/\(∀c∈cR xs.length fps1,tag c=.uq 1000000000)/\(∀a,base=some a->tag a.block=.own 1000000000/\w0.heap.size<=a.block):=by
  rcases hr1 with⟨hb1,hes⟩|⟨b1,o1,cap1,es1,fps1,hb1,⟨ht1,hB1,hF1⟩,hc1,hv1',hx1,hn1,hu1⟩
  ·have hxs:xs=[]:=E6.1 hes;subst hxs;have:v0=.slice none 0 0:=by
    generalize hL:([]:List α).length=L' at h0;cases h0 with
    |p _ _ hp=>cases hp
    |slB r i n b o sz cap len c hh=>rw[hb1] at hh;cases hh
    |slE r i b o sz cap len p hh=>rw[hb1] at hh;cases hh
    |slN r hh=>rfl
    |slD r i n v hh=>rw[hb1] at hh;cases hh
   exact⟨none,0,[],fun _=>undef,fun _=>[],this,C1 _,fun a ha=>(by cases ha),fun _=>rfl,by simp,fun a ha=>(by cases ha),fun v hv=>(by simp at hv),fun j p hj=>(by simp at hj),fun j x hj=>(by simp at hj),by simp[cR],by simp[cR],fun a ha=>(by cases ha)⟩
  ·rw[A7] at hb1 hc1 hn1 hu1;have hne:b1≠b2:=fun e=>by rw[e,ht2] at ht1;cases ht1
   obtain⟨cl,q1,q2,q3,q4⟩:=zj hk (n:=xs.length) (by simp) hv1';have hx1':∀j x,xs[j]?=some x->(es1 j).cells.size=k/\aV w (Imm tag) w0.heap.size (es1 j) (E x) (fps1 j):=fun j x hj=>
    ⟨(hv1' j (E x) (by rw[A5,hj];rfl)).1,hx1 j (E x) (by rw[A5,hj];rfl)⟩
   have hcv:(∃c,v0=.slice (some ⟨b1,o1,none⟩) xs.length c/\c=cap1)\/(xs.length=0/\cap1=0/\∃p,v0=.slice (some ⟨b1,p,none⟩) 0 0):=by
    generalize hL:xs.length=L' at h0 hb1;cases h0 with
    |p _ _ hp=>cases hp
    | slB r i n b o sz cap len c hh hc hn hl =>
      rw[hb1] at hh;cases hh;exact .inl ⟨c,by simp,by omega⟩
    | slE r i b o sz cap len p hh hp =>
      rw[hb1] at hh;cases hh;exact .inr ⟨rfl,hp.2.symm,p,rfl⟩
    |slN r hh=>rw[hb1] at hh;cases hh
    |slD r i n v hh=>rw[hb1] at hh;cases hh
   rcases hcv with⟨c,rfl,rfl⟩|⟨g1,g2,p,rfl⟩
   ·exact⟨some ⟨b1,o1,none⟩,c,cl,es1,fps1,rfl,hc1,fun a ha=>by cases ha;exact⟨rfl,hne,fun _=>hF1⟩,fun ha=>(by cases ha),q1,fun a ha=>by cases ha;exact q2,q3,q4,hx1',hn1,hu1,fun a ha=>by cases ha;exact⟨ht1,hB1⟩⟩
   ·have hcn:cl=[]:=H0.1 (by rw[q1,g1,J6]);subst hcn;exact⟨some ⟨b1,p,none⟩,0,[],es1,fps1,by rw[g1],by omega,fun a ha=>by cases ha;exact⟨rfl,hne,fun h=>absurd h (by omega)⟩,fun ha=>(by cases ha),by rw[g1,J6];rfl,fun a ha j v hj=>(by simp at hj),fun v hv=>(by simp at hv),fun j p hj=>(by omega),hx1',hn1,hu1,fun a ha=>by cases ha;exact⟨ht1,hB1⟩⟩
 subst e0;have hii:i=((i.toNat:Nat):Int):=(Int.toNat_of_nonneg hi0).symm;generalize i.toNat=q at hil hii hza;subst hii;refine(L.ins base xs.length c q b2 o2 ys.length vc cl vl w hil hnc hml hmvc hby hbase hnil hcl hvl hcr hvr hF2 hc1 hv1).mono ?_;rintro e w' ⟨b,o,c',rfl,hLc,hbo,hF,hN,hcell⟩;rw[<-hzl] at hLc
 -- b:old and of the row,or new
 have hbn:∀c,Imm tag c->c≠b:=fun x hx e=>by
  subst e;have hxl:=hlt x (by rcases hx with e|⟨r,e⟩<;>rw[e]<;>simp);rcases hbo with hge|⟨hb',_⟩
  ·omega
  ·have:=(hob _ hb').1;rcases hx with e|⟨r,e⟩<;>rw[e] at this<;>cases this
 have hbB:w0.heap.size<=b:=by
  rcases hbo with hge|⟨hb',_⟩
  ·exact F9 hbel.size hge
  ·exact(hob _ hb').2
 have hbt:b<w.heap.size->tag b=.own 1000000000:=fun hl=>by
  rcases hbo with hge|⟨hb',_⟩
  ·omega
  ·exact(hob _ hb').1
 have hkeep:∀x,Imm tag x->w'.heap[x]?=w.heap[x]?:=fun x hx=>hN.block x (hlt x (by rcases hx with e|⟨r,e⟩<;>rw[e]<;>simp)) (hbn x hx);let tag':Nat->Tag:=fun x=>if x=b then .own 0 else match tag x with| .uq _=>.uq 0|t=>t
 let β':Nat->Option Own:=fun r=>if r=0 then some (.blk b o k c' zs.length) else none
 have himm:∀x,Imm tag x->Imm tag' x:=fun x hx=>by
  have hx':=hbn x hx;simp only[Imm,tag',if_neg hx'];rcases hx with e|⟨r,e⟩
  ·rw[e];exact .inl rfl
  ·rw[e];exact .inr ⟨_,rfl⟩
 have huq:∀x,tag x=.uq 1000000000\/tag x=.uq 1000000001->tag' x=.uq 0:=fun x hx=>by
  have hx':x≠b:=hbn x (by rcases hx with e|e<;>exact .inr ⟨_,e⟩);simp only[tag',if_neg hx'];rcases hx with e|e<;>rw[e]
 let es':Nat->Value:=fun j=>if j<q then es1 j else if j<q+ys.length then es2 (j-q) else es1 (j-ys.length)
 let fps':Nat->List Nat:=fun j=>if j<q then fps1 j else if j<q+ys.length then fps2 (j-q) else fps1 (j-ys.length)
 have hcells:∀j,j<zs.length->∀p,p<k->(cl.take (q*k)++vl++cl.drop (q*k))[j*k+p]?=(es' j).cells[p]?:=fun j hj p hp=>by
  have hq1:=A4 k hil;have hlt':(cl.take (q*k)).length=q*k:=by rw[D6];omega
  simp only[es'];by_cases c1:j<q
  ·have:=A4 k (show j+1<=q from c1);rw[B3,G7] at this;rw[if_pos c1,D9,C9 (by omega),G2,if_pos (by omega)];exact hcp j p (by omega) hp
  ·have c1':q<=j:=by omega
   have hs1:=A4 k c1';rw[if_neg c1];by_cases c2:j<q+ys.length
   ·have:=A4 k (show j+1<=q+ys.length from c2);rw[B3,B3,G7] at this;rw[if_pos c2,D9,B8 (by omega),hlt',C9 (by omega)];rw[<-hvp (j-q) p (by omega) hp,I5];congr 1;omega
   ·have:=A4 k (show q+ys.length<=j by omega);rw[B3] at this;rw[if_neg c2,B8 (by rw[C6];omega),C6,hlt',G3,hvl];rw[<-hcp (j-ys.length) p (by omega) hp,I5];congr 1;omega
 have hel:∀j z,zs[j]?=some z->(es' j).cells.size=k/\aV w (Imm tag) w0.heap.size (es' j) (E z) (fps' j):=fun j z hj=>by
  rw[hza] at hj;simp only[es',fps'];by_cases c1:j<q
  ·rw[if_pos c1] at hj⊢;rw[if_pos c1];exact hx1 j z hj
  ·rw[if_neg c1] at hj⊢;rw[if_neg c1];by_cases c2:j<q+ys.length
   ·rw[if_pos c2] at hj⊢;rw[if_pos c2];exact⟨(hv2 _ (E z) (by rw[A5,hj];rfl)).1,hx2 _ (E z) (by rw[A5,hj];rfl)⟩
   ·rw[if_neg c2] at hj⊢;rw[if_neg c2];exact hx1 _ z hj
 obtain⟨n1,n1'⟩:=bN hn1;obtain⟨n2,n2'⟩:=bN hn2;have hft:∀j,j<zs.length->∀x∈fps' j,(∃j',j'<xs.length/\x∈fps1 j'/\(j<q/\j'=j\/q+ys.length<=j/\j'=j-ys.length))\/(q<=j/\j<q+ys.length/\x∈fps2 (j-q)):=fun j hj x hx=>by
  simp only[fps'] at hx;by_cases c1:j<q
  ·rw[if_pos c1] at hx;exact .inl ⟨j,by omega,hx,.inl ⟨c1,rfl⟩⟩
  ·rw[if_neg c1] at hx;by_cases c2:j<q+ys.length
   ·rw[if_pos c2] at hx;exact .inr ⟨by omega,c2,hx⟩
   ·rw[if_neg c2] at hx;exact .inl ⟨j-ys.length,by omega,hx,.inr ⟨by omega,rfl⟩⟩
 have hu1':∀j,j<xs.length->∀x∈fps1 j,tag x=.uq 1000000000:=fun j hj x hx=>hu1 x (bi.2 ⟨j,hj,hx⟩);have hu2':∀j,j<ys.length->∀x∈fps2 j,tag x=.uq 1000000001:=fun j hj x hx=>hu2 x (bi.2 ⟨j,hj,hx⟩);refine⟨_,tag',β',rfl,⟨⟨hN.os,hN.tape,hN.output,hN.size,fun c hc=>by omega⟩,hN.frz,hN.drawn⟩,fun x hx ht=>?_,fun x hx=>⟨himm x hx,hkeep x hx⟩,fun x hx=>?_,fun r=>?_,fun r x hr q hq=>?_,fun r hr hl=>?_,?_,fun r hr=>?_⟩
 ·have hxb:x≠b:=fun e=>by
   subst e;rcases ht with ht|ht<;>rw[hbt hx] at ht<;>cases ht
  refine⟨?_,hN.block x hx hxb⟩;simp only[tag',if_neg hxb];rcases ht with ht|ht<;>rw[ht]
 ·by_cases hxb:x=b
  ·rw[hxb];exact TR hF
  ·refine A3 (hlt x fun e=>hx ?_) hN.size;simp only[tag',if_neg hxb,e]
 ·by_cases er:r=0
  ·subst er;refine .inr ⟨b,o,c',es',fps',by rw[A7];exact if_pos rfl,⟨if_pos rfl,hbB,hF⟩,by rw[A7];exact hLc,fun j x hj=>?_,fun j x hj=>?_,?_,fun x hx=>?_⟩
   ·rw[A5,B1] at hj;obtain⟨z,hz,rfl⟩:=hj;obtain⟨s1,s2⟩:=hel j z hz;have hjl:=(A0.1 hz).1;refine⟨s1,fun p v hp=>?_⟩;have hpk:p<k:=by have:=(B5.1 hp).1;omega
    rw[<-hcells j hjl p hpk] at hp;refine⟨by rw[C3];exact hcell _ _ hp,?_⟩;have hm':=C0 hp;simp only[H9] at hm';rcases hm' with(hm'|hm')|hm'
    ·exact hc1 v (List.mem_of_mem_take hm')
    ·exact hv1 v hm'
    ·exact hc1 v (List.mem_of_mem_drop hm')
   ·rw[A5,B1] at hj;obtain⟨z,hz,rfl⟩:=hj;exact(hel j z hz).2.mono fun x hx=>⟨himm x hx,hkeep x hx⟩
   ·rw[A7];refine ed (fun j hj=>?_) (fun a b' ha hb' hab x hxa hxb=>?_)
    ·simp only[fps'];by_cases c1:j<q
     ·rw[if_pos c1];exact n1 j (by omega)
     ·rw[if_neg c1];by_cases c2:j<q+ys.length
      ·rw[if_pos c2];exact n2 _ (by omega)
      ·rw[if_neg c2];exact n1 _ (by omega)
    ·rcases hft a ha x hxa with⟨a',a1,a2,a3⟩|⟨a1,a2,a3⟩<;>rcases hft b' hb' x hxb with⟨b'',b1,b2',b3⟩|⟨b1,b2',b3⟩
     ·exact n1' a' b'' a1 b1 (by omega) x a2 b2'
     ·have t1:=hu1' a' a1 x a2;have t2:=hu2' _ (by omega) x b3;rw[t1] at t2;cases t2
     ·have t1:=hu2' _ (by omega) x a3;have t2:=hu1' b'' b1 x b2';rw[t1] at t2;cases t2
     ·exact n2' _ _ (by omega) (by omega) (by omega) x a3 b3
   ·rw[A7] at hx;obtain⟨j,hj,hxj⟩:=bi.1 hx;rcases hft j hj x hxj with⟨a',a1,a2,a3⟩|⟨a1,a2,a3⟩
    ·exact huq x (.inl (hu1' a' a1 x a2))
    ·exact huq x (.inr (hu2' _ (by omega) x a3))
  ·have:aC r [(0,Row.arr k (zs.map E))]=none:=if_neg fun e=>er e.symm;rw[this];exact if_neg er
 ·have:aC r [(0,Row.arr k (zs.map E))]=if 0=r then some (Row.arr k (zs.map E)) else none:=rfl
  rw[this] at hr;split at hr<;>cases hr
 ·have:aC r [(0,Row.arr k (zs.map E))]=none:=if_neg fun e=>by omega
  rw[this] at hl;exact hl.elim
 ·have:=Rep.slB (w:=w') (S:=Imm tag') (B:=w0.heap.size) (β:=β') 0 0 zs.length b o k c' zs.length c' (if_pos rfl) (H7 _) hLc (by omega);rw[J6,Nat.add_zero,hzl] at this;rw[hzl];exact this
 ·have:r=0:=by simpa[AV.ments] using hr
  rw[this];rfl
end Vs



