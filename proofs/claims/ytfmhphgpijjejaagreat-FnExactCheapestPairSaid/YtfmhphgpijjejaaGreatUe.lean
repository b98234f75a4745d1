/-
  Part of the proof that FnExactCheapestPair returns true at every input.
-/
import Derived.Test.YtfmhphgpijjejaaGreatUd
import Derived.Deep.Slices
import Derived.ChangeSame
import Derived.Test.YtfmhphgpijjejaaGreatUa
import Derived.Sort.Defs
import Derived.Sort.Statements
import Derived.Sort.AssemblyPlain
import Derived.Lib.BitFns
import Derived.Shelf.SlSortCmp.Whole1
import Derived.Shelf.SlSortCmp.WholeK
set_option linter.defProp false
set_option linter.unusedSimpArgs false
set_option linter.unusedVariables false
namespace Vs
open Go Go.RowKit
variable{P:Program}{n:Nat}{w0:World}{S0:Fx}{σ τ:St}{a:Act}{w w':World}{tag tag':Nat->Tag}{β β':Nat->Option Own}
theorem iL:∀{cs:List AV}{j:Nat}{x:AV},fzL cs=true->cs[j]?=some x->x.fz=true
 |[],j,x,_,h=>by simp at h
 |c::cs,0,x,h,hx=>by simp[fzL] at h;simp at hx;subst hx;exact h.1
 |c::cs,j+1,x,h,hx=>by simp[fzL] at h;exact iL h.2 (by simpa using hx)
theorem lA:∀{cs:List AV}{j:Nat}{x:AV},df cs=true->cs[j]?=some x->x.ouB=true
 |[],j,x,_,h=>by simp at h
 |c::cs,0,x,h,hx=>by simp[df] at h;simp at hx;subst hx;exact h.1
 |c::cs,j+1,x,h,hx=>by simp[df] at h;exact lA h.2 (by simpa using hx)
theorem aQ.mono_fz{S S':Nat->Prop}{B:Nat}{v:Value}{x:AV}{fp:List Nat}(h:aQ w S B v x fp)(hx:x.fz=true)
 (h1:∀b,S b->b<B->S' b/\w'.heap[b]?=w.heap[b]?):aQ w' S' B v x fp:=by
 induction h with
 |top v=>exact .top v
 |sc v h=>exact .sc v h
 |nil f n ad cap h=>exact .nil f n ad cap h
 | lst f n b o len cap xs vs fps hl hc hf hu hv hxx ih =>
   cases f<;>simp[AV.fz] at hx;obtain⟨f1,f2⟩:=hf;obtain⟨g1,g2⟩:=h1 b f1 f2;exact .lst .o n b o len cap xs vs fps hl hc ⟨g1,f2⟩ (fun e=>by cases e) (fun j x hj=>⟨(hv j x hj).1,(hv j x hj).2.mono g2⟩) fun j x hj=>ih j x hj (iL hx hj)
 |agg vs cs fps h h0 hxx ih=>simp only[AV.fz] at hx;exact .agg vs cs fps h h0 fun j x hj=>ih j x hj (iL hx hj)
 |tup vs cs fps h hxx ih=>simp only[AV.fz] at hx;exact .tup vs cs fps h fun j x hj=>ih j x hj (iL hx hj)
 |fn f vs cs fps h hxx ih=>simp only[AV.fz] at hx;exact .fn f vs cs fps h fun j x hj=>ih j x hj (iL hx hj)
 |ub b=>exact .ub b
 | bp f b o off v x hb hv hxx ih =>
   cases f<;>simp[AV.fz] at hx;obtain⟨f1,f2⟩:=hb;obtain⟨g1,g2⟩:=h1 b f1 f2;exact .bp .o b o off v x ⟨g1,f2⟩ (hv.mono g2) (ih hx)
theorem aQ.mono_ou{S S':Nat->Prop}{B:Nat}{v:Value}{x:AV}{fp:List Nat}(h:aQ w S B v x fp)(hx:x.ouB=true)
 (h1:∀b,S b->b<B->S' b/\w'.heap[b]?=w.heap[b]?) (h2:∀b,S b->b∈fp->S' b/\w'.heap[b]?=w.heap[b]?):aQ w' S' B v x fp:=by
 induction h with
 |top v=>exact .top v
 |sc v h=>exact .sc v h
 |nil f n ad cap h=>exact .nil f n ad cap h
 | lst f n b o len cap xs vs fps hl hc hf hu hv hxx ih =>
   cases f<;>simp[AV.ouB] at hx
   ·obtain⟨f1,f2⟩:=hf;obtain⟨g1,g2⟩:=h1 b f1 f2;exact .lst .o n b o len cap xs vs fps hl hc ⟨g1,f2⟩ (fun e=>by cases e) (fun j x hj=>⟨(hv j x hj).1,(hv j x hj).2.mono g2⟩) fun j x hj=>(hxx j x hj).mono_fz (iL hx hj) h1
   ·obtain⟨f1,f2⟩:=hf;obtain⟨g1,g2⟩:=h2 b f1 (by simp);refine .lst .u n b o len cap xs vs fps hl hc ⟨g1,f2⟩ (fun e=>(hu e).mono g2) (fun j x hj=>⟨(hv j x hj).1,(hv j x hj).2.mono g2⟩) fun j x hj=>ih j x hj (lA hx hj) fun c hS hc=>h2 c hS ?_;refine List.mem_append_right _ (aU.2 ⟨j,?_,hc⟩);rw[<-hl];exact(List.getElem?_eq_some_iff.1 hj).1
 | agg vs cs fps h h0 hxx ih =>
   simp only[AV.ouB] at hx;exact .agg vs cs fps h h0 fun j x hj=>ih j x hj (lA hx hj) fun c hS hc=>h2 c hS (aU.2 ⟨j,(List.getElem?_eq_some_iff.1 hj).1,hc⟩)
 |tup vs cs fps h hxx ih=>simp[AV.ouB] at hx
 |fn f vs cs fps h hxx ih=>simp[AV.ouB] at hx
 |ub b=>simp[AV.ouB] at hx
 |bp f b o off v x hb hv hxx ih=>simp[AV.ouB] at hx
theorem Rep.mono_fz{S S':Nat->Prop}{B:Nat}{v:Value}{x:AV}(h:Rep w S B β v x)(hx:x.fz=true)
 (hs:∀b,S b->b<B->S' b/\w'.heap[b]?=w.heap[b]?) (hb:∀r∈x.ments,β' r=β r\/β' r=none):Rep w' S' B β' v x:=by
 induction h with
 |p v x h=>exact .p v x (h.mono_fz hx hs)
 |slB r i n b o sz cap len c h hc hn hl=>exact(hb r (by simp[AV.ments])).elim (fun e=>.slB r i n b o sz cap len c (e.trans h) hc hn hl) (fun e=>.slD r i n _ e rfl)
 |slE r i b o sz cap len p h hp=>exact(hb r (by simp[AV.ments])).elim (fun e=>.slE r i b o sz cap len p (e.trans h) hp) (fun e=>.slD r i 0 _ e rfl)
 |slN r h=>exact(hb r (by simp[AV.ments])).elim (fun e=>.slN r (e.trans h)) (fun e=>.slD r 0 0 _ e rfl)
 |slD r i n v h h1=>exact .slD r i n v ((hb r (by simp[AV.ments])).elim (fun e=>e.trans h) id) h1
 |ptB r i off b o sz cap len h=>exact(hb r (by simp[AV.ments])).elim (fun e=>.ptB r i off b o sz cap len (e.trans h)) (fun e=>.ptD r i off _ e rfl)
 |ptD r i off v h h1=>exact .ptD r i off v ((hb r (by simp[AV.ments])).elim (fun e=>e.trans h) id) h1
 |tg f n len a xs hl h=>simp[AV.fz] at hx
 |agg vs cs hsz h1 hxx ih=>simp only[AV.fz] at hx;exact .agg vs cs hsz h1 (fun j x hj=>ih j x hj (iL hx hj) fun r hr=>hb r (by simpa[AV.ments] using br hj hr))
 |tup vs cs hsz hxx ih=>simp only[AV.fz] at hx;exact .tup vs cs hsz (fun j x hj=>ih j x hj (iL hx hj) fun r hr=>hb r (by simpa[AV.ments] using br hj hr))
 |fn f vs cs hsz hxx ih=>simp only[AV.fz] at hx;exact .fn f vs cs hsz (fun j x hj=>ih j x hj (iL hx hj) fun r hr=>hb r (by simpa[AV.ments] using br hj hr))
theorem co.mono_fz{B r:Nat}{row:Option Row}(h:co w tag B β r row)(hx:∀x,row=some x->x.fz=true)(hold:∀b,Imm tag b->b<B->Imm tag' b/\w'.heap[b]?=w.heap[b]?)
 (hown:∀b,tag b=.own r->tag' b=.own r/\w'.heap[b]?=w.heap[b]?) (huq:∀b,tag b=.uq r->tag' b=.uq r/\w'.heap[b]?=w.heap[b]?) (hr:β' r=β r)
 (hβ:∀x,row=some (.var x)->∀q∈x.ments,β' q=β q\/β' q=none):co w' tag' B β' r row:=by
 cases row with
 |none=>exact hr.trans h
 | some row => cases row with
   |dead=>exact hr.trans h
   | var x =>
     obtain⟨b,o,v,h1,⟨h2,h3,h4⟩,h5,h6,h7⟩:=h;exact⟨b,o,v,hr.trans h1,⟨(hown b h2).1,h3,h4.mono (hown b h2).2⟩,h5.mono (hown b h2).2,h6.mono_fz (hx _ rfl) hold (hβ x rfl),h7⟩
   | arr k es =>
     have hou:=hx _ rfl;simp only[Row.fz] at hou;rcases h with⟨h1,h2⟩|⟨b,o,cap,vs,fps,h1,⟨h2,h3,h4⟩,h5,h6,h7,h8,h9⟩
     ·exact .inl ⟨hr.trans h1,h2⟩
     ·exact .inr ⟨b,o,cap,vs,fps,hr.trans h1,⟨(hown b h2).1,h3,h4.mono (hown b h2).2⟩,h5,fun j x hj=>⟨(h6 j x hj).1,(h6 j x hj).2.mono (hown b h2).2⟩,
       fun j x hj=>(h7 j x hj).mono_ou (lA hou hj) hold fun c _ hc=>by
        have:=huq c (h9 c (aU.2 ⟨j,(List.getElem?_eq_some_iff.1 hj).1,hc⟩));exact⟨.inr ⟨r,this.1⟩,this.2⟩,h8,fun c hc=>(huq c (h9 c hc)).1⟩
def Hs(S0:Fx):Prop:=∀b,Imm S0.t b->S0.t b=.imm/\b<S0.w.heap.size
end Vs



namespace Vs
open Go Go.RowKit
variable{P:Program}{n:Nat}{w0:World}{S0:Fx}{σ τ:St}{a:Act}{w w':World}{tag tag':Nat->Tag}{β β':Nat->Option Own}
theorem aQ.cell{S:Nat->Prop}{B:Nat}{v:Value}{y x:AV}{fp:List Nat}{off:Nat}(h:aQ w S B v y fp)(hp:fO y off 1 false=some x)(hou:y.ouB=true)(hag:x.isAgg=false)(hw:x.width=1):
 ∃ u fx, v.cells[off]? = some u ∧ aQ w S B u x fx ∧ (∀ c ∈ fx, c ∈ fp) ∧
   ∀ (x' : AV), x'.isAgg = false → x'.width = 1 → x'.cells = [x'] → ∃ z, Vs.setPart y off x' = some z ∧ z.width = y.width ∧
     ∀(w':World)(S':Nat->Prop),fp.Nodup->aQ w' S' B u x' fx->(∀b,S b->b<B->S' b/\w'.heap[b]?=w.heap[b]?)->(∀b,S b->b∈fp->b∉fx->S' b/\w'.heap[b]?=w.heap[b]?)->aQ w' S' B v z fp:=by
 have hcx:x.cells=[x]:=by cases x<;>simp_all [AV.width,AV.isAgg,AV.cells]
 simp only[fO,Bool.false_eq_true,if_false] at hp;by_cases hy:y.isAgg=true
 ·cases y with
  | agg cs =>
    generalize hyy:AV.agg cs=yy at h;cases h with
    | agg vs cs' fps hs h1 hx =>
      cases hyy;simp only[AV.cells] at hp;have hlt:off<cs.length:=(List.getElem?_eq_some_iff.1 hp).1;refine⟨vs.getD off undef,fps off,by simp[Value.cells,Array.getD,hs,hlt],hx off x hp,fun c hc=>aU.2 ⟨off,hlt,hc⟩,fun x' a1 a2 a3=>?_⟩;have hfl:fill cs off x'=cs.set off x':=by
       unfold fill;rw[a3];simp only[List.length_singleton];rw[List.append_assoc,List.set_eq_take_append_cons_drop,if_pos hlt];rfl
      refine⟨.agg (cs.set off x'),?_,by simp[AV.width],fun w' S' hnd hu hs1 hs2=>?_⟩
      ·unfold Vs.setPart;rw[if_pos (show(AV.agg cs).isAgg=true from rfl),a1,if_neg (by simp),if_pos (show off+1<=(AV.agg cs).width from hlt)];simp only[AV.cells,hfl]
      ·simp only[AV.ouB] at hou;have:=aQ.agg (w:=w') (S:=S') (B:=B) vs (cs.set off x') fps (by simpa using hs) h1 fun j z hj=>by
        rw[List.getElem?_set] at hj;by_cases e:off=j
        ·subst e;rw[if_pos rfl,if_pos hlt] at hj;cases hj;exact hu
        ·rw[if_neg e] at hj;have hjl:j<cs.length:=(List.getElem?_eq_some_iff.1 hj).1;refine(hx j z hj).mono_ou (lA hou hj) hs1 fun c hS hc=>hs2 c hS (aU.2 ⟨j,hjl,hc⟩) fun hc'=>?_;exact(bI hnd).2 j off hjl hlt (Ne.symm e) c hc hc'
       simpa using this
    |top=>cases hyy
    |ub=>cases hyy
    |sc=>cases hyy
    |nil=>cases hyy
    |lst=>cases hyy
    |tup=>cases hyy
    |fn=>cases hyy
    |bp=>cases hyy
  |_=>simp[AV.isAgg] at hy
 ·simp only[Bool.not_eq_true] at hy;have hcy:y.cells=[y]:=by
   by_cases hw1:y.width=1
   ·cases y<;>simp_all [AV.width,AV.isAgg,AV.cells]
   ·have:y.cells=[]:=by cases y<;>simp_all [AV.width,AV.isAgg,AV.cells]
    rw[this] at hp;simp at hp
  rw[hcy] at hp;have h0:off=0:=by have:=(List.getElem?_eq_some_iff.1 hp).1;simpa using this
  subst h0;simp at hp;subst hp;obtain⟨h1,h2⟩:=h.one hag hw;refine⟨v,fp,by rw[h1];rfl,h,fun c hc=>hc,fun x' a1 a2 a3=>⟨x',?_,by rw[a2,hw],fun w' S' _ hu _ _=>hu⟩⟩;simp[Vs.setPart,hy,a1,hw]
end Vs



namespace Vs
open Go Go.RowKit
variable{P:Program}{n:Nat}{w0:World}{S0:Fx}{σ τ:St}{a:Act}{w w':World}{tag tag':Nat->Tag}{β β':Nat->Option Own}{H:World->Prop}[HS S0 H]
def HOp.len:HOp->Nat
 | .inn _ _ _ _ mids _ _ _=>mids.length+2
 | .har _ _ _ _=>1
end Vs

namespace Vs
open Go Go.RowKit
variable{P:Program}{n:Nat}{w0:World}{S0:Fx}{σ τ:St}{a:Act}{w w':World}{tag tag':Nat->Tag}{β β':Nat->Option Own}{H:World->Prop}[HS S0 H]
theorem hY{α:Type}(f:Nat->α)(k:Nat):∀l:List Nat,look k (l.map fun j=>(j,f j))=if k∈l then some (f k) else none
 |[]=>by simp[look]
 | j :: l => by
   simp only[List.map_cons,look,hY f k l,List.mem_cons];by_cases h:j=k
   ·subst h;simp
   ·simp[h,Ne.symm h]
theorem RR.res(h:RR n w0 S0 σ a w tag β){lv lr:List Nat}(hok:σ.resOk lv lr):∃tag' β',RR n w0 S0 (σ.res lv lr) a w tag' β'/\
 ∀v x,Rep w (Imm tag) w0.heap.size β v x->(∀r∈x.ments,r∈lr)->Rep w (Imm tag') w0.heap.size β' v x:=by
 obtain⟨ho1,ho2,_⟩:=hok;let tag':Nat->Tag:=fun b=>match tag b with| .own r=>if r∈lr then .own r else .out| .uq r=>if r∈lr then .uq r else .imm|t=>t
 let β':Nat->Option Own:=fun r=>if r∈lr then β r else none
 have himm:∀b,Imm tag b->Imm tag' b/\w.heap[b]?=w.heap[b]?:=by
  intro b hb;refine⟨?_,rfl⟩;rcases hb with hb|⟨r,hb⟩
  ·left;simp only[tag',hb]
  ·by_cases e:r∈lr
   ·right;exact⟨r,by simp only[tag',hb,e,if_true]⟩
   ·left;simp only[tag',hb,e,if_false]
 have hβ:∀r,β' r=β r\/β' r=none:=by
  intro r;simp only[β'];by_cases e:r∈lr
  ·left;rw[if_pos e]
  ·right;rw[if_neg e]
 have hrow:∀r,look r (σ.res lv lr).rows=if r∈lr then some ((σ.row r).getD .dead) else none:=fun r=>hY _ r lr
 have henv:∀k,look k (σ.res lv lr).env=if k∈lv then some (σ.get k) else none:=fun k=>hY _ k lv
 refine⟨tag',β',⟨h.nn,h.frm,fun b hb ht=>?_,fun b hb=>?_,fun r hr hl=>?_,h.below,h.sz,h.nodef,h.s0lt,fun b hb=>h.lt b fun e=>hb (by simp only[tag',e]),fun b hb=>?_,fun k x hk=>?_,fun r=>?_,fun r x hr q hq=>?_⟩,fun v x hv hx=>hv.mono himm fun r hr=>.inl (by simp only[β',if_pos (hx r hr)])⟩
 ·obtain⟨k1,k2⟩:=h.keep b hb ht;refine⟨?_,k2⟩;simp only[tag',k1];rcases ht with e|e<;>rw[e]
 ·obtain⟨k1,k2⟩:=h.kimm b hb;exact⟨(himm b k1).1,k2⟩
 ·rw[hrow] at hl;by_cases e:r∈lr
  ·rw[if_pos e] at hl;simp only[β',if_pos e];refine h.bk r hr ?_;show cD (σ.row r);cases hrw:σ.row r with
   |none=>rw[hrw] at hl;exact hl.elim
   |some row=>rw[hrw] at hl;exact hl
  ·rw[if_neg e] at hl;exact hl.elim
 ·obtain⟨h1,h2⟩:=h.old b hb;have:tag' b=tag b:=by rcases h2 with e|e<;>simp only[tag',e]
  rw[this];exact⟨h1,h2⟩
 ·rw[henv] at hk;split at hk
  ·rename_i hkl;cases hk;refine⟨(h.get k).1.mono himm fun r _=>hβ r,fun r hr=>?_⟩;rw[hrow,if_pos (ho1 k hkl r hr)];rfl
  ·cases hk
 ·rw[hrow];split
  ·rename_i hl;have hr:=h.rows r;have hrw:σ.row r=look r σ.rows:=rfl;rw[hrw];have hb:β' r=β r:=by simp only[β',if_pos hl]
   cases e:look r σ.rows with
   |none=>rw[e] at hr;exact hb.trans hr
   | some row =>
     rw[e] at hr;refine hr.mono himm (fun b hb=>⟨by simp only[tag',hb,hl,if_true],rfl⟩) (fun b hb=>by simp only[tag',hb,hl,if_true]) hb fun x _ q _=>hβ q
  ·rename_i hl;simp only[co,β',if_neg hl]
 ·rw[hrow] at hr;split at hr
  ·rename_i hl;cases hr':σ.row r with
   |none=>rw[hr'] at hr;cases hr
   | some row =>
     rw[hr'] at hr;simp only[Option.getD_some,Option.some.injEq] at hr;subst hr;have:=ho2 r hl q (by rw[hr'];exact hq);rw[hrow,if_pos this];rfl
  ·cases hr
theorem R.res(h:R n w0 S0 σ a w){lv lr:List Nat}(hok:σ.resOk lv lr):R n w0 S0 (σ.res lv lr) a w:=by
 obtain⟨tag,β,h⟩:=h;obtain⟨tag',β',h',_⟩:=h.res hok;exact⟨tag',β',h'⟩
theorem uT{g:Nat->AV}{k:Nat}{x:AV}:∀lv:List Nat,look k (lv.map fun j=>(j,g j))=some x->x=g k
 |[],h=>by simp[look] at h
 | j :: lv, h => by
   simp only[List.map_cons,look] at h;split at h
   ·rename_i e;cases h;rw[e]
   ·exact uT lv h
theorem R.rb(h:R n w0 S0 σ a w)(lv:List Nat):∃S1,Hs S1/\HS S1 H/\R n w S1 (σ.rb lv) a w/\∀τ a' w',R n w S1 τ a' w'->R n w0 S0 τ.scal a' w':=by
 classical
 obtain⟨tag,β,h⟩:=h;have hi:∀b,Imm tag b->tag b≠.out:=fun b hb=>by rcases hb with e|⟨r,e⟩<;>simp[e]
 let tg:Nat->Tag:=fun b=>if tag b≠.out then .imm else .out
 have htg:∀b,Imm tg b->tag b≠.out:=fun b hb=>by
  by_cases e:tag b=.out
  ·simp[tg,e,Imm] at hb
  ·exact e
 refine⟨⟨fun b=>tag b≠.out,w,tg,fun _=>none⟩,fun b hb=>⟨by simp[tg,htg b hb],h.lt b (htg b hb)⟩,⟨fun W hW=>h.hyp fun b hb=>hW b (.inl (by simp[tg,hi b hb]))⟩,⟨tg,fun _=>none,h.nn,.refl _ _,fun b _ _=>⟨rfl,rfl⟩,fun b hb=>⟨hb,rfl⟩,fun r _ hl=>by simp[St.rb,look,cD] at hl,.refl _ _,h.sz,h.nodef,h.lt,fun b hb=>?_,fun b hb=>?_,fun k x hk=>?_,fun r=>?_,fun r x hr=>by simp[St.rb,look] at hr⟩,?_⟩
 ·refine h.lt b fun e=>hb ?_;simp[tg,e]
 ·by_cases e:tag b=.out<;>simp[tg,e]
 ·have hx:x=snp σ.row 4 (σ.get k):=uT lv hk;subst hx;have hr:=h.snp (S:=fun b=>tag b≠.out) hi 4 _ _ (h.get k).1 (.inr fun b hb=>hb);refine⟨.p _ _ (hr.mono fun b hb=>⟨.inl (by simp[tg,hb]),rfl⟩),fun q hq=>by rw[hr.ments_nil] at hq;cases hq⟩
 ·simp[St.rb,look,co]
 ·rintro τ a' w' ⟨tag1,β1,h1⟩;have hblk:∀b,tag b≠.out->w'.heap[b]?=w.heap[b]?:=fun b hb=>h1.below.block b (h.lt b hb);refine⟨tag,fun _=>none,h1.nn,h.frm.trans (h1.below.mono (Nat.zero_le _)),fun b hb ht=>?_,fun b hb=>?_,fun r _ hl=>by simp[St.scal,look,cD] at hl,h.below.trans (h1.below.mono h.below.size),h1.sz,h1.nodef,h.s0lt,
   fun b hb=>Nat.lt_of_lt_of_le (h.lt b hb) h1.below.size,h.old,fun k x hk=>?_,fun r=>by simp[St.scal,look,co],fun r x hr=>by simp[St.scal,look] at hr⟩
  ·obtain⟨k1,k2⟩:=h.keep b hb ht;exact⟨k1,(h1.below.block b (Nat.lt_of_lt_of_le hb h.frm.size)).trans k2⟩
  ·obtain⟨k1,k2⟩:=h.kimm b hb;exact⟨k1,(hblk b (hi b k1)).trans k2⟩
  ·simp only[St.scal] at hk;rw[bS (fun x:AV=>x.scal)] at hk;cases hl:look k τ.env with
   |none=>rw[hl] at hk;cases hk
   | some y =>
     rw[hl] at hk;simp only[Option.map_some,Option.some.injEq] at hk;subst hk;have hy:=(h1.env k y hl).1;generalize a'.tmps.getD k undef=vv at hy⊢;cases y with
     |sc v=>cases hy with|p v x hp=>cases hp with|sc v hv=>exact⟨.p _ _ (.sc _ hv),fun q hq=>by simp[AV.scal,AV.ments] at hq⟩
     |_=>exact⟨.p _ _ (.top _),fun q hq=>by simp[AV.scal,AV.ments] at hq⟩
def Rq(ops:Array Oper):List (List Nat):=ops.toList.foldl (fun bs o=>bs++[o.after.toList.foldl (fun q e=>if Region.binds .any e then(if q.contains e.on then q else e.on::q)++((bs.getD e.on []).filter fun i=>!(i==e.on)&&!q.contains i) else q) []]) []
def bG(P:Program)(n:Nat):Code->aq->Bool
 | .skip,.skip=>true
 | .region _ ops false,.reg aops can=>bO P n ops ops.toList aops&&can.all (Can.low n)
 | .region _ ops true,.drw aops can=>bO P n ops ops.toList aops&&fU ops (Rq ops)&&(pT aops (Rq ops)||sx aops (Rq ops))&&can.all (Can.low n)
 | .seq a b,.seq x y=>bG P n a x&&bG P n b y
 | .seq a b,.seqr x _ _ y=>bG P n a x&&bG P n b y
 | .seq a b,.seqb x _ y=>bG P n a x&&bG P n b y
 | .seq (.seq a b) c,.seqa x y _ _ z=>bG P n a x&&bG P n b y&&bG P n c z
 | .cond c a b,.cond x y z=>cx c x&&bG P n a y&&bG P n b z
 | .block id a,.blk id' x=>id==id'&&bG P n a x
 | .loop a,.loop x=>bG P n a x
 | .exit id,.exit id'=>id==id'
 | .ret,.ret=>true
 |_,_=>false
def noH:aq->Bool
 | .seq a b=>noH a&&noH b
 | .seqr a _ _ b=>noH a&&noH b
 | .seqa x a _ _ b=>noH x&&noH a&&noH b
 | .seqb a _ _=>noH a
 | .cond _ a b=>noH a&&noH b
 | .blk _ a=>noH a
 | .loop a=>noH a
 |_=>true
theorem rO{H:Prop}{a b:aq}{c:aq}(h:H\/noH c=true)(e:noH c=(noH a&&noH b)):(H\/noH a=true)/\(H\/noH b=true):=by
 rcases h with h|h
 ·exact⟨.inl h,.inl h⟩
 ·rw[e,Bool.and_eq_true] at h;exact⟨.inr h.1,.inr h.2⟩
def QQ(n:Nat)(w0:World)(S0:Fx)(Q:Ex->St->Prop):Exit->Act->World->Prop
 | .normal,a,w=>∃τ,Q .nrm τ/\R n w0 S0 τ a w
 | .exit id,a,w=>∃τ,Q (.ex id) τ/\R n w0 S0 τ a w
 | .ret,a,w=>∃τ,Q .ret τ/\R n w0 S0 τ a w
 |_,_,_=>False
theorem mR{p:Nat->Prop}(h:∃m,p m):∃m,p m/\∀k,p k->m<=k:=by
 obtain⟨m,hm⟩:=h;induction m using Nat.strongRecOn with
 | _ m ih =>
   by_cases e:∃k,k<m/\p k
   ·obtain⟨k,hk,hp⟩:=e;exact ih k hk hp
   ·exact⟨m,hm,fun k hk=>Nat.le_of_not_lt fun h=>e ⟨k,h,hk⟩⟩
theorem fC(ba:P.follows .mixedOrders=true):∀{c:Code}{ac:aq}{Q:Ex->St->Prop}{σ:St}{a:Act}{w:World},bG P n c ac=true->(Hs S0\/noH ac=true)->AWP (OkT H P) ac Q σ->R n w0 S0 σ a w->c.wp P (QQ n w0 S0 Q) a w:=by
 intro c;induction c generalizing w0 S0 with
 | skip =>
   intro ac Q σ a w hm hh h hR;cases ac<;>simp[bG] at hm;exact wp_skip ⟨σ,h,hR⟩
 | region id ops draw =>
   intro ac Q σ a w hm hh h hR;cases ac<;>cases draw<;>simp only[bG,Bool.and_eq_true,Bool.false_eq_true,List.all_eq_true,decide_eq_true_eq] at hm
   ·exact Am hm.1 hR h fun τ a w hK hR'=>⟨_,hK,hR'.can (List.all_eq_true.2 hm.2)⟩
   ·exact CM ba hm.1.1.1 hm.1.1.2 hm.1.2 hR h fun τ a w hK hR'=>⟨_,hK,hR'.can (List.all_eq_true.2 hm.2)⟩
 | seq x y ihx ihy =>
   intro ac Q σ a w hm hh h hR;cases ac<;>(try simp only[bG,Bool.and_eq_true,Bool.false_eq_true] at hm)
   case seqa xa ya lv lr zb=>
    cases x<;>simp only[bG,Bool.and_eq_true,Bool.false_eq_true] at hm;rename_i p q;obtain⟨⟨m1,m2⟩,m3⟩:=hm;obtain⟨hh1,hh2⟩:=rO (a:=.seq xa ya) (b:=zb) hh (by simp[noH]);have e:(thn (AWP (OkT H P) ya (thn (fun τ=>τ.resOk lv lr/\AWP (OkT H P) zb Q (τ.res lv lr)) Q)) Q)=
     thn (AWP (OkT H P) ya (thn (fun τ=>τ.resOk lv lr/\AWP (OkT H P) zb Q (τ.res lv lr)) Q)) (thn (fun τ=>τ.resOk lv lr/\AWP (OkT H P) zb Q (τ.res lv lr)) Q):=by
     funext e τ;cases e<;>rfl
    simp only[AWP] at h;rw[e] at h;have hx:=ihx (ac:=.seq xa ya) (Q:=thn (fun τ=>τ.resOk lv lr/\AWP (OkT H P) zb Q (τ.res lv lr)) Q) (by simp only[bG,m1,m2,Bool.and_self]) hh1 (by simpa only[AWP] using h) hR;refine wp_seq (wp_mono hx fun e a w hq=>?_);cases e with
    |normal=>obtain⟨τ,h1,h2⟩:=hq;exact ihy m3 hh2 h1.2 (h2.res h1.1)
    |exit id=>obtain⟨τ,h1,h2⟩:=hq;exact⟨τ,h1,h2⟩
    |ret=>obtain⟨τ,h1,h2⟩:=hq;exact⟨τ,h1,h2⟩
    |goto l=>exact hq.elim
    |panic c=>exact hq.elim
    |outgrown=>exact hq.elim
   case seqr xa lv lr yb=>
    obtain⟨hh1,hh2⟩:=rO (a:=xa) (b:=yb) hh (by simp[noH]);simp only[AWP] at h;refine wp_seq (wp_mono (ihx hm.1 hh1 h hR) fun e a w hq=>?_);cases e with
    |normal=>obtain⟨τ,h1,h2⟩:=hq;exact ihy hm.2 hh2 h1.2 (h2.res h1.1)
    |exit id=>obtain⟨τ,h1,h2⟩:=hq;exact⟨τ,h1,h2⟩
    |ret=>obtain⟨τ,h1,h2⟩:=hq;exact⟨τ,h1,h2⟩
    |goto l=>exact hq.elim
    |panic c=>exact hq.elim
    |outgrown=>exact hq.elim
   case seqb xa lv yb=>
    refine wp_seq (wp_mono (ihx hm.1 (hh.imp_right fun h=>by simpa only[noH] using h) (by simpa only[AWP] using h) hR) fun e a w hq=>?_);cases e with
    | normal =>
      obtain⟨τ,h1,h2⟩:=hq;obtain⟨S1,s1,s4,s2,s3⟩:=h2.rb (H:=H) lv;refine wp_mono (ihy hm.2 (.inl s1) h1 s2) fun e a' w' hq=>?_;cases e with
      |normal=>obtain⟨τ,h1,h2⟩:=hq;exact⟨_,h1,s3 _ _ _ h2⟩
      |exit id=>obtain⟨τ,h1,h2⟩:=hq;exact⟨_,h1,s3 _ _ _ h2⟩
      |ret=>obtain⟨τ,h1,h2⟩:=hq;exact⟨_,h1,s3 _ _ _ h2⟩
      |goto l=>exact hq.elim
      |panic c=>exact hq.elim
      |outgrown=>exact hq.elim
    |exit id=>obtain⟨τ,h1,h2⟩:=hq;exact⟨τ,h1,h2⟩
    |ret=>obtain⟨τ,h1,h2⟩:=hq;exact⟨τ,h1,h2⟩
    |goto l=>exact hq.elim
    |panic c=>exact hq.elim
    |outgrown=>exact hq.elim
   case seq xa yb=>
    obtain⟨hh1,hh2⟩:=rO (a:=xa) (b:=yb) hh (by simp[noH]);refine wp_seq (wp_mono (ihx hm.1 hh1 h hR) fun e a w hq=>?_);cases e with
    |normal=>obtain⟨τ,h1,h2⟩:=hq;exact ihy hm.2 hh2 h1 h2
    |exit id=>obtain⟨τ,h1,h2⟩:=hq;exact⟨τ,h1,h2⟩
    |ret=>obtain⟨τ,h1,h2⟩:=hq;exact⟨τ,h1,h2⟩
    |goto l=>exact hq.elim
    |panic c=>exact hq.elim
    |outgrown=>exact hq.elim
 | cond c x y ihx ihy =>
   intro ac Q σ a w hm hh h hR;cases ac<;>simp only[bG,Bool.and_eq_true,Bool.false_eq_true] at hm;rename_i xa yb;obtain⟨hh1,hh2⟩:=rO (a:=xa) (b:=yb) hh (by simp[noH]);simp only[AWP,tst] at h;obtain⟨tag,β,hRR⟩:=id hR;have hx:=(hRR.gx hm.1.1).1;split at h
   ·rename_i t e;rw[e] at hx;exact wp_cond_split hx.bool_inv (fun ht=>ihx hm.1.2 hh1 (h.1 ht) hR) fun ht=>ihy hm.2 hh2 (h.2 ht) hR
   ·rename_i e;rw[e] at hx;obtain⟨t,ht⟩:=hx.ub_inv;exact wp_cond_split ht (fun _=>ihx hm.1.2 hh1 h.1 hR) fun _=>ihy hm.2 hh2 h.2 hR
   ·exact h.elim
 | block id x ihx =>
   intro ac Q σ a w hm hh h hR;cases ac<;>simp only[bG,Bool.and_eq_true,Bool.false_eq_true,beq_iff_eq] at hm;obtain⟨rfl,hm⟩:=hm;refine wp_block (wp_mono (ihx hm (by simpa[noH] using hh) h hR) fun e a w hq=>?_);cases e with
   |normal=>obtain⟨τ,h1,h2⟩:=hq;exact⟨τ,h1,h2⟩
   | exit j =>
     obtain⟨τ,h1,h2⟩:=hq;simp only[inb] at h1;simp only[Exit.inBlock];split
     ·rename_i e;rw[if_pos e] at h1;exact⟨τ,h1,h2⟩
     ·rename_i e;rw[if_neg e] at h1;exact⟨τ,h1,h2⟩
   |ret=>obtain⟨τ,h1,h2⟩:=hq;exact⟨τ,h1,h2⟩
   |goto l=>exact hq.elim
   |panic c=>exact hq.elim
   |outgrown=>exact hq.elim
 | loop x ihx =>
   intro ac Q σ a w hm hh h hR;cases ac<;>simp only[bG,Bool.false_eq_true] at hm;simp only[AWP] at h;obtain⟨lv,lr,I,μ,h1,h2,h3⟩:=h;let p:Act->World->Nat->Prop:=fun a w m=>∃τ,I τ/\R n w0 S0 τ a w/\μ τ=m;refine wp_loop (fun a w=>∃m,p a w m) (fun a w=>open Classical in if h:∃m,p a w m then Classical.choose (mR h) else 0) ⟨_,_,h2,hR.res h1,rfl⟩ ?_;intro a w hI;have hI':=hI;simp only[dif_pos hI];obtain⟨hp,hmin⟩:=Classical.choose_spec (mR hI);generalize Classical.choose (mR hI)=m at hp hmin;obtain⟨τ,i1,i2,i3⟩:=hp;refine wp_mono (ihx hm (by simpa[noH] using hh) (h3 τ i1) i2) fun e a' w' hq=>?_;cases e with
   | normal =>
     obtain⟨τ',⟨j1,j2,j3⟩,j4⟩:=hq;have hI2:∃m,p a' w' m:=⟨_,_,j2,j4.res j1,rfl⟩;refine⟨hI2,?_⟩;simp only[dif_pos hI2];obtain⟨_,hmin2⟩:=Classical.choose_spec (mR hI2);have:=hmin2 _ ⟨_,j2,j4.res j1,rfl⟩;omega
   |exit id=>obtain⟨τ,h1,h2⟩:=hq;exact⟨τ,h1,h2⟩
   |ret=>obtain⟨τ,h1,h2⟩:=hq;exact⟨τ,h1,h2⟩
   |goto l=>exact hq.elim
   |panic c=>exact hq.elim
   |outgrown=>exact hq.elim
 | exit id =>
   intro ac Q σ a w hm hh h hR;cases ac<;>simp only[bG,Bool.false_eq_true,beq_iff_eq] at hm;subst hm;exact wp_exit ⟨σ,h,hR⟩
 | ret =>
   intro ac Q σ a w hm hh h hR;cases ac<;>simp[bG] at hm;exact wp_ret ⟨σ,h,hR⟩
 |rangeFunc f ps asn body ih1 ih2=>intro ac Q σ a w hm hh h hR;cases ac<;>simp[bG] at hm
 |scope body ih=>intro ac Q σ a w hm hh h hR;cases ac<;>simp[bG] at hm
 |label l=>intro ac Q σ a w hm hh h hR;cases ac<;>simp[bG] at hm
 |goto l=>intro ac Q σ a w hm hh h hR;cases ac<;>simp[bG] at hm
 |refuse y=>intro ac Q σ a w hm hh h hR;cases ac<;>simp[bG] at hm
def Hf(P:Program):ResultVar->RV->Bool
 | .tmp t,.t k=>t==k
 | .cell t ty,.c k s ag=>t==k&&kl P ty s&&mJ P ty ag
 |_,_=>false
def ra(P:Program):List ResultVar->List RV->Bool
 |[],[]=>true
 |x::xs,y::ys=>Hf P x y&&ra P xs ys
 |_,_=>false
theorem Hv(h:RR n w0 S0 σ a w tag β){x:ResultVar}{y:RV}(hm:Hf P x y=true){z:AV}(hz:y.val σ=some z):
 ∃v,(match x with| .tmp t=>pure (a.tmps.getD t undef)| .cell t ty=>do loadVar ty (<-asAddr (a.tmps.getD t undef)):Sem Value).run P w=.ok v w/\Rep w (Imm tag) w0.heap.size β v z:=by
 cases x with
 | tmp t =>
   cases y<;>simp[Hf] at hm;subst hm;simp only[RV.val,Option.some.injEq] at hz;subst hz;exact⟨_,rfl,(h.get t).1⟩
 | cell t ty =>
   cases y with
   |t k=>simp[Hf] at hm
   | c k s ag =>
     simp only[Hf,Bool.and_eq_true,beq_iff_eq] at hm;obtain⟨⟨rfl,h1⟩,h2⟩:=hm;simp only[RV.val] at hz;split at hz
     ·rename_i r e;split at hz
      ·rename_i y hy;have hr:=(h.get t).1;rw[e] at hr;obtain⟨b,p,v,hb,_,hva,hrv,hwd⟩:=h.var hy;obtain⟨b',o',sz',cap',len',hb',hv⟩:=h.pt_inv (by rw[hy];trivial) hr;rw[hb] at hb';cases hb';obtain⟨v',hrun,hr',_⟩:=qV (P:=P) h1 h2 hrv hva hz;refine⟨v',?_,hr'⟩;dsimp only;rw[hv];simpa[Instr.loadAt,Instr.sureAddr,asAddr] using hrun
      ·cases hz
     ·cases hz
theorem jW(h:RR n w0 S0 σ a w tag β):∀{xs:List ResultVar}{ys:List RV}{zs:List AV},ra P xs ys=true->RVs.val σ ys=some zs->
 ∃vs:List Value,(xs.mapM fun| .tmp t=>pure (a.tmps.getD t undef)| .cell t ty=>do loadVar ty (<-asAddr (a.tmps.getD t undef)):Sem (List Value)).run P w=.ok vs w/\vs.length=zs.length/\∀(j:Nat)(z:AV),zs[j]?=some z->∃v,vs[j]?=some v/\Rep w (Imm tag) w0.heap.size β v z
 | [], [], zs, _, hz => by
   simp[RVs.val] at hz;subst hz;exact⟨[],by simp,rfl,by simp⟩
 | x :: xs, y :: ys, zs, hm, hz => by
   simp only[ra,Bool.and_eq_true] at hm;simp only[RVs.val] at hz;split at hz
   ·rename_i z zs' e1 e2;cases hz;obtain⟨v,h1,h2⟩:=Hv h hm.1 e1;obtain⟨vs,h3,h4,h5⟩:=jW h hm.2 e2;refine⟨v::vs,?_,by simp[h4],fun j z hj=>?_⟩
    ·simp only[List.mapM_cons,Sem.run_bind,h1,h3,Result.andThen_ok,Sem.run_pure]
    ·cases j with
     |zero=>simp at hj;subst hj;exact⟨v,rfl,h2⟩
     |succ j=>simp at hj;obtain⟨u,hu,hr⟩:=h5 j z hj;exact⟨u,by simpa using hu,hr⟩
   ·cases hz
 |[],_::_,_,hm,_=>by simp[ra] at hm
 |_::_,[],_,hm,_=>by simp[ra] at hm
theorem nU{zs:List AV}{vs:List Value}{S:Nat->Prop}{B:Nat}(hl:vs.length=zs.length)(h:∀(j:Nat)(z:AV),zs[j]?=some z->∃v,vs[j]?=some v/\Rep w S B β v z):
 Rep w S B β (if h:vs.toArray.size=1 then vs.toArray[0] else .tuple vs.toArray) (dG zs)/\(dG zs).ments=aF zs:=by
 match zs,vs,hl with
 | [z], [v], _ =>
   obtain⟨u,hu,hr⟩:=h 0 z rfl;simp at hu;subst hu;exact⟨by simpa[dG] using hr,by simp[dG,aF]⟩
 |[],[],_=>exact⟨.tup _ _ rfl (by simp),by simp[dG,AV.ments]⟩
 | z :: z' :: zs, v :: v' :: vs, hl =>
   refine⟨?_,by simp[dG,AV.ments]⟩;rw[dif_neg (by simp)];refine .tup _ _ (by simpa using hl) fun j x hj=>?_;obtain⟨u,hu,hr⟩:=h j x hj;have:(v::v'::vs).toArray.getD j undef=u:=by
    rw[Array.getD_eq_getD_getElem?,List.getElem?_toArray,hu];rfl
   rw[this];exact hr
def be(P:Program)(f k:Nat)(A:aq)(V:List RV):Bool:=match P.funcs[f]? with
 |some fn=> !(fn.name== "runtime.NumGoroutine")&&decide (k<=fn.ntmps)&&decide (fn.ntmps<=1000000000)&&ra P fn.results.toList V&&(match fn.body with|some c=>bG P fn.ntmps c A|none=>false)
 |none=>false
theorem iz(k:Nat):∀(args:List AV)(i:Nat),look k (St.start.go i args)=if i<=k then args[k-i]? else none
 |[],i=>by simp[St.start.go,look]
 | x :: args, i => by
   simp only[St.start.go,look,iz k args (i+1)];by_cases h:i=k
   ·subst h;simp
   ·rw[if_neg h];by_cases h1:i+1<=k
    ·rw[if_pos h1,if_pos (by omega),show k-i=k-(i+1)+1 by omega];simp
    ·rw[if_neg h1,if_neg (by omega)]
theorem uK(ba:P.follows .mixedOrders=true){f k:Nat}{A:aq}{V:List RV}{args:List AV}{res:AV}(hm:be P f k A V=true)(hl:args.length=k){H:World->Prop}(h:Qg (OkT H P) A V args res):OkR H P f args res:=by
 classical
 unfold be at hm;split at hm
 ·rename_i fn hf;split at hm
  ·rename_i c hc;simp only[Bool.and_eq_true,Bool.not_eq_true',decide_eq_true_eq] at hm;obtain⟨⟨⟨⟨m1,m2⟩,m5⟩,m3⟩,m4⟩:=hm;refine⟨⟨fn,hf,by rw[hc];rfl,m1⟩,fun w S vs hS hvs hat hH=>?_⟩;refine calls_of_wp hf hc ?_;let tg:Nat->Tag:=fun b=>if S b then .imm else .out
   haveI:HS ⟨S,w,tg,fun _=>none⟩ H:=⟨fun W hW=>hH W fun b hb=>hW b (.inl (by simp[tg,hb]))⟩
   have hR:R fn.ntmps w ⟨S,w,tg,fun _=>none⟩ (St.start args) {tmps:=vs++Array.replicate (fn.ntmps-vs.size) undef,defers:=[]} w:=by
    refine⟨tg,fun _=>none,m5,.refl _ _,fun b _ _=>⟨rfl,rfl⟩,fun b hb=>⟨hb,rfl⟩,fun r _ hl=>by simp[St.start,look,cD] at hl,.refl _ _,by simp;omega,rfl,hS,fun b hb=>?_,fun b hb=>?_,fun j x hj=>?_,fun r=>?_,fun r x hr=>by simp[St.start,look] at hr⟩
    ·by_cases e:S b
     ·exact hS b e
     ·simp[tg,e] at hb
    ·by_cases e:S b<;>simp[tg,e]
    ·simp only[St.start,iz,Nat.zero_le,if_true,Nat.sub_zero] at hj;have hr:=hat j x hj;have hjl:j<vs.size:=by rw[hvs];exact(List.getElem?_eq_some_iff.1 hj).1
     have e:(vs++Array.replicate (fn.ntmps-vs.size) undef).getD j undef=vs.getD j undef:=by
      rw[Array.getD_eq_getD_getElem?,Array.getD_eq_getD_getElem?,Array.getElem?_append_left hjl]
     refine⟨?_,fun q hq=>by rw[hr.ments_nil] at hq;cases hq⟩;dsimp only;rw[e];exact .p _ _ (hr.mono fun b hb=>⟨.inl (by simp[tg,hb]),rfl⟩)
    ·simp[St.start,look,co]
   refine wp_mono (fC ba m4 (.inl fun b hb=>by
    by_cases e:S b
    ·exact⟨by simp[tg,e],hS b e⟩
    ·simp[Imm,tg,e] at hb) h hR) fun e a' w' hq=>?_
   have fin:∀τ,(∃xs,RVs.val τ V=some xs/\(aF xs).Nodup/\lift τ.row 3 (dG xs)=res)->R fn.ntmps w ⟨S,w,tg,fun _=>none⟩ τ a' w'->
    a'.defers = [] ∧ ∃ v, (results fn a'.tmps).run P w' = .ok v w' ∧ ∃ u fp S', (Ending.returned v) = .returned u ∧ Below w.heap.size w w' ∧ fp.Nodup ∧
      (∀b,S' b->b<w'.heap.size/\(b<w.heap.size->S b))/\aQ w' S' w.heap.size u res fp:=by
    rintro τ ⟨xs,x1,x2,x3⟩ ⟨tag,β,hRR⟩;refine⟨hRR.nodef,?_⟩;obtain⟨vs',v1,v2,v3⟩:=jW hRR m3 x1;obtain⟨t1,t2⟩:=nU v2 v3;refine⟨if h:vs'.toArray.size=1 then vs'.toArray[0] else .tuple vs'.toArray,?_,?_⟩
    ·unfold results;have e:fn.results=fn.results.toList.toArray:=by simp
     rw[e,List.mapM_toArray];simp only[Sem.run_bind,Sem.run_map];exact congrArg (fun r:Result (List Value)=>(r.andThen fun a w'=>Result.ok a.toArray w').andThen fun a w'=>(pure (if h:a.size=1 then a[0] else Value.tuple a):Sem Value).run P w') v1
    ·obtain⟨fp,l1,l2,l3⟩:=hRR.lift (rs:=(dG xs).ments) (d:=0) 3 (dG xs) _ t1 (by rw[t2];exact x2) (fun r hr=>hr);rw[x3] at l1;refine⟨_,fp,_,rfl,hRR.below,l2,fun b hb=>?_,l1⟩;have hne:tag b≠.out:=by
      refine jQ (rs:=(dG xs).ments) (d:=0) ?_;rcases hb with e|⟨r,e⟩<;>rw[e]<;>simp
     refine⟨hRR.lt b hne,fun hlt=>?_⟩;have:=(hRR.old b hlt);exact this.1.1 (this.2.resolve_right hne)
   cases e with
   |normal=>obtain⟨τ,h1,h2⟩:=hq;exact fin τ h1 h2
   |ret=>obtain⟨τ,h1,h2⟩:=hq;exact fin τ h1 h2
   |exit id=>obtain⟨τ,h1,h2⟩:=hq;exact h1.elim
   |goto l=>exact hq.elim
   |panic c=>exact hq.elim
   |outgrown=>exact hq.elim
  ·simp at hm
 ·cases hm
def uZ(rs:List RV)(lr:List Nat)(res:AV)(outs:List (Nat×Row)):Ex->St->Prop
 | .nrm,σ| .ret,σ=>∃xs,RVs.val σ rs=some xs/\dG xs=res/\σ.resOk [] lr/\(∀r∈res.ments,r∈lr)/\(σ.res [] lr).rows=outs
 |_,_=>False
theorem sH(ba:P.follows .mixedOrders=true){f k:Nat}{A:aq}{V:List RV}{lr:List Nat}{args:List AV}{ins:List (Nat×Row)}{res:AV}{outs:List (Nat×Row)}
 (hm:be P f k A V=true) (hn:noH A=true) (hl:args.length=k) {H:World->Prop} (h:AWP (OkT H P) A (uZ V lr res outs) ⟨St.start.go 0 args,ins⟩):JE H P f args ins res outs:=by
 classical
 unfold be at hm;split at hm
 ·rename_i fn hf;split at hm
  ·rename_i c hc;simp only[Bool.and_eq_true,Bool.not_eq_true',decide_eq_true_eq] at hm;obtain⟨⟨⟨⟨m1,m2⟩,m5⟩,m3⟩,m4⟩:=hm;refine⟨⟨fn,hf,by rw[hc];rfl,m1⟩,fun w0 w tag β vs hbel hold hlt hrows hwf hvs hat hH=>?_⟩;refine calls_of_wp hf hc ?_;let F:Fx:=⟨fun b=>b<w0.heap.size/\tag b=.imm,w,tag,β⟩
   haveI:HS F H:=⟨hH⟩
   have hR:R fn.ntmps w0 F ⟨St.start.go 0 args,ins⟩ {tmps:=vs++Array.replicate (fn.ntmps-vs.size) undef,defers:=[]} w:=by
    refine⟨tag,β,m5,.refl _ _,fun b _ _=>⟨rfl,rfl⟩,fun b hb=>⟨hb,rfl⟩,fun r _ _=>rfl,hbel,by simp;omega,rfl,fun b hb=>hb.1,hlt,fun b hb=>⟨⟨fun e=>⟨hb,e⟩,fun e=>e.2⟩,hold b hb⟩,fun j x hj=>?_,hrows,hwf⟩;simp only[iz,Nat.zero_le,if_true,Nat.sub_zero] at hj;obtain⟨hr,hd⟩:=hat j x hj;have hjl:j<vs.size:=by rw[hvs];exact(List.getElem?_eq_some_iff.1 hj).1
    have e:(vs++Array.replicate (fn.ntmps-vs.size) undef).getD j undef=vs.getD j undef:=by
     rw[Array.getD_eq_getD_getElem?,Array.getD_eq_getD_getElem?,Array.getElem?_append_left hjl]
    refine⟨?_,hd⟩;dsimp only;rw[e];exact hr
   refine wp_mono (fC ba m4 (.inr hn) h hR) fun e a' w' hq=>?_;have fin:∀τ,(∃xs,RVs.val τ V=some xs/\dG xs=res/\τ.resOk [] lr/\(∀r∈res.ments,r∈lr)/\(τ.res [] lr).rows=outs)->R fn.ntmps w0 F τ a' w'->
    a'.defers=[]/\∃v,(results fn a'.tmps).run P w'=.ok v w'/\∃u tag' β',(Ending.returned v)=.returned u/\Below 0 w w'/\(∀b,b<w.heap.size->tag b=.imm\/tag b=.out->tag' b=tag b/\w'.heap[b]?=w.heap[b]?)/\
   (∀b,Imm tag b->Imm tag' b/\w'.heap[b]?=w.heap[b]?)/\(∀b,tag' b≠.out->b<w'.heap.size)/\(∀r,co w' tag' w0.heap.size β' r (look r outs))/\Wf outs/\
   (∀r,1000000000<=r->cD (look r outs)->β' r=β r)/\Rep w' (Imm tag') w0.heap.size β' u res/\∀r∈res.ments,(look r outs).isSome:=by
    rintro τ ⟨xs,x1,x2,x3,x4,x5⟩ ⟨tag1,β1,hRR⟩;refine⟨hRR.nodef,?_⟩;obtain⟨vs',v1,v2,v3⟩:=jW hRR m3 x1;obtain⟨t1,t2⟩:=nU v2 v3;obtain⟨tag2,β2,hR2,htr⟩:=hRR.res x3;refine⟨if h:vs'.toArray.size=1 then vs'.toArray[0] else .tuple vs'.toArray,?_,_,tag2,β2,rfl,hR2.frm,hR2.keep,hR2.kimm,hR2.lt,?_,?_,?_,?_,?_⟩
    ·unfold results;have e:fn.results=fn.results.toList.toArray:=by simp
     rw[e,List.mapM_toArray];simp only[Sem.run_bind,Sem.run_map];exact congrArg (fun r:Result (List Value)=>(r.andThen fun a w'=>Result.ok a.toArray w').andThen fun a w'=>(pure (if h:a.size=1 then a[0] else Value.tuple a):Sem Value).run P w') v1
    ·rw[<-x5];exact hR2.rows
    ·rw[<-x5];exact hR2.wfr
    ·rw[<-x5];exact hR2.bk
    ·rw[<-x2];exact htr _ _ t1 (by rw[x2];exact x4)
    ·intro r hr;rw[<-x5];show(look r (lr.map fun q=>(q,(τ.row q).getD .dead))).isSome;rw[hY,if_pos (x4 r hr)];rfl
   cases e with
   |normal=>obtain⟨τ,h1,h2⟩:=hq;exact fin τ h1 h2
   |ret=>obtain⟨τ,h1,h2⟩:=hq;exact fin τ h1 h2
   |exit id=>obtain⟨τ,h1,h2⟩:=hq;exact h1.elim
   |goto l=>exact hq.elim
   |panic c=>exact hq.elim
   |outgrown=>exact hq.elim
  ·simp at hm
 ·cases hm
theorem az(ba:P.follows .mixedOrders=true){f k:Nat}{A:aq}{V:List RV}{args:List AV}{res:AV}(hm:be P f k A V=true)(hl:args.length=k)(h:Qg (OkS P) A V args res):Ok P f args res:=
 uK (H:=fun _=>True) ba hm hl h
theorem bw(ba:P.follows .mixedOrders=true){f k:Nat}{A:aq}{V:List RV}{lr:List Nat}{args:List AV}{ins:List (Nat×Row)}{res:AV}{outs:List (Nat×Row)}
 (hm:be P f k A V=true) (hn:noH A=true) (hl:args.length=k) (h:AWP (OkS P) A (uZ V lr res outs) ⟨St.start.go 0 args,ins⟩):OkM P f args ins res outs:=
 sH (H:=fun _=>True) ba hm hn hl h
end Vs

namespace Vs
open Go Go.RowKit
inductive Lf where
 |int (k:IntKind)
 |bool
 |str
 |sl (ag:Bool) (ls:List Lf)
mutual
def vF:Lf->AV->Prop
 | .int k,a=>∃n,a=.sc (.int k n)/\(Lit.int k n).wf=true
 | .bool,a=>∃b,a=.sc (.bool b)
 | .str,a=>∃s,a=.sc (.string s)/\s.size<=maxLen
 | .sl ag ls,a=>∃xs,a=.lst .o ls.length xs/\xs.length<=maxLen/\∀x∈xs,(ag=true->∃cs,x=.agg cs/\cW ls cs)/\(ag=false->cW ls [x])
def cW:List Lf->List AV->Prop
 |[],[]=>True
 |l::ls,a::al=>vF l a/\cW ls al
 |_,_=>False
end
mutual
def lfs(P:Program):Nat->TypeId->Option (Bool×List Lf)
 |0,_=>none
 | k + 1, t => match P.underlying t with
   |some .bool=>some (false,[.bool])
   |some (.int kd)=>some (false,[.int kd])
   |some .string=>some (false,[.str])
   | some (.slice e) => match lfs P k e with
     |some (ag,ls)=>if P.cellsOf e=ls.length/\0<ls.length/\(ag=false->ls.length=1) then some (false,[.sl ag ls]) else none
     |none=>none
   | some (.struct fs) => match qo P k 0 fs.toList with
     |some ls=>if P.cellsOf t=ls.length then some (true,ls) else none
     |none=>none
   |_=>none
def qo(P:Program):Nat->Nat->List Field->Option (List Lf)
 |_,_,[]=>some []
 |0,_,_=>none
 | k + 1, off, f :: fs => match lfs P k f.type with
   |some (_,ls)=>if f.offset=off/\P.cellsOf f.type=ls.length then
    match qo P k (off+ls.length) fs with
    |some ms=>some (ls++ms)
    |none=>none
     else none
   |none=>none
end
theorem qZ:∀{ls:List Lf}{al:List AV},cW ls al->ls.length=al.length
 |[],[],_=>rfl
 |l::ls,a::al,h=>by simp only[cW] at h;simp[qZ h.2]
 |[],_::_,h=>by simp[cW] at h
 |_::_,[],h=>by simp[cW] at h
theorem lI:∀{ls ms:List Lf}{al bs:List AV},cW ls al->cW ms bs->cW (ls++ms) (al++bs)
 |[],ms,[],bs,_,h=>h
 | l :: ls, ms, a :: al, bs, h, h' => by
   simp only[cW] at h;simp only[List.cons_append,cW];exact⟨h.1,lI h.2 h'⟩
 |[],_,_::_,_,h,_=>by simp[cW] at h
 |_::_,_,[],_,h,_=>by simp[cW] at h
def eF(w:World)(S:Nat->Prop)(cs:List Value)(ls:List Lf):Prop:=
 ∃al,cW ls al/\cs.length=al.length/\∀(j:Nat)(v:Value)(a:AV),cs[j]?=some v->al[j]?=some a->aQ w S w.heap.size v a []/\v.oneCell'=true
theorem eF.one{w:World}{S:Nat->Prop}{v:Value}{l:Lf}{a:AV}(h:vF l a)(hr:aQ w S w.heap.size v a [])(h1:v.oneCell'=true):eF w S [v] [l]:=
 ⟨[a], by simp only [cW]; exact ⟨h, trivial⟩, rfl, fun j u b hj hb => by
   cases j with
   |zero=>simp at hj hb;subst hj;subst hb;exact⟨hr,h1⟩
   |succ j=>simp at hj⟩
theorem eF.append{w:World}{S:Nat->Prop}{cs ds:List Value}{ls ms:List Lf}(h:eF w S cs ls)(h':eF w S ds ms):eF w S (cs++ds) (ls++ms):=by
 obtain⟨al,f1,l1,r1⟩:=h;obtain⟨bs,f2,l2,r2⟩:=h';refine⟨al++bs,lI f1 f2,by simp[l1,l2],fun j v a hv ha=>?_⟩;by_cases hj:j<cs.length
 ·rw[List.getElem?_append_left hj] at hv;rw[List.getElem?_append_left (by omega)] at ha;exact r1 j v a hv ha
 ·rw[List.getElem?_append_right (by omega)] at hv;rw[List.getElem?_append_right (by omega)] at ha;rw[<-l1] at ha;exact r2 _ v a hv ha
section
variable{H:Type}{enc:TypeId×Value->H}{P:Program}{w:World}{base:Nat}{spare:Nat->Bool}{held:Bool}{S:Nat->Prop}
theorem jH(b o i:Nat):(⟨b,o,none⟩:Addr).add i=⟨b,o+i,none⟩:=by
 simp[Addr.add_lit]
theorem zf{a:Addr}{v:Value}(h:w.cell? a=some v):a.block<w.heap.size/\a.spot=none:=by
 unfold World.cell? at h;split at h
 ·rename_i e;refine⟨(Array.getElem?_eq_some_iff.1 e).1,?_⟩;cases hs:a.spot with
  |none=>rfl
  |some s=>simp[hs] at h
 ·cases h
theorem oJ(hS:∀b,b<w.heap.size->S b):∀(k:Nat),
 (∀(fuel:Nat)(t:TypeId)(cs:List Value)(x:DataW H×List MemPlace)(ag:Bool)(ls:List Lf),DataW.trod enc P w base spare held fuel t cs=some x->lfs P k t=some (ag,ls)->eF w S cs ls)/\
 (∀(fs:List Field)(off fuel:Nat)(cs:List Value)(ls:List Lf),qo P k off fs=some ls->(∀f∈fs,∃x,DataW.trod enc P w base spare held fuel f.type ((cs.drop f.offset).take (P.cellsOf f.type))=some x)->
  off+ls.length<=cs.length->eF w S ((cs.drop off).take ls.length) ls)
 | 0 => by
   refine⟨fun fuel t cs x ag ls h hl=>by simp[lfs] at hl,fun fs off fuel cs ls hl _ _=>?_⟩;cases fs with
   |nil=>simp[qo] at hl;subst hl;exact⟨[],by simp[cW],by simp,by simp⟩
   |cons f fs=>simp[qo] at hl
 | k + 1 => by
   obtain⟨ih1,ih2⟩:=oJ hS k;constructor
   ·intro fuel t cs x ag ls h hl;simp only[lfs] at hl;split at hl
    ·rename_i hu;cases hl;obtain⟨b,rfl,_⟩:=DataW.trod_bool hu h;exact .one ⟨b,rfl⟩ (.sc _ rfl) rfl
    ·rename_i kd hu;cases hl;obtain⟨n,rfl,_,hw⟩:=DataW.trod_int hu h;exact .one ⟨n,rfl,hw⟩ (.sc _ rfl) rfl
    ·rename_i hu;cases hl;obtain⟨z,rfl,_,hw⟩:=DataW.trod_string hu h;exact .one ⟨z,rfl,hw⟩ (.sc _ rfl) rfl
    ·rename_i e hu;split at hl
     ·rename_i ag' ls' he;split at hl
      ·rename_i hc;obtain⟨c1,c2,c3⟩:=hc;cases hl;rcases Go.Deep.open_slice hu h with⟨rfl,_⟩|⟨a,len,cap,m,n,D,Pl,rfl,hb,hle,hmx,hm,_,hx⟩
       ·exact .one ⟨[],rfl,Nat.zero_le _,by simp⟩ (.nil0 _ _) rfl
       ·have hlm:len<=m:=by rw[hm];split<;>omega
        have hsa0:0<len->a.spot=none:=by
         intro h0;obtain⟨cs',h1,_⟩:=hx 0 (by omega);rw[c1] at h1;obtain⟨_,hlen,hcell⟩:=World.cells?_some h1;have:=hcell 0 c2;rw[List.getElem?_eq_getElem (by omega)] at this;have:=(zf this).2;simpa[Addr.add] using this
        -- the elements
        have hel:∀i,i<len->∃(v:Value)(y:AV),aQ w S w.heap.size v y []/\v.cells.size=ls'.length/\((ag'=true->∃cs,y=.agg cs/\cW ls' cs)/\(ag'=false->cW ls' [y]))/\
         (∀j u,v.cells[j]?=some u->w.cell? (a.add (i*ls'.length+j))=some u/\u.oneCell'=true):=by
         intro i hi;obtain⟨cs',h1,h2⟩:=hx i (by omega);rw[c1] at h1;obtain⟨_,hlen,hcell⟩:=World.cells?_some h1;obtain⟨al,f1,f2,f3⟩:=ih1 n e cs' _ ag' ls' h2 he;have hll:=qZ f1;have hcl:∀j u,cs'[j]?=some u->w.cell? (a.add (i*ls'.length+j))=some u/\u.oneCell'=true:=by
          intro j u hj;have hjl:j<ls'.length:=by rw[<-hlen];exact(List.getElem?_eq_some_iff.1 hj).1
          refine⟨?_,(f3 j u al[j] hj (List.getElem?_eq_getElem (by omega))).2⟩;have:=hcell j hjl;rw[hj] at this;rw[<-this];congr 1;have hsa:=hsa0 (by omega);obtain⟨b,o,sp⟩:=a;simp only at hsa;subst hsa;rw[jH,jH,jH,Nat.add_assoc]
         cases ag' with
         | true =>
           have:=aQ.agg (w:=w) (S:=S) (B:=w.heap.size) cs'.toArray al (fun _=>[]) (by simpa using f2) (fun x hx=>by
            obtain⟨j,hj,rfl⟩:=List.getElem_of_mem (by simpa using hx:x∈cs');exact(f3 j _ al[j] (List.getElem?_eq_getElem hj) (List.getElem?_eq_getElem (by omega))).2)
            (fun j x hj=>by
             have hjl:j<cs'.length:=by rw[f2];exact(List.getElem?_eq_some_iff.1 hj).1
             have e:cs'.toArray.getD j undef=cs'[j]:=by simp[hjl]
             rw[e];exact(f3 j _ x (List.getElem?_eq_getElem hjl) hj).1)
           rw[bi _ _ fun _ _=>rfl] at this;exact⟨.agg cs'.toArray,.agg al,this,by simp[Value.cells,hlen],⟨fun _=>⟨al,rfl,f1⟩,(fun e=>by cases e)⟩,fun j u hj=>hcl j u (by simpa[Value.cells] using hj)⟩
         | false =>
           have hl1:=c3 rfl
           match cs',al,hlen,f2,f1 with
           | [v], [y], _, _, f1 =>
             obtain⟨r1,r2⟩:=f3 0 v y rfl rfl;have hvc:v.cells=#[v]:=my r2;refine⟨v,y,r1,by rw[hvc,hl1];rfl,⟨(fun e=>by cases e),fun _=>f1⟩,fun j u hj=>?_⟩;rw[hvc] at hj;exact hcl j u (by simpa using hj)
           |[],_,hlen,_,_=>simp at hlen;omega
           |_::_::_,_,hlen,_,_=>simp at hlen;omega
           |[_],[],_,f2,_=>simp at f2
           |[_],_::_::_,_,f2,_=>simp at f2
        rcases Nat.eq_zero_or_pos len with hl0|hl0
        ·subst hl0;exact .one ⟨[],rfl,Nat.zero_le _,by simp⟩ (.nil _ _ _ _ ⟨fun e=>by(cases e),fun e=>by(cases e)⟩) rfl
        ·have hex:∃(vs:Nat->Value)(ys:Nat->AV),∀i,i<len->aQ w S w.heap.size (vs i) (ys i) []/\(vs i).cells.size=ls'.length/\((ag'=true->∃cs,ys i=.agg cs/\cW ls' cs)/\(ag'=false->cW ls' [ys i]))/\
          (∀j u,(vs i).cells[j]?=some u->w.cell? (a.add (i*ls'.length+j))=some u/\u.oneCell'=true):=by
          classical
          refine⟨fun i=>if h:i<len then Classical.choose (hel i h) else undef,fun i=>if h:i<len then Classical.choose (Classical.choose_spec (hel i h)) else .top,fun i hi=>?_⟩;simp only[dif_pos hi];exact Classical.choose_spec (Classical.choose_spec (hel i hi))
         obtain⟨vs,ys,hvs⟩:=hex;obtain⟨p0,p1,_,p3⟩:=hvs 0 hl0;have h0:=p3 0 ((vs 0).cells[0]'(by omega)) (Array.getElem?_eq_getElem (by omega));have hsp:=zf h0.1;have hsa:=hsa0 hl0;have hbl:a.block<w.heap.size:=by
          have:=hsp.1;obtain⟨b,o,sp⟩:=a;simp only at hsa;subst hsa;rw[jH] at this;exact this
         obtain⟨b,o,sp⟩:=a;simp only at hsa hbl;subst hsa;have:=aQ.lst (w:=w) (S:=S) (B:=w.heap.size) .o ls'.length b o len cap ((List.range len).map ys) vs (fun _=>[]) (by simp) hle ⟨hS b hbl,hbl⟩ (fun e=>by cases e)
          (fun j x hj=>by
           have hjl:j<len:=by simpa using(List.getElem?_eq_some_iff.1 hj).1
           refine⟨(hvs j hjl).2.1,fun i u hu=>?_⟩;have:=(hvs j hjl).2.2.2 i u hu;rw[jH] at this;rw[Nat.add_assoc];exact this)
          (fun j x hj=>by
           have hjl:j<len:=by simpa using(List.getElem?_eq_some_iff.1 hj).1
           simp only[List.getElem?_map,List.getElem?_range hjl,Option.map_some,Option.some.injEq] at hj;subst hj;exact(hvs j hjl).1)
         rw[bi _ _ fun _ _=>rfl,if_neg (by intro e;cases e)] at this;refine .one ⟨_,rfl,by simp;omega,fun x hx=>?_⟩ this rfl;obtain⟨i,hi,rfl⟩:=List.mem_map.1 hx;exact(hvs i (by simpa using hi)).2.2.1
      ·cases hl
     ·cases hl
    ·rename_i fs hu;split at hl
     ·rename_i ls' hf;split at hl
      ·rename_i hc;cases hl;obtain⟨xs,n,_,_,hlen,hxs,hat⟩:=DataW.trod_struct hu h;have:=ih2 fs.toList 0 n cs ls hf (fun f hfm=>by
        obtain⟨i,hi,rfl⟩:=List.getElem_of_mem hfm;have hi':i<fs.size:=by simpa using hi
        have:=hat i fs[i] (Array.getElem?_eq_getElem hi');rw[List.getElem?_eq_getElem (by omega)] at this;exact⟨_,by simpa using this⟩) (by rw[hlen,hc];omega)
       have e:(cs.drop 0).take ls.length=cs:=by rw[List.drop_zero,<-hc,<-hlen,List.take_length]
       rwa[e] at this
      ·cases hl
     ·cases hl
    ·cases hl
   ·intro fs off fuel cs ls hl hat hle;cases fs with
    |nil=>simp[qo] at hl;subst hl;exact⟨[],by simp[cW],by simp,by simp⟩
    | cons f fs =>
      simp only[qo] at hl;split at hl
      ·rename_i ag' ls' he;split at hl
       ·rename_i hc;obtain⟨c1,c2⟩:=hc;split at hl
        ·rename_i ms hms;cases hl;obtain⟨x,hx⟩:=hat f (by simp);rw[c1,c2] at hx;have r1:=ih1 fuel f.type _ x ag' ls' hx he;have r2:=ih2 fs (off+ls'.length) fuel cs ms hms (fun g hg=>hat g (by simp[hg])) (by simp at hle;omega);have:=r1.append r2;have e:(cs.drop off).take ls'.length++(cs.drop (off+ls'.length)).take ms.length=(cs.drop off).take (ls'++ms).length:=by
          rw[List.length_append,List.take_add,List.drop_drop]
         rwa[e] at this
        ·cases hl
       ·cases hl
      ·cases hl
theorem Kk(hS:∀b,b<w.heap.size->S b){k:Nat}{t:TypeId}{v:Value}{d:DataW H}{ps:List MemPlace}{ag:Bool}{ls:List Lf}(h:DataW.Trod enc P w base spare held t v d ps)(hl:lfs P k t=some (ag,ls))
 (hag:ag=true->∃cs,v=.agg cs) (hag':ag=false->v.cells=#[v]/\ls.length=1):
 ∃y,aQ w S w.heap.size v y []/\(ag=true->∃cs,y=.agg cs/\cW ls cs)/\(ag=false->cW ls [y]):=by
 obtain⟨fuel,h⟩:=h;obtain⟨al,f1,f2,f3⟩:=(oJ hS k).1 fuel t _ _ ag ls h hl;cases ag with
 | true =>
   obtain⟨cs,rfl⟩:=hag rfl;simp only[Value.cells] at f2 f3;have:=aQ.agg (w:=w) (S:=S) (B:=w.heap.size) cs al (fun _=>[]) (by simpa using f2) (fun x hx=>by
    obtain⟨j,hj,rfl⟩:=Array.mem_iff_getElem.1 hx;have hjl:j<al.length:=by rw[<-f2];simpa using hj
    exact(f3 j cs[j] al[j] (by simp[hj]) (List.getElem?_eq_getElem hjl)).2)
    (fun j x hj=>by
     have hjl:j<cs.size:=by have:=(List.getElem?_eq_some_iff.1 hj).1;rw[<-f2] at this;simpa using this
     have e:cs.getD j undef=cs[j]:=by simp[hjl]
     rw[e];exact(f3 j _ x (by simp[hjl]) hj).1)
   rw[bi _ _ fun _ _=>rfl] at this;exact⟨_,this,fun _=>⟨al,rfl,f1⟩,(fun e=>by cases e)⟩
 | false =>
   obtain⟨h1,h2⟩:=hag' rfl;rw[h1] at f2 f3
   match al,f2,f1 with
   |[y],_,f1=>exact⟨y,(f3 0 v y rfl rfl).1,(fun e=>by cases e),fun _=>f1⟩
end
end Vs

namespace Vs
open Go Go.RowKit
section
variable{H:Type}{enc:TypeId×Value->H}{P:Program}{w w':World}{base:Nat}{sp:Nat->Bool}{held:Bool}
theorem np{fs:Array Field}{t:TypeId}{n:Nat}{cs:List Value}{x:DataW H×List MemPlace}(ht:P.underlying t=some (.struct fs))(h:DataW.trod enc P w base sp held (n+1) t cs=some x):
 ∃xs,fs.toList.mapM (fun f=>DataW.trod enc P w base sp held n f.type ((cs.drop f.offset).take (P.cellsOf f.type)))=some xs/\x=(.agg (xs.map (·.1)),xs.flatMap (·.2))/\cs.length=P.cellsOf t:=by
 unfold DataW.trod at h;rw[ht] at h;split at h<;>simp_all;obtain⟨hl,xs,hp,hd⟩:=h;exact⟨xs,hp,hd.symm⟩
theorem yv:∀(k:Nat),
 (∀(fuel:Nat)(t:TypeId)(cs:List Value)(x:DataW H×List MemPlace)(ag:Bool)(ls:List Lf),DataW.trod enc P w base (fun _=>true) held fuel t cs=some x->lfs P k t=some (ag,ls)->
  (∀p∈x.2,sp p.block=true)->DataW.trod enc P w base sp held fuel t cs=some x)/\
 (∀(fs:List Field)(off fuel:Nat)(cs:List Value)(ls:List Lf)(xs:List (DataW H×List MemPlace)),qo P k off fs=some ls->
  fs.mapM (fun f=>DataW.trod enc P w base (fun _=>true) held fuel f.type ((cs.drop f.offset).take (P.cellsOf f.type)))=some xs->(∀x∈xs,∀p∈x.2,sp p.block=true)->
  fs.mapM (fun f=>DataW.trod enc P w base sp held fuel f.type ((cs.drop f.offset).take (P.cellsOf f.type)))=some xs)
 | 0 => by
   refine⟨fun fuel t cs x ag ls h hl=>by simp[lfs] at hl,fun fs off fuel cs ls xs hl hm _=>?_⟩;cases fs with
   |nil=>simpa using hm
   |cons f fs=>simp[qo] at hl
 | k + 1 => by
   obtain⟨ih1,ih2⟩:=yv k;constructor
   ·intro fuel t cs x ag ls h hl hs;cases fuel with
    |zero=>simp[DataW.trod] at h
    |succ fuel=>
    simp only[lfs] at hl;split at hl
    ·rename_i hu;obtain⟨b,rfl,rfl⟩:=DataW.trod_bool hu h;simp only[DataW.trod,hu]
    ·rename_i kd hu;obtain⟨n,rfl,rfl,hw⟩:=DataW.trod_int hu h;simp only[DataW.trod,hu];simp[hw]
    ·rename_i hu;obtain⟨z,rfl,rfl,hw⟩:=DataW.trod_string hu h;simp only[DataW.trod,hu];simp[hw]
    ·rename_i e hu;split at hl
     ·rename_i ag' ls' he;split at hl
      ·rename_i hc;obtain⟨c1,c2,c3⟩:=hc;have hcs:cs=[.slice none 0 0]\/∃a len cap,cs=[.slice (some a) len cap]:=by
        rcases Go.Deep.open_slice hu h with⟨e,_⟩|⟨a,len,cap,_,_,_,_,e,_⟩
        ·exact .inl e
        ·exact .inr ⟨a,len,cap,e⟩
       rcases hcs with rfl|⟨a,len,cap,rfl⟩
       ·simp only[DataW.trod,hu] at h⊢;exact h
       ·simp only[DataW.trod,hu] at h⊢;split at h
        ·rename_i hcc;rw[if_pos hcc];simp only[Option.map_eq_some_iff,Option.bind_eq_some_iff,if_true] at h⊢;obtain⟨dC,hel,rest,hrest,rfl⟩:=h;have hlen:dC.length=len:=by simpa using mapM_some_length hel
         have hrl:rest.length=cap-len:=by simpa using mapM_some_length hrest
         have one:∀(i:Nat)(y:DataW H×List MemPlace),y∈dC++rest->
          (w.cells? base (a.add (i*P.cellsOf e)) (P.cellsOf e)).bind (DataW.trod enc P w base (fun _=>true) held fuel e)=some y->
          (w.cells? base (a.add (i*P.cellsOf e)) (P.cellsOf e)).bind (DataW.trod enc P w base sp held fuel e)=some y:=by
          intro i y hy hv;simp only[Option.bind_eq_some_iff] at hv⊢;obtain⟨cs',h1,h2⟩:=hv;refine⟨cs',h1,ih1 fuel e cs' y ag' ls' h2 he fun p hp=>hs p ?_⟩;simp only[List.mem_append,List.mem_flatMap];right;exact⟨y,by simpa using hy,hp⟩
         refine⟨dC,mapM_carry hel (fun i y hi hy=>one i y (by simp[hy])),rest,?_,rfl⟩;rcases Nat.eq_zero_or_pos (cap-len) with hz|hz
         ·have:rest=[]:=List.length_eq_zero_iff.1 (by omega);subst this;rw[hz];simp
         ·have hsa:sp a.block=true:=by
           refine hs (.cell a.block (a.off+0)) ?_;simp only[List.mem_append];left;refine MemPlace.mem_row.2 ⟨0,?_,rfl⟩;rw[hlen,hrl];exact Nat.mul_pos (by omega) (by omega)
          rw[if_pos hsa];exact mapM_carry hrest (fun j y hj hy=>one (len+j) y (by simp[hy]))
        ·cases h
      ·cases hl
     ·cases hl
    ·rename_i fs hu;split at hl
     ·rename_i ls' hf;obtain⟨xs,hmap,rfl,hlen⟩:=np hu h;exact Go.ChangeShapes.trod_struct_mk hu hlen (ih2 fs.toList 0 fuel cs ls' xs hf hmap fun y hy p hp=>hs p (List.mem_flatMap.2 ⟨y,hy,hp⟩))
     ·cases hl
    ·cases hl
   ·intro fs off fuel cs ls xs hl hm hs;cases fs with
    |nil=>simpa using hm
    | cons f fs =>
      simp only[qo] at hl;split at hl
      ·rename_i ag' ls' he;split at hl
       ·split at hl
        ·rename_i ms hms;rw[List.mapM_cons] at hm⊢;cases hx:DataW.trod enc P w base (fun _=>true) held fuel f.type ((cs.drop f.offset).take (P.cellsOf f.type)) with
         |none=>simp[hx] at hm
         | some y =>
           cases hys:fs.mapM (fun f=>DataW.trod enc P w base (fun _=>true) held fuel f.type ((cs.drop f.offset).take (P.cellsOf f.type))) with
           |none=>simp[hx,hys] at hm
           | some ys =>
             simp[hx,hys] at hm;subst hm;rw[ih1 fuel f.type _ y ag' ls' hx he (fun p hp=>hs y (by simp) p hp),ih2 fs _ fuel cs ms ys hms hys (fun z hz p hp=>hs z (by simp[hz]) p hp)];rfl
        ·cases hl
       ·cases hl
      ·cases hl
def oi(s:Bool×List Lf)(y:AV):Prop:=(s.1=true->∃cs,y=.agg cs/\cW s.2 cs)/\(s.1=false->cW s.2 [y])
def nA:List (Bool×List Lf)->List AV->Prop
 |[],[]=>True
 |s::ss,y::ys=>oi s y/\nA ss ys
 |_,_=>False
def kU(P:Program)(k:Nat):List TypeId->Option (List (Bool×List Lf))
 |[]=>some []
 | t :: ts => match lfs P k t, kU P k ts with
   |some s,some ss=>some (s::ss)
   |_,_=>none
theorem sw{k b:Nat}{t:TypeId}{v:Value}{ag:Bool}{ls:List Lf}(hl:lfs P k t=some (ag,ls))(h:Value.okWide P w .any b t v):
 (ag=true->∃cs,v=.agg cs)/\(ag=false->v.cells=#[v]/\ls.length=1):=by
 cases k with
 |zero=>simp[lfs] at hl
 | succ k =>
   simp only[lfs] at hl;unfold Value.okWide at h;split at hl
   ·rename_i hu;cases hl;rw[hu] at h;simp only at h;refine⟨(fun e=>by cases e),fun _=>⟨?_,rfl⟩⟩;unfold Cell.okWide Cell.ok at h;rw[hu] at h;cases v<;>first|rfl|simp at h
   ·rename_i kd hu;cases hl;rw[hu] at h;simp only at h;refine⟨(fun e=>by cases e),fun _=>⟨?_,rfl⟩⟩;unfold Cell.okWide Cell.ok at h;rw[hu] at h;cases v<;>first|rfl|simp at h
   ·rename_i hu;cases hl;rw[hu] at h;simp only at h;refine⟨(fun e=>by cases e),fun _=>⟨?_,rfl⟩⟩;unfold Cell.okWide Cell.ok at h;rw[hu] at h;cases v<;>first|rfl|simp at h
   ·rename_i e hu;split at hl
    ·split at hl
     ·cases hl;rw[hu] at h;simp only at h;refine⟨(fun e=>by cases e),fun _=>⟨?_,rfl⟩⟩;unfold Cell.okWide Cell.ok at h;rw[hu] at h;cases v<;>first|rfl|simp at h
     ·cases hl
    ·cases hl
   ·rename_i fs hu;split at hl
    ·split at hl
     ·cases hl;rw[hu] at h;simp only at h;obtain⟨cs,rfl,_⟩:=h;exact⟨fun _=>⟨cs,rfl⟩,(fun e=>by cases e)⟩
     ·cases hl
    ·cases hl
   ·cases hl
theorem tv{S:Nat->Prop}{k b0:Nat}(hS:∀b,b<w.heap.size->S b):∀{ts:List TypeId}{vs:List Value}{ds:List (DataW H)}{ps:List MemPlace}{ss:List (Bool×List Lf)},DataW.TrodAll enc P w base sp held ts vs ds ps->kU P k ts=some ss->
 (∀(j:Nat) t v,ts[j]?=some t->vs[j]?=some v->Value.okWide P w .any b0 t v)->
 ∃ys,nA ss ys/\ys.length=vs.length/\∀(j:Nat)(v:Value)(y:AV),vs[j]?=some v->ys[j]?=some y->aQ w S w.heap.size v y []
 | [], [], [], ps, ss, _, hl, _ => by
   simp[kU] at hl;subst hl;exact⟨[],trivial,rfl,by simp⟩
 | t :: ts, v :: vs, d :: ds, ps, ss, h, hl, hok => by
   obtain⟨p,q,h1,h2,_⟩:=h;simp only[kU] at hl;split at hl
   ·rename_i s ss' e1 e2;cases hl;obtain⟨ag,ls⟩:=s;obtain⟨c1,c2⟩:=sw e1 (hok 0 t v rfl rfl);obtain⟨y,r1,r2,r3⟩:=Kk hS h1 e1 c1 c2;obtain⟨ys,f1,f2,f3⟩:=tv hS h2 e2 fun j t v ht hv=>hok (j+1) t v (by simpa using ht) (by simpa using hv);refine⟨y::ys,⟨⟨r2,r3⟩,f1⟩,by simp[f2],fun j u z hu hz=>?_⟩;cases j with
    |zero=>simp at hu hz;subst hu;subst hz;exact r1
    |succ j=>exact f3 j u z (by simpa using hu) (by simpa using hz)
   ·cases hl
 |[],_::_,_,_,_,h,_,_=>by simp[DataW.TrodAll] at h
 |[],[],_::_,_,_,h,_,_=>by simp[DataW.TrodAll] at h
 |_::_,[],_,_,_,h,_,_=>by simp[DataW.TrodAll] at h
 |_::_,_::_,[],_,_,h,_,_=>by simp[DataW.TrodAll] at h
theorem rd{k:Nat}:∀{ts:List TypeId}{vs:List Value}{ds:List (DataW H)}{ps:List MemPlace}{ss:List (Bool×List Lf)},DataW.TrodAll enc P w base (fun _=>true) held ts vs ds ps->kU P k ts=some ss->
 (∀p∈ps,w.sameAt w' p)->(∀p∈ps,sp p.block=true)->DataW.TrodAll enc P w' base sp held ts vs ds ps
 |[],[],[],ps,ss,h,_,_,_=>h
 | t :: ts, v :: vs, d :: ds, ps, ss, h, hl, hs, hsp => by
   obtain⟨p,q,⟨fuel,h1⟩,h2,rfl⟩:=h;simp only[kU] at hl;split at hl
   ·rename_i s ss' e1 e2;exact⟨p,q,⟨fuel,DataW.trod_carry fuel t _ _ ((yv k).1 fuel t _ _ s.1 s.2 h1 e1 fun x hx=>hsp x (by simp[show x∈p from hx])) fun x hx=>hs x (by simp[show x∈p from hx])⟩,
     rd h2 e2 (fun x hx=>hs x (by simp[hx])) (fun x hx=>hsp x (by simp[hx])),rfl⟩
   ·cases hl
 |[],_::_,_,_,_,h,_,_,_=>by simp[DataW.TrodAll] at h
 |[],[],_::_,_,_,h,_,_,_=>by simp[DataW.TrodAll] at h
 |_::_,[],_,_,_,h,_,_,_=>by simp[DataW.TrodAll] at h
 |_::_,_::_,[],_,_,h,_,_,_=>by simp[DataW.TrodAll] at h
theorem Ai{f:Func}{s:ChangeSpec}{apart fresh handsOn again:Bool}{W W':World}{args:Array Value}{v:Value}{ds gs:List (DataW H)}{before pa pv:List MemPlace}
 (hW:DataW.Whole enc P f.params.toList s.vars apart W args.toList ds gs before)
 (hres:∀(b:Nat)(sp:Nat->Bool)(hd:Bool),DataW.TrodAll enc P W' b sp hd f.resultTypes.toList (v.resultList f.resultTypes.size) (s.fn H (ds++gs)).results [])
 (hargs:∀sp:Nat->Bool,(∀p∈before,sp p.block=true)->DataW.TrodAll enc P W' 0 sp true f.params.toList args.toList (s.fn H (ds++gs)).args pa)
 (hvars:∀sp:Nat->Bool,(∀p∈before,sp p.block=true)->DataW.TrodVars enc P W' sp s.vars (s.fn H (ds++gs)).vars pv)
 (hps:before=pa++pv) (hk:W.keptBut W' (·∈before)) (hfz:∀a:Addr,a.block<W.heap.size->W'.frozen? a=W.frozen? a)
 (hok:∀(j:Nat)(t:TypeId)(r:Value),f.resultTypes[j]?=some t->(v.resultList f.resultTypes.size)[j]?=some r->Value.okWide P W' .any 0 t r):
 s.post enc P f apart fresh handsOn again W args v W':=by
 have hold:∀p∈before,(fun b=>decide (b<W.heap.size)) p.block=true:=fun p hp=>by simpa using hW.lt p hp
 have hlt:=hW.lt;refine⟨ds,gs,before,[],pa,pv,hW,hres _ _ _,hargs _ hold,hvars _ hold,World.keptBut_mono (fun p hp=>⟨hp,?_⟩) hk,fun _=>?_⟩
 ·rw[hps,List.mem_append] at hp;exact Or.inr hp
 ·obtain⟨_,_,_,_,_,hz,hn⟩:=hW;refine⟨hok,_,_,([]++pa)++pv,⟨[]++pa,pv,Go.ChangeShapes.trodAll_append (hargs _ (fun _ _=>rfl)) (hres _ _ _),hvars _ (fun _ _=>rfl),rfl,?_,?_⟩,?_⟩
  ·intro b off hp;have hp':MemPlace.cell b off∈before:=by rw[hps];simpa using hp
   rw[hfz _ (hlt _ hp')];exact hz b off hp'
  ·intro ha;have:=hn ha;rw[hps] at this;simpa using this
  ·intro p hp _;rw[hps];simpa using hp
theorem law_calls{f k b0:Nat}{fn:Func}{s:ChangeSpec}{tb:TypeId}{ss:List (Bool×List Lf)}{again:Bool}{apart fresh:Bool}(hvars:s.vars=[])
 (hfn:∀ds:List (DataW H),ds.length=fn.params.size->s.fn H ds={results:=[.lit (.bool true)],args:=ds}) (hres:fn.resultTypes=#[tb]) (htb:P.underlying tb=some .bool) (hsh:kU P k fn.params.toList=some ss)
 (hok:∀ys,nA ss ys->Ok P f ys (.b true)) {args:Array Value} {ds gs:List (DataW H)} {before:List MemPlace}
 (hval:∀(j:Nat) t v,fn.params[j]?=some t->args[j]?=some v->Value.okWide P w .any b0 t v)
 (hW:DataW.Whole enc P fn.params.toList s.vars apart w args.toList ds gs before):
 Calls P f args w fun e W'=>∃v,e=.returned v/\s.post enc P fn apart fresh false again w args v W':=by
 have hW':=hW;have hlt:=hW.lt;obtain⟨p,q,hA,hV,rfl,hfz,hnd⟩:=hW;rw[hvars] at hV;obtain⟨rfl,rfl⟩:=Go.ChangeShapes.trodVars_none hV;obtain⟨ys,f1,f2,f3⟩:=tv (S:=fun b=>b<w.heap.size) (k:=k) (b0:=b0) (fun b hb=>hb) hA hsh (fun j t v ht hv=>hval j t v (by simpa using ht) (by simpa using hv));have hlen:∀{ts:List TypeId}{vs:List Value}{ds:List (DataW H)}{ps:List MemPlace},DataW.TrodAll enc P w 0 (fun _=>true) true ts vs ds ps->ds.length=ts.length:=by
  intro ts;induction ts with
  |nil=>intro vs ds ps h;cases vs<;>cases ds<;>simp_all [DataW.TrodAll]
  | cons t ts ih =>
    intro vs ds ps h;cases vs<;>cases ds<;>simp only[DataW.TrodAll] at h;obtain⟨_,_,_,h2,_⟩:=h;simp[ih h2]
 have hdl:=hlen hA;refine((hok ys f1).2 w (fun b=>b<w.heap.size) args (fun b hb=>hb) (by simpa using f2.symm) (fun j x hj=>?_) fun _ _=>trivial).mono ?_
 ·have hjl:j<args.size:=by rw[<-Array.length_toList,<-f2];exact(List.getElem?_eq_some_iff.1 hj).1
  have e:args.getD j undef=args[j]:=by simp[hjl]
  rw[e];exact f3 j _ x (by simp[hjl]) hj
 ·rintro e W' ⟨v,fp,S',rfl,hbel,_,_,hr⟩;have hv:v=.bool true:=by cases hr;rfl
  subst hv;refine⟨_,rfl,?_⟩;have hfd:=hfn (ds++[]) (by simpa using hdl);refine Ai (pa:=p) (pv:=[]) hW' (fun b sp' hd=>?_) (fun sp' hsp=>?_) (fun sp' _=>?_) rfl (hbel.bel.frame _) hbel.frz (ok_one hres rfl (okWide_bool_mk htb _))
  ·rw[hfd,hres];exact⟨[],[],shut_bool htb _,rfl,rfl⟩
  ·rw[hfd];simp only[List.append_nil];exact rd hA hsh (fun x hx=>hbel.bel.same (hlt x (by simp[hx]))) (fun x hx=>hsp x (by simp[hx]))
  ·rw[hfd,hvars];rfl
end
end Vs

namespace Vs
open Go
def Zt(n:Nat):X:=.t n
def Zm(d a:Nat):aV:=⟨some d,.mv (.t a),none⟩
def Zn(d:Nat)(a:Int):aV:=⟨some d,.mv (.c (.i a)),none⟩
def Zl(d a:Nat):aV:=⟨some d,.load 1 false (.t a),none⟩
def Za(d k a:Nat):aV:=⟨some d,.fad k (.t a),none⟩
def Zx(d k a b:Nat):aV:=⟨some d,.idx k (.t a) (.t b),none⟩
def Zk(d a:Nat):aV:=⟨some d,.len (.t a),none⟩
def Zb(d:Nat)(op:BinOp)(a b:Nat):aV:=⟨some d,.bin op (.t a) (.t b),none⟩
def Zd(d:Nat)(op:BinOp)(a:Nat)(b:Int):aV:=⟨some d,.bin op (.t a) (.c (.i b)),none⟩
def Ze(d a k:Nat):aV:=⟨some d,.ext (.t a) k,none⟩
def Zo(d:Nat)(op:AOp):aV:=⟨some d,op,none⟩
def Zg(d:Nat)(op:AOp)(q:Nat)(b:Bool):aV:=⟨some d,op,some (q,b)⟩
def Zw(op:AOp):aV:=⟨none,op,none⟩
def Zv(d k a:Nat):aV:=⟨some d,.load k true (.t a),none⟩
def Zs(l:List aV)(x:aq):aq:=.seq (.reg l []) x
def Zy(b:Bool):X:=.c (.b b)
theorem ZC:(∀n,Zt n=.t n)/\(∀d a,Zm d a=⟨some d,.mv (.t a),none⟩)/\(∀d a,Zn d a=⟨some d,.mv (.c (.i a)),none⟩)/\(∀d a,Zl d a=⟨some d,.load 1 false (.t a),none⟩)/\(∀d k a,Za d k a=⟨some d,.fad k (.t a),none⟩)/\
 (∀d k a b,Zx d k a b=⟨some d,.idx k (.t a) (.t b),none⟩)/\(∀d a,Zk d a=⟨some d,.len (.t a),none⟩)/\(∀d op a b,Zb d op a b=⟨some d,.bin op (.t a) (.t b),none⟩)/\
 (∀d op a b,Zd d op a b=⟨some d,.bin op (.t a) (.c (.i b)),none⟩)/\(∀d a k,Ze d a k=⟨some d,.ext (.t a) k,none⟩)/\(∀d op,Zo d op=⟨some d,op,none⟩)/\(∀d op q b,Zg d op q b=⟨some d,op,some (q,b)⟩)/\(∀op,Zw op=⟨none,op,none⟩)/\
 (∀d k a,Zv d k a=⟨some d,.load k true (.t a),none⟩)/\(∀l x,Zs l x=.seq (.reg l []) x)/\(∀b,Zy b=.c (.b b)):=
 ⟨fun _=>rfl,fun _ _=>rfl,fun _ _=>rfl,fun _ _=>rfl,fun _ _ _=>rfl,fun _ _ _ _=>rfl,fun _ _=>rfl,fun _ _ _ _=>rfl,fun _ _ _ _=>rfl,fun _ _ _=>rfl,fun _ _=>rfl,fun _ _ _ _=>rfl,fun _=>rfl,fun _ _ _=>rfl,fun _ _=>rfl,fun _=>rfl⟩
def amb{α:Type}[DecidableEq α](a b:Option α):Option α:=if a=b then a else none
theorem Sg{α:Type}[DecidableEq α]{a b:Option α}{r:α}(h:amb a b=some r):a=some r:=by
 unfold amb at h;split at h
 ·exact h
 ·cases h
theorem SQ{α:Type}[DecidableEq α]{a b:Option α}{r:α}(h:amb a b=some r):b=some r:=by
 unfold amb at h;split at h
 ·rename_i e;rw[<-e];exact h
 ·cases h
theorem Js{α β:Type}(f:α->β)(xs ys:List α)(i:Nat):dA (xs.map f) i (ys.map f)=(dA xs i ys).map f:=by
 unfold dA;simp only[List.length_map];split
 ·simp
 ·rfl
theorem mT{α:Type}(xs ys:List α)(i:Nat):(dA xs i ys).length=xs.length:=by
 unfold dA;split
 ·simp;omega
 ·rfl
section
variable{ok:Oks}
theorem Jq{x:AV}{A B A' B':Prop}(h:tst x A B)(ha:A->A')(hb:B->B'):tst x A' B':=by
 unfold tst at h;split at h
 ·exact⟨fun e=>ha (h.1 e),fun e=>hb (h.2 e)⟩
 ·exact⟨ha h.1,hb h.2⟩
 ·exact h.elim
theorem kW{K K':St->Prop}(hk:∀τ,K τ->K' τ):∀(os:List aV)(σ:St),dU ok os K σ->dU ok os K' σ
 |[],σ,h=>hk σ h
 | o :: os, σ, h => by
   have ih:=kW hk os;simp only[dU,RP] at h⊢;have go:∀υ,wL ok o.d o.op (dU ok os K) υ->wL ok o.d o.op (dU ok os K') υ:=fun υ h=>
    (yL o.op).mono h fun v u h=>ih _ h
   cases hg:o.gd with
   |none=>rw[hg] at h;exact go σ h
   | some p =>
     obtain⟨s,b⟩:=p;rw[hg] at h;simp only[eu] at h;split at h
     ·rename_i t e;simp only[e,eu];exact⟨fun e=>go _ (h.1 e),fun e=>ih _ (h.2 e)⟩
     ·rename_i e;simp only[e,eu];exact ih _ h
     ·exact h.elim
theorem cg:∀(ac:aq){Q Q':Ex->St->Prop}{σ:St},AWP ok ac Q σ->(∀e τ,Q e τ->Q' e τ)->AWP ok ac Q' σ
 | .skip,_,_,_,h,hq=>hq _ _ h
 | .reg ops can, _, _, _, h, hq => by
   simp only[AWP] at h⊢;exact kW (fun τ h=>hq _ _ h) _ _ h
 | .drw ops can, _, _, _, h, hq => by
   simp only[AWP] at h⊢;exact kW (fun τ h=>hq _ _ h) _ _ h
 | .seq a b, _, _, _, h, hq => by
   simp only[AWP] at h⊢;refine cg a h fun e τ h=>?_;cases e with
   |nrm=>exact cg b h hq
   |ex id=>exact hq _ _ h
   |ret=>exact hq _ _ h
 | .seqr a lv lr b, _, _, _, h, hq => by
   simp only[AWP] at h⊢;refine cg a h fun e τ h=>?_;cases e with
   |nrm=>exact⟨h.1,cg b h.2 hq⟩
   |ex id=>exact hq _ _ h
   |ret=>exact hq _ _ h
 | .seqa x a lv lr b, _, _, _, h, hq => by
   simp only[AWP] at h⊢;refine cg x h fun e τ h=>?_;cases e with
   | nrm =>
     refine cg a h fun e τ h=>?_;cases e with
     |nrm=>exact⟨h.1,cg b h.2 hq⟩
     |ex id=>exact hq _ _ h
     |ret=>exact hq _ _ h
   |ex id=>exact hq _ _ h
   |ret=>exact hq _ _ h
 | .seqb a lv b, _, _, _, h, hq => by
   simp only[AWP] at h⊢;refine cg a h fun e τ h=>?_;cases e with
   |nrm=>exact cg b h fun e τ h=>hq _ _ h
   |ex id=>exact hq _ _ h
   |ret=>exact hq _ _ h
 | .cond x a b, _, _, _, h, hq => by
   simp only[AWP] at h⊢;exact Jq h (fun h=>cg a h hq) (fun h=>cg b h hq)
 | .blk id a, _, _, _, h, hq => by
   simp only[AWP] at h⊢;refine cg a h fun e τ h=>?_;cases e with
   |nrm=>exact hq _ _ h
   | ex j =>
     simp only[inb] at h⊢;split
     ·rename_i e;rw[if_pos e] at h;exact hq _ _ h
     ·rename_i e;rw[if_neg e] at h;exact hq _ _ h
   |ret=>exact hq _ _ h
 | .loop a, _, _, _, h, hq => by
   simp only[AWP] at h⊢;obtain⟨lv,lr,I,μ,h1,h2,h3⟩:=h;refine⟨lv,lr,I,μ,h1,h2,fun τ hI=>cg a (h3 τ hI) fun e τ h=>?_⟩;cases e with
   |nrm=>exact h
   |ex id=>exact hq _ _ h
   |ret=>exact hq _ _ h
 | .exit id,_,_,_,h,hq=>by simp only[AWP] at h⊢;exact hq _ _ h
 | .ret,_,_,_,h,hq=>by simp only[AWP] at h⊢;exact hq _ _ h
def bg{S B:Type}(f:S->Option (S⊕B)):Nat->S->Option B
 |0,_=>none
 | n + 1, s => match f s with
   |none=>none
   |some (.inl s')=>bg f n s'
   |some (.inr b)=>some b
def Shp{S:Type}(lv lr:List Nat)(sh:S->St)(v:S)(τ:St):Prop:=τ.resOk lv lr/\τ.res lv lr=sh v
def qX{S:Type}(id:Nat)(lv lr:List Nat)(sh:S->St)(v:S)(e:Ex)(τ:St):Prop:=e=.ex id/\Shp lv lr sh v τ
def qR{R:Type}(V:List RV)(emb:R->AV)(r:R)(e:Ex)(τ:St):Prop:=e=.ret/\fin V (emb r) .ret τ
def qM{R:Type}(V:List RV)(lr:List Nat)(emb:R->AV)(out:R->List (Nat×Row))(r:R)(e:Ex)(τ:St):Prop:=e=.ret/\uZ V lr (emb r) (out r) .ret τ
theorem bJ(rs:List RV)(lr:List Nat)(res:AV)(outs:List (Nat×Row))(σ:St):uZ rs lr res outs .ret σ=opt (RVs.val σ rs) fun xs=>dG xs=res/\σ.resOk [] lr/\(∀r∈res.ments,r∈lr)/\(σ.res [] lr).rows=outs:=by
 simp only[uZ,opt];cases RVs.val σ rs<;>simp
theorem bK(rs:List RV)(lr:List Nat)(res:AV)(outs:List (Nat×Row))(σ:St):uZ rs lr res outs .nrm σ=opt (RVs.val σ rs) fun xs=>dG xs=res/\σ.resOk [] lr/\(∀r∈res.ments,r∈lr)/\(σ.res [] lr).rows=outs:=by
 simp only[uZ,opt];cases RVs.val σ rs<;>simp
theorem fg(P:Program):(OkS P).p=Ok P:=rfl
theorem fd(P:Program):(OkS P).m=OkM P:=rfl
theorem ff(P:Program):(OkS P).h=OkH P:=rfl
def qS{A B:Type}(q:A->Ex->St->Prop)(q':B->Ex->St->Prop):A⊕B->Ex->St->Prop
 | .inl a=>q a
 | .inr b=>q' b
def qL{S B:Type}(lv lr:List Nat)(sh:S->St)(q:B->Ex->St->Prop):S⊕B->Ex->St->Prop
 | .inl s,e,τ=>e=.nrm/\Shp lv lr sh s τ
 | .inr b,e,τ=>e≠.nrm/\q b e τ
def qJ{S B:Type}(lv lr:List Nat)(sh:S->St)(q:B->Ex->St->Prop):S⊕B->Ex->St->Prop
 | .inl s,e,τ=>e=.nrm/\Shp lv lr sh s τ
 | .inr b,e,τ=>e≠.nrm/\q b e τ
def qJ0{S:Type}(lv lr:List Nat)(sh:S->St)(s:S)(e:Ex)(τ:St):Prop:=e=.nrm/\Shp lv lr sh s τ
theorem aD{S B:Type}{lv lr:List Nat}{sh:S->St}{f:S->Option (S⊕B)}{q:B->Ex->St->Prop}{a:aq}
 (hb:∀s o,f s=some o->AWP ok a (qL lv lr sh q o) (sh s)) {n:Nat} {s0:S} {b:B} (h:bg f n s0=some b) {σ:St} (hs:Shp lv lr sh s0 σ):AWP ok (.loop a) (q b) σ:=by
 classical
 let p:St->Nat->Prop:=fun τ m=>∃s,τ=sh s/\bg f m s=some b;refine Et lv lr (fun τ=>∃m,p τ m) (fun τ=>if h:∃m,p τ m then Classical.choose (mR h) else 0) hs.1 ⟨n,s0,hs.2,h⟩ ?_;intro τ hI;simp only[dif_pos hI];obtain⟨hp,hmin⟩:=Classical.choose_spec (mR hI);generalize Classical.choose (mR hI)=m at hp hmin;obtain⟨s,rfl,hit⟩:=hp;cases m with
 |zero=>cases hit
 | succ m =>
   simp only[bg] at hit;cases hf:f s with
   |none=>rw[hf] at hit;cases hit
   | some o =>
     refine cg a (hb s o hf) fun e τ' hq=>?_;rw[hf] at hit;cases o with
     | inl s' =>
       obtain⟨rfl,h1,h2⟩:=hq;have hI2:∃k,p (τ'.res lv lr) k:=⟨m,s',h2,hit⟩;refine⟨h1,hI2,?_⟩;simp only[dif_pos hI2];obtain⟨_,hmin2⟩:=Classical.choose_spec (mR hI2);have:=hmin2 m ⟨s',h2,hit⟩;omega
     | inr b' =>
       obtain⟨h1,h2⟩:=hq;simp only[Option.some.injEq] at hit;subst hit;cases e with
       |nrm=>exact(h1 rfl).elim
       |ex id=>exact h2
       |ret=>exact h2
theorem bj{S B:Type}{lv lr:List Nat}{sh:S->St}{q:B->Ex->St->Prop}{a b:aq}{Q:Ex->St->Prop}{σ:St}{o:S⊕B}
 (ha:AWP ok a (qJ lv lr sh q o) σ) (hb:∀s,o=.inl s->AWP ok b Q (sh s)) (hx:∀x,o=.inr x->∀e τ,e≠.nrm->q x e τ->Q e τ):AWP ok (.seqr a lv lr b) Q σ:=by
 simp only[AWP];refine cg a ha fun e τ h=>?_;cases o with
 | inl s =>
   obtain⟨rfl,h1,h2⟩:=h;exact⟨h1,h2▸hb s rfl⟩
 | inr x =>
   obtain⟨h1,h2⟩:=h;cases e with
   |nrm=>exact(h1 rfl).elim
   |ex id=>exact hx x rfl _ _ h1 h2
   |ret=>exact hx x rfl _ _ h1 h2
theorem aG{S:Type}{lv lr:List Nat}{sh:S->St}{a b:aq}{Q:Ex->St->Prop}{σ:St}{s:S}
 (ha:AWP ok a (qJ0 lv lr sh s) σ) (hb:AWP ok b Q (sh s)):AWP ok (.seqr a lv lr b) Q σ:=by
 simp only[AWP];refine cg a ha fun e τ h=>?_;obtain⟨rfl,h1,h2⟩:=h;exact⟨h1,h2▸hb⟩
theorem bz{S B:Type}{id:Nat}{lv lr:List Nat}{sh:S->St}{q:B->Ex->St->Prop}{a:aq}{σ:St}{o:S⊕B}(hq:∀b e τ,q b e τ->e≠.nrm/\e≠.ex id)
 (ha:AWP ok a (qS (qX id lv lr sh) q o) σ):AWP ok (.blk id a) (qJ lv lr sh q o) σ:=by
 simp only[AWP];refine cg a ha fun e τ h=>?_;cases o with
 | inl s =>
   obtain⟨rfl,h1⟩:=h;simp only[inb,if_true];exact⟨rfl,h1⟩
 | inr x =>
   have:=hq x e τ h;cases e with
   |nrm=>exact(this.1 rfl).elim
   | ex j =>
     simp only[inb];rw[if_neg fun e=>this.2 (by rw[e])];exact⟨this.1,h⟩
   |ret=>exact⟨this.1,h⟩
theorem bf{S:Type}{id:Nat}{lv lr:List Nat}{sh:S->St}{a:aq}{σ:St}{s:S}(ha:AWP ok a (qX id lv lr sh s) σ):AWP ok (.blk id a) (qJ0 lv lr sh s) σ:=by
 simp only[AWP];refine cg a ha fun e τ h=>?_;obtain⟨rfl,h1⟩:=h;simp only[inb,if_true];exact⟨rfl,h1⟩
theorem af{α β:Type}{m:Option α}{f:α->Option β}{r:β}(h:m.bind f=some r):∃x,m=some x/\f x=some r:=by
 cases m with
 |none=>cases h
 |some x=>exact⟨x,rfl,h⟩
theorem aj{α:Type}{c:Bool}{x y z:α}(h:cond c x y=z):(c=true/\x=z)\/(c=false/\y=z):=by
 cases c
 ·exact .inr ⟨rfl,h⟩
 ·exact .inl ⟨rfl,h⟩
def bR{α:Type}(xs:List α)(i:Int):Option α:=if 0<=i then xs[i.toNat]? else none
theorem aO{α:Type}{xs:List α}{i:Int}{x:α}(h:bR xs i=some x):0<=i/\xs[i.toNat]?=some x:=by
 unfold bR at h;split at h
 ·exact⟨‹_›,h⟩
 ·cases h
def grd(p:Prop)[Decidable p]:Option Unit:=if p then some () else none
theorem aZ{p:Prop}[Decidable p]{u:Unit}(h:grd p=some u):p:=by
 unfold grd at h;split at h
 ·assumption
 ·cases h
def bnd{α β:Type}(a:α)(f:α->Option β):Option β:=f a
theorem bh{α β:Type}{a:α}{f:α->Option β}{r:β}(h:bnd a f=some r):∃x,a=x/\f x=some r:=⟨a,rfl,h⟩
theorem bt(c:Bool):c=true\/c=false:=by cases c<;>simp
def sD(s:ByteArray)(i:Int):Option UInt8:=if 0<=i then s[i.toNat]? else none
theorem jD{s:ByteArray}{i:Int}{x:UInt8}(h:sD s i=some x):0<=i/\s[i.toNat]?=some x:=by
 unfold sD at h;split at h
 ·exact⟨‹_›,h⟩
 ·cases h
def N0:Nat:=2^64
def iq{α:Type}(es:List α)(i n:Nat):List α:=if i=0/\n=es.length then es else(es.drop i).take n
theorem eX{α:Type}(f:α->AV)(xs:List α)(i n:Nat):sub (xs.map f) i n=(iq xs i n).map f:=by
 unfold sub iq;simp only[List.length_map];split
 ·rfl
 ·rw[List.map_take,List.map_drop]
theorem gu{α:Type}(xs:List α):iq xs 0 xs.length=xs:=by simp[iq]
theorem kE{α:Type}(f:α->AV){xs:List α}{n:Nat}(h:n=xs.length):sub (xs.map f) 0 n=xs.map f:=by rw[eX,h,gu]
def slT{α:Type}(xs:List α)(hi:Int):Option (List α):=if 0<=hi/\hi.toNat<=xs.length then some (xs.take hi.toNat) else none
def slB{α:Type}(xs:List α)(lo hi:Int):Option (List α):=if 0<=lo/\0<=hi/\lo.toNat<=hi.toNat/\hi.toNat<=xs.length then some ((xs.drop lo.toNat).take (hi.toNat-lo.toNat)) else none
theorem ik{α:Type}(xs:List α)(i n:Nat):iq xs i n=(xs.drop i).take n:=by
 unfold iq;split
 ·rename_i h;rw[h.1,h.2];simp
 ·rfl
theorem Sr{α:Type}(f:α->AV){xs ys:List α}{hi:Int}(h:slT xs hi=some ys):True/\0<=hi/\True/\hi.toNat<=xs.length/\sub (xs.map f) 0 hi.toNat=ys.map f:=by
 unfold slT at h;split at h
 ·rename_i e;cases h;exact⟨trivial,e.1,trivial,e.2,by rw[eX,ik];simp⟩
 ·cases h
theorem Shp.sub{S S':Type}{lv lr lv' lr':List Nat}{sh:S->St}{sh':S'->St}{s:S}{s':S'}{τ:St}(h:Shp lv lr sh s τ)
 (h1:∀k∈lv',k∈lv) (h2:∀r∈lr',r∈lr) (h3:(sh s).resOk lv' lr'/\(sh s).res lv' lr'=sh' s'):Shp lv' lr' sh' s' τ:=by
 obtain⟨_,he⟩:=h;have bS:∀{α:Type}(g:Nat->α)(k:Nat)(l:List Nat),k∈l->look k (l.map fun j=>(j,g j))=some (g k):=by
  intro α g k l hk;rw[hY,if_pos hk]
 have hg:∀k∈lv,(sh s).get k=τ.get k:=by
  intro k hk;rw[<-he];simp only[St.get,St.res,bS _ k lv hk,Option.getD_some]
 have hr:∀r∈lr,((sh s).row r).getD .dead=(τ.row r).getD .dead:=by
  intro r hk;rw[<-he];simp only[St.row,St.res,bS _ r lr hk,Option.getD_some]
 obtain⟨⟨a,b,c⟩,d⟩:=h3;refine⟨⟨fun k hk r hr'=>a k hk r (by rw[hg k (h1 k hk)];exact hr'),fun q hq r hr'=>b q hq r (by rw[hr q (h2 q hq)];exact hr'),c⟩,?_⟩;rw[<-d];simp only[St.res,St.mk.injEq];exact⟨List.map_congr_left fun k hk=>by rw[hg k (h1 k hk)],List.map_congr_left fun r hk=>by rw[hr r (h2 r hk)]⟩
theorem mg{S B:Type}{lv lr:List Nat}{sh:S->St}{q:B->Ex->St->Prop}{a:aq}{Q:Ex->St->Prop}{σ:St}{o:S⊕B}
 (ha:AWP ok a (qJ lv lr sh q o) σ) (hn:∀s,o=.inl s->∀τ,Shp lv lr sh s τ->Q .nrm τ) (hx:∀x,o=.inr x->∀e τ,e≠.nrm->q x e τ->Q e τ):AWP ok a Q σ:=by
 refine cg a ha fun e τ h=>?_;cases o with
 |inl s=>obtain⟨rfl,h⟩:=h;exact hn s rfl τ h
 |inr x=>exact hx x rfl e τ h.1 h.2
theorem dv{S:Type}{lv lr:List Nat}{sh:S->St}{a:aq}{Q:Ex->St->Prop}{σ:St}{s:S}
 (ha:AWP ok a (qJ0 lv lr sh s) σ) (hn:∀τ,Shp lv lr sh s τ->Q .nrm τ):AWP ok a Q σ:=by
 refine cg a ha fun e τ h=>?_;obtain⟨rfl,h⟩:=h;exact hn τ h
def oD:List Nat->Bool
 |[]=>true
 |x::xs=>!(xs.any fun y=>Nat.beq x y)&&oD xs
def PT(rs ns:List Nat):Bool:=oD (ns.map fun q=>rs.getD (q-1000000000) 0)&&ns.all fun q=>Nat.ble 1000000000 q&&Nat.blt (q-1000000000) rs.length
theorem js:∀{l:List Nat},oD l=true->l.Nodup
 |[],_=>List.nodup_nil
 | x :: xs, h => by
   simp only[oD,Bool.and_eq_true,Bool.not_eq_true',List.any_eq_false,Nat.beq_eq] at h;exact List.nodup_cons.2 ⟨fun hx=>h.1 x hx rfl,js h.2⟩
theorem OT{ρ:Nat->Option Row}{d:Nat}{rs:List Nat}{outs:List (Nat×Row)}(ns:List Nat)(hn:outs.map (·.1)=ns)(h:PT rs ns=true):
 (outs.map fun p=>bkn d rs p.1).Nodup/\(∀p∈outs,1000000000<=p.1->p.1-1000000000<rs.length)/\(∀p∈outs,p.1<1000000000->ρ (bkn d rs p.1)=none/\bkn d rs p.1<1000000000):=by
 subst hn;unfold PT at h;simp only[Bool.and_eq_true,List.all_eq_true,List.mem_map,forall_exists_index,and_imp,List.map_map] at h;obtain⟨h1,h2⟩:=h;have hb:∀p∈outs,1000000000<=p.1/\p.1-1000000000<rs.length:=fun p hp=>by
  have:=h2 p.1 p hp rfl;exact⟨Nat.le_of_ble_eq_true this.1,Nat.le_of_ble_eq_true this.2⟩
 refine⟨?_,fun p hp _=>(hb p hp).2,fun p hp hlt=>absurd (hb p hp).1 (by omega)⟩;have e:(outs.map fun p=>bkn d rs p.1)=outs.map ((fun q=>rs.getD (q-1000000000) 0)∘fun x=>x.1):=List.map_congr_left fun p hp=>by
  simp only[bkn,if_pos (hb p hp).1,Function.comp]
 rw[e];exact js h1
def Gl(d:Nat)(rs ns ks:List Nat):Bool:=oD (ns.map (bkn d rs))&&ns.all fun q=>if Nat.ble 1000000000 q then Nat.blt (q-1000000000) rs.length else ks.any (Nat.beq (bkn d rs q))&&Nat.blt (bkn d rs q) 1000000000
theorem Ry{ρ:Nat->Option Row}{d:Nat}{rs:List Nat}{outs:List (Nat×Row)}(ns ks:List Nat)(hn:outs.map (·.1)=ns)(h:Gl d rs ns ks=true)(hk:∀q∈ks,ρ q=none):
 (outs.map fun p=>bkn d rs p.1).Nodup/\(∀p∈outs,1000000000<=p.1->p.1-1000000000<rs.length)/\(∀p∈outs,p.1<1000000000->ρ (bkn d rs p.1)=none/\bkn d rs p.1<1000000000):=by
 subst hn;unfold Gl at h;simp only[Bool.and_eq_true,List.all_eq_true,List.mem_map,forall_exists_index,and_imp,List.map_map] at h;obtain⟨h1,h2⟩:=h;refine⟨js h1,fun p hp hge=>?_,fun p hp hlt=>?_⟩
 ·have:=h2 p.1 p hp rfl;rw[if_pos (Nat.ble_eq_true_of_le hge)] at this;exact Nat.le_of_ble_eq_true this
 ·have:=h2 p.1 p hp rfl;rw[if_neg (fun e=>by have:=Nat.le_of_ble_eq_true e;omega),Bool.and_eq_true,List.any_eq_true] at this;obtain⟨⟨x,hx,e⟩,h3⟩:=this;have e:=Nat.eq_of_beq_eq_true e;exact⟨by rw[e];exact hk x hx,Nat.le_of_ble_eq_true h3⟩
theorem eJ{S:Type}{id:Nat}{lv lr:List Nat}{sh:S->St}{a:aq}{Q:Ex->St->Prop}{σ:St}{s:S}(ha:AWP ok a (qX id lv lr sh s) σ)(hn:∀τ,Shp lv lr sh s τ->Q .nrm τ):AWP ok a (inb id Q) σ:=by
 have:=dv (bf ha) hn;simpa only[AWP] using this
theorem tC{S B:Type}{id:Nat}{lv lr:List Nat}{sh:S->St}{q:B->Ex->St->Prop}{a:aq}{Q:Ex->St->Prop}{σ:St}{o:S⊕B}(hq:∀b e τ,q b e τ->e≠.nrm/\e≠.ex id)
 (ha:AWP ok a (qS (qX id lv lr sh) q o) σ) (hn:∀s,o=.inl s->∀τ,Shp lv lr sh s τ->Q .nrm τ) (hx:∀x,o=.inr x->∀e τ,e≠.nrm->q x e τ->Q e τ):AWP ok a (inb id Q) σ:=by
 have:=mg (bz hq ha) hn hx;simpa only[AWP] using this
theorem jm{S:Type}{lv lr lr':List Nat}{sh:S->St}{s:S}{τ:St}{res:AV}{outs:List (Nat×Row)}(h:Shp lv lr sh s τ)(h2:∀r∈lr',r∈lr)
 (h3:(sh s).resOk [] lr'/\((sh s).res [] lr').rows=outs) (h5:res=.tup []):uZ [] lr' res outs .nrm τ:=by
 have:=Shp.sub (sh':=fun(_:Unit)=>(sh s).res [] lr') (s':=()) h (by simp) h2 ⟨h3.1,rfl⟩;subst h5;refine⟨[],rfl,rfl,this.1,by simp[AV.ments,aF],?_⟩;rw[this.2];exact h3.2
theorem de{R:Type}{V:List RV}{emb:R->AV}{id:Nat}(b:R)(e:Ex)(τ:St)(h:qR V emb b e τ):e≠.nrm/\e≠.ex id:=by
 obtain⟨rfl,_⟩:=h;simp
theorem Fm{R:Type}{V:List RV}{lr:List Nat}{emb:R->AV}{out:R->List (Nat×Row)}{id:Nat}(b:R)(e:Ex)(τ:St)(h:qM V lr emb out b e τ):e≠.nrm/\e≠.ex id:=by
 obtain⟨rfl,_⟩:=h;simp
def lV(C:List AV):Prop:=(∀ρ k,C.map (snp ρ (k+1))=C)/\aF C=[]
theorem ch{C:List AV}(h:lV C)(r d:Nat):C.map (AV.ren r d)=C:=by rw[<-md];exact lN r d C h.2
end
end Vs

namespace Vs
open Go
def cfX{α:Type}(cmp:α->α->Option Int)(xs:List α)(i j:Fin xs.length):Int:=(cmp xs[i] xs[j]).getD 0
def ltX{α:Type}(cmp:α->α->Option Int)(xs:List α)(i j:Fin xs.length):Bool:=decide (cfX cmp xs i j<0)
def okX{α:Type}(cmp:α->α->Option Int)(xs:List α):Prop:=xs.length<4611686018427387904/\(∀i j:Fin xs.length,(cmp xs[i] xs[j]).isSome=true)/\(∀i,ltX cmp xs i i=false)/\
 (∀i j k,ltX cmp xs i j=true->ltX cmp xs j k=true->ltX cmp xs i k=true)/\(∀i j k,ltX cmp xs i j=false->ltX cmp xs j k=false->ltX cmp xs i k=false)
instance{α:Type}(cmp:α->α->Option Int)(xs:List α):Decidable (okX cmp xs):=by unfold okX;infer_instance
def eZ{α:Type}(cmp:α->α->Option Int)(xs:List α)(h:0<xs.length):Array (Fin xs.length):=
 @Sort.pdq _ ⟨⟨0,h⟩⟩ (ltX cmp xs) (Array.ofFn id) 0 xs.length (Lib.bitLen xs.length) true true
def mS{α:Type}(cmp:α->α->Option Int)(xs:List α):Option (List α):=
 if h:0<xs.length then if okX cmp xs then some ((eZ cmp xs h).toList.map fun i=>xs[i]) else none else some []
theorem swoX{α:Type}{cmp:α->α->Option Int}{xs:List α}(h:okX cmp xs):Sort.SWO (ltX cmp xs):=⟨h.2.2.1,h.2.2.2.1,h.2.2.2.2⟩
theorem kM{α:Type}{cmp:α->α->Option Int}{xs:List α}(h:0<xs.length)(hk:okX cmp xs):(eZ cmp xs h).toList.Perm (List.finRange xs.length)/\(eZ cmp xs h).size=xs.length/\
 ∀(i j:Nat)(hi:i<(eZ cmp xs h).size)(hj:j<(eZ cmp xs h).size),i<j->ltX cmp xs (eZ cmp xs h)[j] (eZ cmp xs h)[i]=false:=by
 letI:Inhabited (Fin xs.length):=⟨⟨0,h⟩⟩
 obtain⟨⟨p1,_,p3⟩,p4⟩:=Sort.pdq_sorts (ltX cmp xs) (swoX hk) (Array.ofFn id) 0 xs.length (Lib.bitLen xs.length) true true (Nat.zero_le _) (by simp) (.inl rfl);have e:eZ cmp xs h=Sort.pdq (ltX cmp xs) (Array.ofFn id) 0 xs.length (Lib.bitLen xs.length) true true:=rfl;rw[<-e] at p1 p3 p4;rw[Array.size_ofFn] at p1;refine⟨?_,p1,fun i j hi hj hij=>?_⟩
 ·have h1:(eZ cmp xs h).extract 0 xs.length=eZ cmp xs h:=by
   have:=Array.extract_size (xs:=eZ cmp xs h);rwa[p1] at this
  have h2:(Array.ofFn (n:=xs.length) id).extract 0 xs.length=Array.ofFn (n:=xs.length) id:=by
   have:=Array.extract_size (xs:=Array.ofFn (n:=xs.length) id);rwa[Array.size_ofFn] at this
  rw[h1,h2] at p3;have h3:(Array.ofFn (n:=xs.length) id).toList=List.finRange xs.length:=by
   rw[Array.toList_ofFn];rfl
  rw[h3] at p3;exact p3
 ·have:=p4 i j (Nat.zero_le _) hij (by omega);rw[getElem!_pos _ j hj,getElem!_pos _ i hi] at this;exact this
theorem jS{α:Type}{cmp:α->α->Option Int}{xs ys:List α}(h:mS cmp xs=some ys):ys.length=xs.length:=by
 unfold mS at h;split at h
 ·rename_i h0;split at h
  ·rename_i hk;cases h;rw[List.length_map,Array.length_toList,(kM h0 hk).2.1]
  ·cases h
 ·cases h;simp;omega
theorem xn{α:Type}{cmp:α->α->Option Int}{xs:List α}(cf:α->α->Int)(hl0:xs.length<4611686018427387904)(h1:∀x∈xs,∀y∈xs,cmp x y=some (cf x y))(h2:∀x∈xs,¬cf x x<0)
 (h3:∀x∈xs,∀y∈xs,∀z∈xs,cf x y<0->cf y z<0->cf x z<0) (h4:∀x∈xs,∀y∈xs,∀z∈xs,¬cf x y<0->¬cf y z<0->¬cf x z<0):
 ∃ys,mS cmp xs=some ys/\ys.Perm xs/\ys.Pairwise fun a b=>¬cf b a<0:=by
 have hm:∀i j:Fin xs.length,cmp xs[i] xs[j]=some (cf xs[i] xs[j]):=fun i j=>h1 _ (List.getElem_mem i.isLt) _ (List.getElem_mem j.isLt);have mm:∀i:Fin xs.length,xs[i]∈xs:=fun i=>List.getElem_mem i.isLt;have hc:∀i j:Fin xs.length,cfX cmp xs i j=cf xs[i] xs[j]:=fun i j=>by
  unfold cfX;rw[hm i j];rfl
 have hl:∀i j:Fin xs.length,ltX cmp xs i j=decide (cf xs[i] xs[j]<0):=fun i j=>by unfold ltX;rw[hc]
 have hk:okX cmp xs:=by
  refine⟨hl0,fun i j=>by rw[hm i j];rfl,fun i=>?_,fun i j k=>?_,fun i j k=>?_⟩
  ·rw[hl];exact decide_eq_false (h2 _ (mm i))
  ·simp only[hl,decide_eq_true_eq];exact h3 _ (mm i) _ (mm j) _ (mm k)
  ·simp only[hl,decide_eq_false_iff_not];exact h4 _ (mm i) _ (mm j) _ (mm k)
 unfold mS;by_cases h0:0<xs.length
 ·obtain⟨p1,p2,p3⟩:=kM h0 hk;rw[dif_pos h0,if_pos hk];refine⟨_,rfl,?_,?_⟩
  ·have:=p1.map fun i=>xs[i];refine this.trans ?_;have e:(List.finRange xs.length).map (fun i=>xs[i])=xs:=by
    apply List.ext_getElem
    ·simp
    ·intro i h1 h2;simp
   rw[e]
  ·rw[List.pairwise_iff_getElem];intro i j hi hj hij;simp only[List.length_map,Array.length_toList] at hi hj;have:=p3 i j hi hj hij;rw[hl] at this;simpa using this
 ·rw[dif_neg h0];have:xs=[]:=List.eq_nil_of_length_eq_zero (by omega);subst this;exact⟨[],rfl,.refl _,.nil⟩
end Vs

namespace Vs
open Go Go.RowKit
structure CB(w W:World)(b:Nat):Prop where
 os:W.os=w.os
 tape:W.tape=w.tape
 output:W.output=w.output
 drawn:w.drawn<=W.drawn
 size:w.heap.size<=W.heap.size
 block:∀c,c<w.heap.size->c≠b->W.heap[c]?=w.heap[c]?
 frz:∀a:Addr,a.block<w.heap.size->W.frozen? a=w.frozen? a
def Kj(m:Nat)(hm:0<m)(lt:Fin m->Fin m->Bool):Array (Fin m):=@Sort.pdq _ ⟨⟨0,hm⟩⟩ lt (Array.ofFn id) 0 m (Lib.bitLen m) true true
structure yx(P:Program)(f k:Nat)(sh:Value->Prop):Prop where
 fn:∃fn,P.funcs[f]?=some fn/\fn.body.isNone=false/\(fn.name== "runtime.NumGoroutine")=false
 nil0:∀(p:Option Addr)(cap:Nat)(fv:Value)(w:World),Calls P f #[.slice p 0 cap,fv] w fun e w'=>e=.returned (.tuple #[])/\w'=w
 srt:∀(m:Nat)(hm:0<m)(v:Fin m->Value)(cf:Fin m->Fin m->Int)(g:Nat)(us:Array Value)(b o cap:Nat)(w:World),Sort.SWO (fun i j=>decide (cf i j<0))->(∀i,(v i).cells.size=k/\sh (v i))->
  (∀args w,(callFunc g args).run P w=.ok (.enter g args) w)->
  (∀W,CB w W b->∀i j,Calls P g (#[v i,v j]++us) W fun e W'=>e=.returned (.int .i64 (cf i j))/\Below W.heap.size W W')->
  (∀i:Fin m,cM w b (o+i*k) (v i))->kq w b (o+cap*k)->m<=cap->b<w.heap.size->m<4611686018427387904->
  Calls P f #[.slice (some ⟨b,o,none⟩) m cap,.func (.func g) #[] us] w fun e w'=>e=.returned (.tuple #[])/\CB w w' b/\kq w' b (o+cap*k)/\
   (∀(j:Nat)(i:Fin m),(Kj m hm fun i j=>decide (cf i j<0))[j]?=some i->cM w' b (o+j*k) (v i))/\∀t x,(t<o\/o+m*k<=t)->w.cell? ⟨b,t,none⟩=some x->w'.cell? ⟨b,t,none⟩=some x
theorem RJ{w0 w:World}{tag:Nat->Tag}{β:Nat->Option Own}{ins:List (Nat×Row)}(hbel:Below w0.heap.size w0 w)(hold:∀b,b<w0.heap.size->tag b=.imm\/tag b=.out)(hlt:∀b,tag b≠.out->b<w.heap.size)
 (hrows:∀r,co w tag w0.heap.size β r (look r ins)) (hwf:Wf ins) (k:Nat) (x:AV) (v:Value) (hx:Rep w (Imm tag) w0.heap.size β v x):aQ w (fun b=>tag b≠.out) w.heap.size v (snp (fun r=>look r ins) k x) []:=by
 let F:Fx:=⟨fun b=>b<w0.heap.size/\tag b=.imm,w,tag,β⟩;have hR:RR 0 w0 F ⟨[],ins⟩ {tmps:=#[],defers:=[]} w tag β:=by
  refine⟨by omega,.refl _ _,fun b _ hb=>⟨rfl,rfl⟩,fun b hb=>⟨hb,rfl⟩,fun r _ _=>rfl,hbel,rfl,rfl,fun b hb=>hb.1,hlt,fun b hb=>⟨⟨fun e=>⟨hb,e⟩,fun e=>e.2⟩,hold b hb⟩,fun j x hj=>by simp[look] at hj,hrows,hwf⟩
 exact hR.snp (S:=fun b=>tag b≠.out) (fun b hb=>by rcases hb with e|⟨r,e⟩<;>simp[e]) k x v hx (.inr fun b hb=>hb)
theorem BC{i0 m p:Nat}(d:Array (Fin m))(hd:d.toList.Perm (List.finRange m))(hs:d.size=m)(idx:Nat->Nat)(h0:∀j,j<i0->idx j=j)(h1:∀(j:Nat)(i:Fin m),d[j]?=some i->idx (i0+j)=i0+i.val)(h2:∀j,i0+m<=j->idx j=j):
 ((List.range (i0+m+p)).map idx).Perm (List.range (i0+m+p)):=by
 rw[List.range_add,List.range_add,List.map_append,List.map_append,List.map_map,List.map_map];have e0:(List.range i0).map idx=List.range i0:=by
  conv=>rhs;rw[<-List.map_id (List.range i0)]
  exact List.map_congr_left fun j hj=>h0 j (List.mem_range.1 hj)
 have e2:(List.range p).map (idx∘fun x=>i0+m+x)=(List.range p).map fun x=>i0+m+x:=List.map_congr_left fun j _=>by
  show idx (i0+m+j)=i0+m+j;exact h2 _ (by omega)
 have e1:(List.range m).map (idx∘fun x=>i0+x)=d.toList.map fun i=>i0+i.val:=by
  apply List.ext_getElem
  ·simp[hs]
  ·intro j a b;simp only[List.length_map,List.length_range] at a;simp only[List.getElem_map,List.getElem_range,Function.comp,Array.getElem_toList];exact h1 j _ (Array.getElem?_eq_getElem (by omega))
 have e3:(List.range m).map (fun x=>i0+x)=(List.finRange m).map fun i=>i0+i.val:=by
  apply List.ext_getElem
  ·simp
  ·intro j a b;simp
 rw[e0,e2,e1,e3];exact((List.Perm.refl _).append (hd.map _)).append (List.Perm.refl _)
theorem NZ{α:Type}(xs ys:List α)(i j:Nat)(h:i+ys.length<=xs.length):(dA xs i ys)[j]?=if j<i then xs[j]? else if j<i+ys.length then ys[j-i]? else xs[j]?:=by
 unfold dA;rw[if_pos h,List.append_assoc];by_cases h1:j<i
 ·rw[if_pos h1,List.getElem?_append_left (by simp;omega),List.getElem?_take,if_pos h1]
 ·rw[if_neg h1,List.getElem?_append_right (by simp;omega)];have e:(xs.take i).length=i:=by simp;omega
  rw[e];by_cases h2:j<i+ys.length
  ·rw[if_pos h2,List.getElem?_append_left (by omega)]
  ·rw[if_neg h2,List.getElem?_append_right (by omega),List.getElem?_drop];congr 1;omega
theorem Br{P:Program}{f k:Nat}{sh:Value->Prop}(L:yx P f k sh){α:Type}(E:α->AV)(hE:∀(x:α)(v:Value)(w:World)(S:Nat->Prop)(B:Nat)(fp:List Nat),aQ w S B v (E x) fp->v.cells.size=k->sh v)
 {cmp:α->α->Option Int} {g:Nat} {Caps C:List AV} {ins:List (Nat×Row)} {xs ms ys zs:List α} {i0 n:Nat} (hms:iq xs i0 n=ms) (hzs:dA xs i0 ys=zs) (hC:Caps.map (snp (fun r=>look r ins) 4)=C) (hno:look 1000000000 ins=none) (hwfi:Wf ins) (hdi:∀r∈aF Caps,(look r ins).isSome)
 (hg:∃fn,P.funcs[g]?=some fn/\fn.body.isNone=false/\(fn.name== "runtime.NumGoroutine")=false)
 (hcmp:∀x y r,cmp x y=some r->Ok P g ((E x).nrm::(E y).nrm::C) (.i r)) (h:mS cmp ms=some ys):
 OkM P f [.sl 1000000000 i0 n,.fn g Caps] ((1000000000,.arr k (xs.map E))::ins) (.tup []) ((1000000000,.arr k (zs.map E))::ins):=by
 subst hzs
 classical
 refine⟨L.fn,fun w0 w tag β vs hbel hold hlt hrows hwf hvs hat _=>?_⟩;have hlk:∀(row:Row)(r:Nat),look r ((1000000000,row)::ins)=if r=1000000000 then some row else look r ins:=fun row r=>by
  show(if 1000000000=r then some row else look r ins)=_;by_cases e:r=1000000000
  ·simp[e]
  ·rw[if_neg e,if_neg (fun h=>e h.symm)]
 have h0:=hat 0 _ rfl;have h1:=hat 1 _ rfl;have hv2:vs=#[vs.getD 0 undef,vs.getD 1 undef]:=by
  apply Array.ext
  ·rw[hvs];rfl
  ·intro i hi hj;rw[hvs] at hi;have:i=0\/i=1:=by simp at hi;omega
   rcases this with rfl|rfl<;>simp[hvs]
 generalize vs.getD 0 undef=v0 at h0 hv2;generalize vs.getD 1 undef=v1 at h1 hv2;subst hv2;obtain⟨us,rfl,hus,hux⟩:=h1.1.fn_inv;have hrow:=hrows 1000000000;rw[hlk,if_pos rfl] at hrow
 -- what stays if nothing turns
 have idle:∀(p:Option Addr)(cap:Nat),ms=[]->v0=.slice p 0 cap->Calls P f #[v0,.func (.func g) #[] us] w fun e w'=>∃v tag' β',e=.returned v/\Below 0 w w'/\(∀b,b<w.heap.size->tag b=.imm\/tag b=.out->tag' b=tag b/\w'.heap[b]?=w.heap[b]?)/\
  (∀b,Imm tag b->Imm tag' b/\w'.heap[b]?=w.heap[b]?)/\(∀b,tag' b≠.out->b<w'.heap.size)/\(∀r,co w' tag' w0.heap.size β' r (look r ((1000000000,.arr k ((dA xs i0 ys).map E))::ins)))/\Wf ((1000000000,.arr k ((dA xs i0 ys).map E))::ins)/\
  (∀r,1000000000<=r->cD (look r ((1000000000,.arr k ((dA xs i0 ys).map E))::ins))->β' r=β r)/\Rep w' (Imm tag') w0.heap.size β' v (.tup [])/\∀r∈(AV.tup []).ments,(look r ((1000000000,.arr k ((dA xs i0 ys).map E))::ins)).isSome:=by
  intro p cap hxs hv0;subst hv0;have hy:ys=[]:=List.eq_nil_of_length_eq_zero (by have:=jS h;rw[hxs] at this;simpa using this);have ho:dA xs i0 ys=xs:=by rw[hy];unfold dA;split<;>simp
  rw[ho];refine(L.nil0 p cap _ w).mono ?_;rintro e w' ⟨rfl,rfl⟩;exact⟨_,tag,β,rfl,.refl _ _,fun b _ _=>⟨rfl,rfl⟩,fun b hb=>⟨hb,rfl⟩,hlt,hrows,hwf,fun _ _ _=>rfl,.tup #[] [] rfl (fun j x hj=>by simp at hj),fun r hr=>by simp[AV.ments,aF] at hr⟩
 have hmk:∀(x:AV),aF [x]=x.ments:=fun x=>by simp[aF]
 have hsl:=h0.1;rcases hrow with⟨hb0,hes⟩|⟨b,o,cap,es,fps,hb0,⟨hb1,hb2,hb3⟩,hb4,hb5,hb6,hb7,hb8⟩
 ·have hxs:xs=[]:=List.map_eq_nil_iff.1 hes;cases hsl with
  |p _ _ hp=>cases hp
  |slB r i n b o sz cap len c hh=>rw[hb0] at hh;cases hh
  |slE r i b o sz cap len p hh=>rw[hb0] at hh;cases hh
  |slN r hh=>exact idle none 0 (by rw[<-hms,hxs];unfold iq;split<;>simp) rfl
  |slD r i n v hh=>rw[hb0] at hh;cases hh
 ·rw[List.length_map] at hb0 hb4 hb7 hb8;have hcv:(∃c,v0=.slice (some ⟨b,o+i0*k,none⟩) n c/\i0+c=cap/\n<=c/\i0+n<=xs.length)\/n=0/\∃p c,v0=.slice p 0 c:=by
   cases hsl with
   |p _ _ hp=>cases hp
   | slB r i n b' o' sz cap' len c hh hc hn hl =>
     rw[hb0] at hh;cases hh;exact .inl ⟨c,rfl,hc,hn,hl⟩
   |slE r i b' o' sz cap' len p hh=>exact .inr ⟨rfl,_,_,rfl⟩
   |slN r hh=>rw[hb0] at hh;cases hh
   |slD r i n v hh=>rw[hb0] at hh;cases hh
  have hmsd:ms=(xs.drop i0).take n:=by rw[<-hms,ik]
  by_cases hx0:ms=[]
  ·rcases hcv with⟨c,e,_,hnc,hil⟩|⟨_,p,c,e⟩
   ·have hn0:n=0:=by
     have:=congrArg List.length hmsd;rw[hx0] at this;simp only[List.length_nil,List.length_take,List.length_drop] at this;omega
    exact idle _ c hx0 (by rw[e,hn0])
   ·exact idle p c hx0 e
  have hpos:0<ms.length:=List.length_pos_iff.2 hx0;obtain⟨c,hv0,hic,hnc,hil⟩:∃c,v0=.slice (some ⟨b,o+i0*k,none⟩) n c/\i0+c=cap/\n<=c/\i0+n<=xs.length:=by
   rcases hcv with e|⟨e,_⟩
   ·exact e
   ·exfalso;rw[hmsd,e] at hpos;simp at hpos
  have hml:ms.length=n:=by rw[hmsd];simp;omega
  subst hv0;rw[<-hml] at hil hnc⊢;have hmsq:∀q,q<ms.length->ms[q]?=xs[i0+q]?:=fun q hq=>by
   rw[hmsd,List.getElem?_take,if_pos (by omega),List.getElem?_drop]
  have hmsx:∀i:Fin ms.length,xs[i0+i.val]?=some ms[i]:=fun i=>by
   rw[<-hmsq i.val i.isLt];exact List.getElem?_eq_getElem i.isLt
  -- the comparison answers on all pairs
  have h':=h;unfold mS at h';rw[dif_pos hpos] at h';by_cases hk:okX cmp ms
  ·rw[if_pos hk] at h';simp only[Option.some.injEq] at h';obtain⟨p1,p2,p3⟩:=kM hpos hk;have hd0:eZ cmp ms hpos=Kj ms.length hpos fun i j=>decide (cfX cmp ms i j<0):=rfl;have hmap:∀i:Fin ms.length,(xs.map E)[i0+i.val]?=some (E ms[i]):=fun i=>by rw[List.getElem?_map,hmsx i];rfl
   have hbl:b<w.heap.size:=hlt b (by rw[hb1];simp);have hnb:∀c,Imm tag c->c≠b:=fun c hc e=>by
    rw[e] at hc;rcases hc with hc|⟨r,hc⟩<;>rw[hb1] at hc<;>cases hc
   -- the rows that the comparison captures,without the row that is sorted
   let tag1:Nat->Tag:=fun c=>if c=b then .out else tag c
   let β1:Nat->Option Own:=fun r=>if r=1000000000 then none else β r
   have ht1:∀c,c≠b->tag1 c=tag c:=fun c hc=>if_neg hc;have himm1:∀c,Imm tag c->Imm tag1 c:=fun c hc=>by unfold Imm;rw[ht1 c (hnb c hc)];exact hc
   have hrows1:∀r,co w tag1 w0.heap.size β1 r (look r ins):=fun r=>by
    by_cases e:r=1000000000
    ·subst e;rw[hno];exact if_pos rfl
    ·have hr:=hrows r;rw[hlk,if_neg e] at hr;refine hr.mono (fun c hc=>⟨himm1 c hc,rfl⟩) (fun c hc=>⟨by rw[ht1 c (fun e2=>by rw[e2,hb1] at hc;cases hc;exact e rfl)];exact hc,rfl⟩) (fun c hc=>by rw[ht1 c (fun e2=>by rw[e2,hb1] at hc;cases hc)];exact hc) (if_neg e) fun x hx q hq=>?_;by_cases e2:q=1000000000
     ·exact .inr (if_pos e2)
     ·exact .inl (if_neg e2)
   have hold1:∀c,c<w0.heap.size->tag1 c=.imm\/tag1 c=.out:=fun c hc=>by rw[ht1 c (by omega)];exact hold c hc
   have hlt1:∀c,tag1 c≠.out->c<w.heap.size:=fun c hc=>by
    by_cases e:c=b
    ·rw[e];exact hbl
    ·rw[ht1 c e] at hc;exact hlt c hc
   have hCl:C.length=us.size:=by rw[<-hC,List.length_map,hus]
   have hnear:∀W,CB w W b->∀c,tag1 c≠.out->c<W.heap.size/\W.heap[c]?=w.heap[c]?:=fun W hW c hc=>by
    have e:c≠b:=fun e=>hc (by simp[tag1,e]);exact⟨Nat.lt_of_lt_of_le (hlt1 c hc) hW.size,hW.block c (hlt1 c hc) e⟩
   have hcaps:∀W,CB w W b->∀(j:Nat)(x:AV),C[j]?=some x->aQ W (fun c=>tag1 c≠.out) W.heap.size (us.getD j undef) x []:=fun W hW j x hj=>by
    rw[<-hC] at hj;obtain⟨y,hy,rfl⟩:=xm hj;have hi1:∀c,Imm tag1 c->tag1 c≠.out:=fun c hc=>by rcases hc with e|⟨r,e⟩<;>rw[e]<;>simp
    refine RJ (w:=W) ⟨⟨hW.os.trans hbel.bel.os,hW.tape.trans hbel.bel.tape,hW.output.trans hbel.bel.output,Nat.le_trans hbel.size hW.size,fun c hc=>(hW.block c (Nat.lt_of_lt_of_le hc hbel.size) (by omega)).trans (hbel.block c hc)⟩,fun x hx=>(hW.frz x (Nat.lt_of_lt_of_le hx hbel.size)).trans (hbel.frz x hx),Nat.le_trans hbel.drawn hW.drawn⟩
     hold1 (fun c hc=>(hnear W hW c hc).1) (fun r=>(hrows1 r).mono (fun c hc=>⟨hc,(hnear W hW c (hi1 c hc)).2⟩) (fun c hc=>⟨hc,(hnear W hW c (by rw[hc];simp)).2⟩) (fun c hc=>hc) rfl fun x hx q hq=>.inl rfl) hwfi 4 y _ ((hux j y hy).mono (fun c hc=>⟨himm1 c hc,(hnear W hW c (hi1 c (himm1 c hc))).2⟩) fun r hr=>?_)
    by_cases e2:r=1000000000
    ·exact .inr (if_pos e2)
    ·exact .inl (if_neg e2)
   have hsort:=L.srt ms.length hpos (fun i=>es (i0+i.val)) (cfX cmp ms) g us b (o+i0*k) c w (swoX hk) (fun i=>by
    have q1:=hb5 _ _ (hmap i);exact⟨q1.1,hE _ _ _ _ _ _ (hb6 _ _ (hmap i)) q1.1⟩) (fun args w1=>by
    obtain⟨fn,e1,e2,e3⟩:=hg;have e2':¬fn.body=none:=fun e=>by rw[e] at e2;cases e2
    have e3':¬fn.name= "runtime.NumGoroutine":=by simpa using e3
    simp[callFunc,e1,e2',e3']) (fun W hW i j=>by
    have hcm:cmp ms[i] ms[j]=some (cfX cmp ms i j):=by
     have:=hk.2.1 i j;unfold cfX;cases e:cmp ms[i] ms[j] with
     |none=>rw[e] at this;cases this
     |some r=>rfl
    obtain⟨_,hcall⟩:=hcmp _ _ _ hcm;refine(hcall W (fun c=>tag1 c≠.out) (#[es (i0+i.val),es (i0+j.val)]++us) (fun c hc=>(hnear W hW c hc).1) (by simp[hCl];omega) (fun q x hq=>?_) fun _ _=>trivial).mono ?_
    ·have helem:∀i:Fin ms.length,aQ W (fun c=>tag1 c≠.out) W.heap.size (es (i0+i.val)) (E ms[i]).nrm []:=fun i=>by
      have:=hb6 _ _ (hmap i);exact(this.mono (S':=fun c=>tag1 c≠.out) (w':=W) (fun c hc=>by
       have:tag1 c≠.out:=by rw[ht1 c (hnb c hc)];rcases hc with e|⟨r,e⟩<;>rw[e]<;>simp
       exact⟨this,(hnear W hW c this).2⟩)).nrm fun c hc=>⟨hc,(hnear W hW c hc).1⟩
     match q with
     |0=>simp only[List.getElem?_cons_zero,Option.some.injEq] at hq;subst hq;rw[Array.getD_eq_getD_getElem?,Array.getElem?_append_left (by simp)];exact helem i
     |1=>simp only[List.getElem?_cons_succ,List.getElem?_cons_zero,Option.some.injEq] at hq;subst hq;rw[Array.getD_eq_getD_getElem?,Array.getElem?_append_left (by simp)];exact helem j
     | q + 2 =>
       simp only[List.getElem?_cons_succ] at hq;have e:(#[es (i0+i.val),es (i0+j.val)]++us).getD (q+2) undef=us.getD q undef:=by
        rw[Array.getD_eq_getD_getElem?,Array.getD_eq_getD_getElem?,Array.getElem?_append_right (by simp)];simp
       rw[e];exact hcaps W hW q x hq
    ·rintro e W' ⟨v,fp,S',rfl,hb,_,_,hr⟩;cases hr;exact⟨rfl,hb⟩) (fun i=>by
    have:=(hb5 _ _ (hmap i)).2;rwa[Nat.add_mul,<-Nat.add_assoc] at this) (by rw[Nat.add_assoc,<-Nat.add_mul,hic];exact hb3) hnc hbl hk.1
   refine hsort.mono ?_;rintro e w' ⟨rfl,hN,hfree,hva,hrest⟩;rw[Nat.add_assoc,<-Nat.add_mul,hic] at hfree;have hblk:∀c,c<w.heap.size->c≠b->w'.heap[c]?=w.heap[c]?:=hN.block;have himmk:∀c,Imm tag c->Imm tag c/\w'.heap[c]?=w.heap[c]?:=fun c hc=>⟨hc,hblk c (hlt c (by rcases hc with e|⟨r,e⟩<;>rw[e]<;>simp)) (hnb c hc)⟩;have hyl:ys.length=ms.length:=jS h;have hol:(dA xs i0 ys).length=xs.length:=mT _ _ _;let idx:Nat->Nat:=fun j=>if j<i0 then j else match(eZ cmp ms hpos)[j-i0]? with|some i=>i0+i.val|none=>j
   have hidx0:∀j,j<i0->idx j=j:=fun j hj=>by simp only[idx,if_pos hj]
   have hidx1:∀(j:Nat)(i:Fin ms.length),(eZ cmp ms hpos)[j]?=some i->idx (i0+j)=i0+i.val:=fun j i e=>by
    simp only[idx];rw[if_neg (by omega),Nat.add_sub_cancel_left,e]
   have hidx2:∀j,i0+ms.length<=j->idx j=j:=fun j hj=>by
    simp only[idx];rw[if_neg (by omega),Array.getElem?_eq_none (by omega)]
   have hperm:∀q:Nat->List Nat,(bP xs.length fun j=>q (idx j)).Perm (bP xs.length q):=fun q=>by
    have e:xs.length=i0+ms.length+(xs.length-(i0+ms.length)):=by omega
    have hp:=BC (p:=xs.length-(i0+ms.length)) (eZ cmp ms hpos) p1 p2 idx hidx0 hidx1 hidx2;rw[<-e] at hp;have:=hp.flatMap_right q;unfold bP;rwa[List.flatMap_map] at this
   have hcell:∀j x,((dA xs i0 ys).map E)[j]?=some x->(xs.map E)[idx j]?=some x/\((es (idx j)).cells.size=k->cM w b (o+idx j*k) (es (idx j))->cM w' b (o+j*k) (es (idx j))):=fun j x hj=>by
    rw[List.getElem?_map,NZ xs ys i0 j (by omega),hyl] at hj;by_cases h1:j<i0
    ·rw[if_pos h1] at hj;rw[hidx0 j h1];refine⟨by rw[List.getElem?_map];exact hj,fun hsz hv p x hx=>⟨hrest _ _ (.inl ?_) (hv p x hx).1,(hv p x hx).2⟩⟩;have hp:=(Array.getElem?_eq_some_iff.1 hx).1;have:=Nat.mul_le_mul_right k (show j+1<=i0 from h1);rw[Nat.add_mul,Nat.one_mul] at this;omega
    ·rw[if_neg h1] at hj;by_cases h2:j<i0+ms.length
     ·rw[if_pos h2] at hj;have hj':j-i0<(eZ cmp ms hpos).size:=by rw[p2];omega
      have i1:(eZ cmp ms hpos)[j-i0]?=some (eZ cmp ms hpos)[j-i0]:=Array.getElem?_eq_getElem hj';have e:idx j=i0+((eZ cmp ms hpos)[j-i0]).val:=by
       have:=hidx1 _ _ i1;rwa[show i0+(j-i0)=j by omega] at this
      rw[e];refine⟨?_,fun _ _=>?_⟩
      ·rw[hmap];rw[<-h',List.getElem?_map,Array.getElem?_toList,i1] at hj;exact hj
      ·have:=hva (j-i0) _ (by rw[<-hd0];exact i1);rwa[Nat.add_assoc,<-Nat.add_mul,show i0+(j-i0)=j by omega] at this
     ·rw[if_neg h2] at hj;rw[hidx2 j (by omega)];refine⟨by rw[List.getElem?_map];exact hj,fun hsz hv p x hx=>⟨hrest _ _ (.inr ?_) (hv p x hx).1,(hv p x hx).2⟩⟩;have:=Nat.mul_le_mul_right k (show i0+ms.length<=j by omega);rw[Nat.add_mul] at this;omega
   refine⟨_,tag,β,rfl,⟨⟨hN.os,hN.tape,hN.output,hN.size,fun c hc=>by omega⟩,hN.frz,hN.drawn⟩,fun c hc ht=>⟨rfl,hblk c hc (fun e=>by rw[e,hb1] at ht;rcases ht with ht|ht<;>cases ht)⟩,himmk,fun c hc=>Nat.lt_of_lt_of_le (hlt c hc) hN.size,fun r=>?_,fun q x hx=>?_,fun _ _ _=>rfl,.tup #[] [] rfl (fun j x hj=>by simp at hj),fun r hr=>by simp[AV.ments,aF] at hr⟩
   ·rw[hlk];split
    ·rename_i e;subst e;refine .inr ⟨b,o,cap,fun j=>es (idx j),fun j=>fps (idx j),by rw[List.length_map,hol];exact hb0,⟨hb1,hb2,hfree⟩,by rw[List.length_map,hol];exact hb4,fun j x hj=>?_,fun j x hj=>?_,?_,?_⟩
     ·obtain⟨c1,c2⟩:=hcell j x hj;exact⟨(hb5 _ _ c1).1,c2 (hb5 _ _ c1).1 (hb5 _ _ c1).2⟩
     ·exact(hb6 _ _ (hcell j x hj).1).mono himmk
     ·rw[List.length_map,hol];exact(hperm fps).nodup_iff.2 hb7
     ·intro c hc;rw[List.length_map,hol] at hc;exact hb8 c ((hperm fps).mem_iff.1 hc)
    ·rename_i e;have hr:=hrows r;rw[hlk,if_neg e] at hr;exact hr.mono himmk (fun c hc=>⟨hc,hblk c (hlt c (by rw[hc];simp)) (fun e2=>by rw[e2,hb1] at hc;cases hc;exact e rfl)⟩) (fun c hc=>hc) rfl fun x hx q hq=>.inl rfl
   ·rw[hlk] at hx;split at hx
    ·cases hx
    ·intro hq';have hw2:=hwf q x (by rw[hlk,if_neg (by assumption)];exact hx);intro hmem;have:=hw2 hq' hmem;rw[hlk] at this⊢;split
     ·rfl
     ·rename_i e2;rw[if_neg e2] at this;exact this
  ·rw[if_neg hk] at h';cases h'
theorem Jf{P:Program}{f k:Nat}{sh:Value->Prop}(L:yx P f k sh){α:Type}(E:α->AV)(hE:∀(x:α)(v:Value)(w:World)(S:Nat->Prop)(B:Nat)(fp:List Nat),aQ w S B v (E x) fp->v.cells.size=k->sh v)
 {cmp:α->α->Option Int} {g:Nat} {Caps C:List AV} {ins:List (Nat×Row)} {xs ys:List α} {n:Nat} (hn:n=xs.length) (hC:Caps.map (snp (fun r=>look r ins) 4)=C) (hno:look 1000000000 ins=none) (hwfi:Wf ins) (hdi:∀r∈aF Caps,(look r ins).isSome)
 (hg:∃fn,P.funcs[g]?=some fn/\fn.body.isNone=false/\(fn.name== "runtime.NumGoroutine")=false)
 (hcmp:∀x y r,cmp x y=some r->Ok P g ((E x).nrm::(E y).nrm::C) (.i r)) (h:mS cmp xs=some ys):
 OkM P f [.sl 1000000000 0 n,.fn g Caps] ((1000000000,.arr k (xs.map E))::ins) (.tup []) ((1000000000,.arr k (ys.map E))::ins):=by
 have:=Br L E hE (cmp:=cmp) (i0:=0) (n:=n) (ms:=xs) (by rw[hn,gu]) rfl hC hno hwfi hdi hg hcmp h;have e:dA xs 0 ys=ys:=by
  have hl:=jS h;unfold dA;rw[if_pos (by omega)];simp[hl]
 rwa[e] at this
end Vs

namespace Vs
open Go Go.RowKit Go.Proofs
theorem wH{W W':World}(h:Below W.heap.size W W'):∃q os,W'=Sort.grow (W.drewN q) os:=by
 refine⟨W'.drawn-W.drawn,W'.heap.extract W.heap.size W'.heap.size,?_⟩;have e1:W'.heap=W.heap++W'.heap.extract W.heap.size W'.heap.size:=by
  apply Array.ext_getElem?;intro i;rw[Array.getElem?_append];have hs:=h.size;split
  ·rename_i hi;exact h.block i hi
  ·rename_i hi;rw[Array.getElem?_extract];by_cases hlt:i<W'.heap.size
   ·rw[if_pos (by omega)];congr 1;omega
   ·rw[if_neg (by omega),Array.getElem?_eq_none (by omega)]
 have e2:W'.drawn=W.drawn+(W'.drawn-W.drawn):=by have:=h.drawn;omega
 have b1:=h.bel.os;have b2:=h.bel.tape;have b3:=h.bel.output;cases W' with
 | mk heap tape drawn os output =>
   simp only at e1 e2 b1 b2 b3;unfold Sort.grow World.drewN;simp only[World.mk.injEq];exact⟨e1,b2,e2,b1,b3⟩
theorem rk{α:Type}[Inhabited α]{enc:α->Value}{w:World}{b o m:Nat}{d:Array α}{os:Array Obj}(hb:b<w.heap.size):CB w (sortWorld enc w b o m d os) b:=by
 have hp:∀c,c≠b->(Sort.putRow enc (Sort.ahead w m) b o d).heap[c]?=w.heap[c]?:=fun c hc=>by
  simp only[Sort.putRow,Sort.mapBlock];rw[Array.getElem?_modify,if_neg (fun e=>hc e.symm)];rfl
 have hs:(Sort.putRow enc (Sort.ahead w m) b o d).heap.size=w.heap.size:=by simp[Sort.putRow,Sort.mapBlock,Sort.ahead]
 refine⟨rfl,rfl,rfl,?_,?_,?_,?_⟩
 ·show w.drawn<=w.drawn+m;omega
 ·show w.heap.size<=(Sort.grow _ os).heap.size;rw[Sort.size_grow,hs];omega
 ·intro c hc hne;show(Sort.grow _ os).heap[c]?=_;rw[Sort.heap_grow_old _ _ (by rw[hs];exact hc)];exact hp c hne
 ·intro a ha;show(Sort.grow _ os).frozen? a=_;rw[Sort.frozen?_grow _ _ _ (by rw[hs];exact ha)];rw[Sort.frozen?_putRow];rfl
theorem nT{α:Type}[Inhabited α]{enc:α->Value}{w:World}{b o m:Nat}{d0 d:Array α}{os:Array Obj}(hb:b<w.heap.size)(hH:Sort.Holds enc w b o d0)(hs:d.size=d0.size)(j:Nat)(hj:j<d.size):
 (sortWorld enc w b o m d os).cell? ⟨b,o+j,none⟩=some (enc d[j]!):=by
 show(Sort.grow _ os).cell? _=_;rw[Sort.cell?_grow _ _ _ (by rw[Sort.size_putRow];exact hb)];have:=Sort.cell?_putRow enc (Sort.ahead w m) b o d0 d (Sort.holds_ahead _ _ _ _ _ _ hH) hs j hj;exact this
theorem oW{α:Type}[Inhabited α]{enc:α->Value}{w:World}{b o m t:Nat}{d:Array α}{os:Array Obj}(hb:b<w.heap.size)(hf:kq w b t):kq (sortWorld enc w b o m d os) b t:=by
 obtain⟨c,ty,h1,h2⟩:=hf;refine⟨Sort.putCells enc o d c,ty,?_,by simp[Sort.putCells];exact h2⟩;show(Sort.grow _ os).heap[b]?=_;rw[Sort.heap_grow_old _ _ (by rw[Sort.size_putRow];exact hb)];simp only[Sort.putRow,Sort.mapBlock,Array.getElem?_modify,if_true];show((Sort.ahead w m).heap[b]?).map _=_;rw[show(Sort.ahead w m).heap[b]?=w.heap[b]? from rfl,h1];rfl
theorem nu{α:Type}[Inhabited α]{enc:α->Value}{w:World}{b o m:Nat}{d:Array α}{os:Array Obj}(hb:b<w.heap.size)(t:Nat)(h:t<o\/o+d.size<=t):
 (sortWorld enc w b o m d os).cell? ⟨b,t,none⟩=w.cell? ⟨b,t,none⟩:=by
 show(Sort.grow _ os).cell? _=_;rw[Sort.cell?_grow _ _ _ (by rw[Sort.size_putRow];exact hb),Sort.cell?_putRow_other _ _ _ _ _ _ (.inr h)];rfl
theorem Rk{P:Program}{f k:Nat}{A:aq}{V:List RV}(h:be P f k A V=true):∃fn,P.funcs[f]?=some fn/\fn.body.isNone=false/\(fn.name== "runtime.NumGoroutine")=false:=by
 unfold be at h;split at h
 ·rename_i fn hf;split at h
  ·rename_i c hc;simp only[Bool.and_eq_true,Bool.not_eq_true',decide_eq_true_eq] at h;exact⟨fn,hf,by rw[hc];rfl,h.1.1.1.1⟩
  ·simp at h
 ·cases h
end Vs

namespace Vs
open Go Go.RowKit Go.Proofs
def shK(k:Nat)(v:Value):Prop:=∃vs:Array Value,v=.agg vs/\vs.size=k/\∀x∈vs,x.oneCell'=true
theorem CJ{k:Nat}{w:World}{S:Nat->Prop}{B:Nat}{v:Value}{cs:List AV}{fp:List Nat}(h:aQ w S B v (.agg cs) fp)(hk:v.cells.size=k):shK k v:=by
 obtain⟨vs,_,rfl,_,h1,_⟩:=h.agg_at;exact⟨vs,rfl,hk,h1⟩
theorem divk{k j p:Nat}(hp:p<k):(j*k+p)/k=j/\(j*k+p)%k=p:=by
 rw[Nat.add_comm,Nat.add_mul_div_right _ _ (by omega),Nat.div_eq_of_lt hp,Nat.add_mul_mod_self_right,Nat.mod_eq_of_lt hp];exact⟨by omega,rfl⟩
theorem Sa{P:Program}{ρ:Go.Shelf.Ren}(L:SlLaysF0.n6 P ρ)(k:Nat)(hk0:0<k)(aE:∀w,(isAgg (ρ.t 24)).run P w=.ok true w)(zE:∀w,(Go.sizeOf (ρ.t 24)).run P w=.ok k w)
 (hnil:∀(p:Option Addr)(cap:Nat)(fv:Value)(w:World),Calls P (ρ.f 6) #[.slice p 0 cap,fv] w fun e w'=>e=.returned (.tuple #[])/\w'=w)
 (hfn:∃fn,P.funcs[ρ.f 6]?=some fn/\fn.body.isNone=false/\(fn.name== "runtime.NumGoroutine")=false):yx P (ρ.f 6) k (shK k) where
 fn:=hfn
 nil0:=hnil
 srt:=by
  intro m hm v cf g us b o cap w hO hv eg hcmp hva hfree hmc hb hbig
  letI:Inhabited (Fin m):=⟨⟨0,hm⟩⟩
  let enc:Fin m->List Value:=fun i=>(v i).cells.toList;have hk:∀x,(enc x).length=k:=fun x=>by simp only[enc,Array.length_toList];exact(hv x).1
  have hsh:∀x,∃vs:Array Value,v x=.agg vs/\vs.size=k/\∀c∈vs,c.oneCell'=true:=fun x=>(hv x).2;have h1:∀x,∀c∈enc x,c.oneCell'=true:=fun x c hc=>by
   obtain⟨vs,e,_,h⟩:=hsh x;simp only[enc,e,Value.cells,Array.mem_toList_iff] at hc;exact h c hc
  have hval:∀x,Value.agg (enc x).toArray=v x:=fun x=>by
   obtain⟨vs,e,_,_⟩:=hsh x;simp only[enc,e,Value.cells,Array.toArray_toList]
  have hfz:∀t,w.frozen? ⟨b,t,none⟩=false:=fun t=>by
   obtain⟨c,ty,e1,_⟩:=hfree;unfold World.frozen?;rw[e1];simp
  have hsz:(Array.ofFn (n:=m) id).size=m:=Array.size_ofFn;have hof:∀j(hj:j<m),(Array.ofFn (n:=m) id)[j]! =⟨j,hj⟩:=fun j hj=>by
   rw[getElem!_pos _ j (by simpa using hj),Array.getElem_ofFn];rfl
  have hcell1:∀(i:Fin m)(p:Nat)(hp:p<k),(v i).cells[p]?=some (enc i)[p]!:=fun i p hp=>by
   have hs:=(hv i).1;rw[Array.getElem?_eq_getElem (by omega),getElem!_pos _ p (by rw[hk];exact hp)];simp only[enc,Array.getElem_toList]
  have hH:Sort.HoldsK enc k w b o (Array.ofFn (n:=m) id):=by
   intro t ht;rw[Sort.size_flatK,hsz] at ht;have hj:t/k<m:=Nat.div_lt_of_lt_mul (by rwa[Nat.mul_comm] at ht);have hp:t%k<k:=Nat.mod_lt _ hk0;rw[Sort.get_flatK _ _ _ t (by rw[hsz];exact ht),hof _ hj];have hc:=hva ⟨t/k,hj⟩ (t%k) _ (hcell1 _ _ hp);have e:o+t/k*k+t%k=o+t:=by
    have:=Nat.div_add_mod t k;rw[Nat.mul_comm] at this;omega
   simp only[e] at hc;exact⟨hc.1,hfz _⟩
  have hwo:(Sort.SWO (ltOf cf)):=hO;have hC:CmpLays P g us enc k cf b o (Array.ofFn (n:=m) id).size w:=fun q os dk hdk x y=>by
   have hn:CB w (sortWorldK enc k w b o q dk os) b:=rk (enc:=fun v:Value=>v) (o:=o) (m:=q) (d:=Sort.flatK enc k dk) (os:=os) hb;rw[hval,hval];refine(hcmp _ hn x y).mono ?_;rintro e W' ⟨rfl,hbel⟩;exact⟨rfl,wH hbel⟩
  have:=AnyQ.slices_SortFunc_eq L k aE zE enc hk h1 cf hwo g us b o cap (Array.ofFn (n:=m) id) w eg hC hH hb (by rw[hsz];exact hbig);rw[hsz] at this;refine this.mono ?_;rintro e w' ⟨rfl,q,os,rfl⟩;have hd:Sort.pdq (ltOf cf) (Array.ofFn id) 0 m (Lib.bitLen m) true true=Kj m hm fun i j=>decide (cf i j<0):=rfl;have hps:=(Sort.pdq_sorts (ltOf cf) hwo (Array.ofFn (n:=m) id) 0 m (Lib.bitLen m) true true (Nat.zero_le _) (by simp) (.inl rfl)).1.1;refine⟨rfl,rk (enc:=fun v:Value=>v) hb,oW (enc:=fun v:Value=>v) hb hfree,fun j i hji=>?_,fun t x ht hx=>?_⟩;rotate_left
  ·have:=nu (enc:=fun v:Value=>v) (m:=q) (os:=os) (d:=Sort.flatK enc k (Sort.pdq (ltOf cf) (Array.ofFn id) 0 m (Lib.bitLen m) true true)) hb t (by rw[Sort.size_flatK,hps,hsz];omega);exact this.trans hx
  rw[<-hd] at hji;obtain⟨hj,e⟩:=Array.getElem?_eq_some_iff.1 hji;intro p x hx;have hp:p<k:=by
   have:=(Array.getElem?_eq_some_iff.1 hx).1;rw[(hv i).1] at this;exact this
  have hjm:j<m:=by rw[hps,hsz] at hj;exact hj
  have hlt:j*k+p<(Sort.pdq (ltOf cf) (Array.ofFn id) 0 m (Lib.bitLen m) true true).size*k:=by
   have:=Nat.mul_le_mul_right k (show j+1<=(Sort.pdq (ltOf cf) (Array.ofFn id) 0 m (Lib.bitLen m) true true).size from hj);rw[Nat.add_mul,Nat.one_mul] at this;omega
  have hcell:=nT (enc:=fun v:Value=>v) (m:=q) (os:=os) (d:=Sort.flatK enc k (Sort.pdq (ltOf cf) (Array.ofFn id) 0 m (Lib.bitLen m) true true)) hb hH (by rw[Sort.size_flatK,Sort.size_flatK,hps]) (j*k+p) (by rw[Sort.size_flatK];exact hlt);obtain⟨d1,d2⟩:=divk (j:=j) hp;rw[Sort.get_flatK _ _ _ _ hlt,d1,d2,getElem!_pos _ j hj,e] at hcell;have hx2:=hcell1 i p hp;rw[hx] at hx2;simp only[Option.some.injEq] at hx2;subst hx2;obtain⟨vs,ev,hvs,h⟩:=hsh i;refine⟨by rw[Nat.add_assoc];exact hcell,h _ ?_⟩;have:=Array.mem_of_getElem? hx;rw[ev] at this;simpa[Value.cells] using this
end Vs





namespace Vs
open Go
theorem aH{n:Int}(h1:-9223372036854775808<=n)(h2:n<=9223372036854775807):IntKind.wrap .i64 n=n:=by
 rw[IntKind.wrap_i64];omega
theorem eH{n:Nat}(h:n<18446744073709551616):n<N0:=by unfold N0;omega
theorem cz{S B:Type}{f:S->Option (S⊕B)}(I:S->Prop)(μ:S->Nat)(Q:B->Prop)
 (hs:∀s,I s->(∃s',f s=some (.inl s')/\I s'/\μ s'<μ s)\/∃b,f s=some (.inr b)/\Q b):∀(n:Nat)(s:S),I s->μ s<n->∃b,bg f n s=some b/\Q b
 |0,_,_,h=>by omega
 | n + 1, s, hI, hn => by
   rcases hs s hI with⟨s',h1,h2,h3⟩|⟨b,h1,h2⟩
   ·obtain⟨b,hb,hq⟩:=cz I μ Q hs n s' h2 (by omega);exact⟨b,by simp[bg,h1,hb],hq⟩
   ·exact⟨b,by simp[bg,h1],h2⟩
def cr{α A B:Type}(step:Nat->α->A->A⊕B)(fin:A->B):Nat->List α->A->B
 |_,[],a=>fin a
 | i, x :: xs, a => match step i x a with
   | .inl a'=>cr step fin (i+1) xs a'
   | .inr b=>b
theorem dH{α A S B:Type}{f:S->Option (S⊕B)}(xs:List α)(st:Nat->A->S)(step:Nat->α->A->A⊕B)(fin:A->B)(I:Nat->A->Prop)
 (h1:∀i a x,xs[i]?=some x->I i a->(∃a',step i x a=.inl a'/\I (i+1) a'/\f (st i a)=some (.inl (st (i+1) a')))\/∃b,step i x a=.inr b/\f (st i a)=some (.inr b))
 (h2:∀a,I xs.length a->f (st xs.length a)=some (.inr (fin a))) (a0:A) (h0:I 0 a0) (hl:xs.length<18446744073709551615):
 bg f N0 (st 0 a0)=some (cr step fin 0 xs a0):=by
 have key:∀(ys:List α)(i:Nat)(a:A)(n:Nat),xs.drop i=ys->i<=xs.length->I i a->ys.length<n->bg f n (st i a)=some (cr step fin i ys a):=by
  intro ys;induction ys with
  | nil =>
    intro i a n hd hi hI hn;have:i=xs.length:=by
     have:=congrArg List.length hd;simp at this;omega
    subst this;cases n with
    |zero=>simp at hn
    |succ n=>simp[bg,h2 a hI,cr]
  | cons y ys ih =>
    intro i a n hd hi hI hn;have hx:xs[i]?=some y:=by
     have:=congrArg (·[0]?) hd;simpa using this
    have hlt:i<xs.length:=(List.getElem?_eq_some_iff.1 hx).1;have hd':xs.drop (i+1)=ys:=by
     have:=congrArg (List.drop 1) hd;simpa[List.drop_drop,Nat.add_comm] using this
    cases n with
    |zero=>simp at hn
    | succ n =>
      simp only[List.length_cons] at hn;rcases h1 i a y hx hI with⟨a',e1,e2,e3⟩|⟨b,e1,e2⟩
      ·simp only[bg,e3,cr,e1];exact ih (i+1) a' n hd' (by omega) e2 (by omega)
      ·simp only[bg,e2,cr,e1]
 exact key xs 0 a0 N0 (by simp) (by omega) h0 (eH (by omega))
theorem qI{α B:Type}(p:α->Bool)(bad ok:B):∀(xs:List α)(i:Nat),cr (fun _ x(_:Unit)=>if p x then .inr bad else .inl ()) (fun _=>ok) i xs ()=if xs.any p then bad else ok
 |[],i=>rfl
 | x :: xs, i => by
   simp only[cr,List.any_cons];by_cases h:p x=true
   ·simp[h]
   ·simp only[Bool.not_eq_true] at h;simp[h,qI p bad ok xs (i+1)]
theorem aW{α:Type}(xs:List α)(i:Nat):bR xs (i:Int)=xs[i]?:=by simp[bR]
theorem mc{α B:Type}{f:Int->Option (Int⊕B)}(xs:List α)(p:α->Bool)(bad ok:B)(h1:∀(i:Nat) x,xs[i]?=some x->f i=some (if p x then .inr bad else .inl ((i+1:Nat):Int)))
 (h2:f xs.length=some (.inr ok)) (hl:xs.length<18446744073709551615):bg f N0 0=some (if xs.any p then bad else ok):=by
 have:=dH (f:=f) xs (fun i(_:Unit)=>(i:Int)) (fun _ x _=>if p x then .inr bad else .inl ()) (fun _=>ok) (fun _ _=>True)
  (fun i a x hx _=>by
   cases h:p x
   ·exact .inl ⟨(),by simp,trivial,by rw[h1 i x hx,h];simp⟩
   ·exact .inr ⟨bad,by simp,by rw[h1 i x hx,h];simp⟩) (fun a _=>h2) () trivial hl
 rw[qI] at this;exact this
theorem ml{α β:Type}{f:Int×List β->Option ((Int×List β)⊕List β)}(xs:List α)(c:α->β)(l0:List β)(hl0:l0.length=xs.length)
 (h1:∀(i:Nat)(l:List β) x y,xs[i]?=some x->l[i]?=some y->l.length=xs.length->f (i,l)=some (.inl (((i+1:Nat):Int),l.set i (c x))))
 (h2:∀l,f (xs.length,l)=some (.inr l)) (hl:xs.length<18446744073709551615):bg f N0 (0,l0)=some (xs.map c):=by
 have key:∀(ys:List α)(i:Nat)(l:List β)(n:Nat),xs.drop i=ys->i<=xs.length->l.length=xs.length->l.take i=(xs.take i).map c->ys.length<n->bg f n ((i:Int),l)=some (xs.map c):=by
  intro ys;induction ys with
  | nil =>
    intro i l n hd hi hll hI hn;have:i=xs.length:=by
     have:=congrArg List.length hd;simp at this;omega
    subst this;rw[List.take_of_length_le (by omega),List.take_of_length_le (by omega)] at hI;cases n with
    |zero=>simp at hn
    |succ n=>simp[bg,h2,hI]
  | cons y ys ih =>
    intro i l n hd hi hll hI hn;have hx:xs[i]?=some y:=by
     have:=congrArg (·[0]?) hd;simpa using this
    have hlt:i<xs.length:=(List.getElem?_eq_some_iff.1 hx).1;have hd':xs.drop (i+1)=ys:=by
     have:=congrArg (List.drop 1) hd;simpa[List.drop_drop,Nat.add_comm] using this
    cases n with
    |zero=>simp at hn
    | succ n =>
      simp only[List.length_cons] at hn;simp only[bg,h1 i l y l[i] hx (List.getElem?_eq_getElem (by omega)) hll];refine ih (i+1) _ n hd' (by omega) (by simpa using hll) ?_ (by omega);have e1:xs.take (i+1)=xs.take i++[y]:=by
       rw[List.take_add_one,hx];rfl
      rw[e1,List.map_append,<-hI,List.take_add_one,List.take_set_of_le (by omega),List.getElem?_set_self (by omega)];rfl
 exact key xs 0 l0 N0 (by simp) (by omega) hl0 (by simp) (eH (by omega))
theorem bD{p:Prop}[Decidable p](h:p):grd p=some ():=by simp[grd,h]
theorem gB{α:Type}(c:Bool)(a b:α):cond c a b=if c=true then a else b:=by cases c<;>rfl
end Vs

namespace Vs
open Go
theorem HA{α:Type}(sz:α->Nat):∀{xs:List α}{i:Nat}{x:α},xs[i]?=some x->sz x<=(xs.map sz).sum
 |y::ys,0,x,h=>by simp at h;subst h;simp
 | y :: ys, i + 1, x, h => by
   have:=HA sz (xs:=ys) (i:=i) (x:=x) (by simpa using h);simp;omega
 |[],i,x,h=>by simp at h
theorem KP{α:Type}{f:Int×Int->Option ((Int×Int)⊕(Int⊕Int))}(xs:List α)(sz:α->Nat)
 (h1:∀(i:Nat) x(l:Int),xs[i]?=some x->0<=l->l<=1048576->f (l,(i:Int))=some (if l-sz x<0 then .inr (.inr (-1)) else .inl (l-sz x,((i+1:Nat):Int))))
 (h2:∀l,f (l,(xs.length:Int))=some (.inr (.inl l))) (l:Int) (h0:0<=l) (hl:l<=1048576) (hn:xs.length<18446744073709551615):
 bg f N0 (l,0)=some (if l-((xs.map sz).sum:Nat)<0 then .inr (-1) else .inl (l-((xs.map sz).sum:Nat))):=by
 have:=dH (f:=f) xs (fun i(a:Int)=>(a,(i:Int))) (fun _ x a=>if a-sz x<0 then .inr (.inr (-1)) else .inl (a-sz x)) (fun a=>.inl a) (fun _ a=>0<=a/\a<=1048576)
  (fun i a x hx hI=>by
   rw[h1 i x a hx hI.1 hI.2];by_cases h:a-sz x<0
   ·exact .inr ⟨_,by rw[if_pos h],by rw[if_pos h]⟩
   ·exact .inl ⟨a-sz x,by rw[if_neg h],⟨by omega,by omega⟩,by rw[if_neg h]⟩) (fun a _=>h2 a) l ⟨h0,hl⟩ hn
 have e:(((0:Nat)):Int)=0:=rfl;simp only[e] at this;rw[this];have gen:∀(ys:List α)(i:Nat)(a:Int),0<=a->cr (fun _ x(a:Int)=>if a-sz x<0 then Sum.inr (Sum.inr (-1)) else .inl (a-sz x)) (fun(a:Int)=>(Sum.inl a:Int⊕Int)) i ys a=
  if a-((ys.map sz).sum:Nat)<0 then .inr (-1) else .inl (a-((ys.map sz).sum:Nat)):=by
  intro ys;induction ys with
  |nil=>intro i a ha;simp[cr];omega
  | cons y ys ih =>
    intro i a ha;simp only[cr,List.map_cons,List.sum_cons];by_cases h:a-sz y<0
    ·rw[if_pos h,if_pos (by omega)]
    ·rw[if_neg h];simp only;rw[ih (i+1) (a-sz y) (by omega)];have:a-(sz y:Int)-((ys.map sz).sum:Nat)=a-((sz y+(ys.map sz).sum:Nat):Int):=by omega
     rw[this]
 rw[gen xs 0 l h0]
theorem nI{α:Type}{f:Int->Option (Int⊕(Unit⊕Bool))}(xs:List α)(h1:∀(i:Nat) x,xs[i]?=some x->f (i:Int)=some (.inl ((i+1:Nat):Int)))(h2:f (xs.length:Int)=some (.inr (.inl ())))
 (hn:xs.length<18446744073709551615):bg f N0 0=some (.inl ()):=by
 have:=mc (f:=f) xs (fun _=>false) (.inl ()) (.inl ()) (fun i x hx=>by rw[h1 i x hx];simp) h2 hn;simpa using this
def cl{α:Type}(mk:Int->α->Int×α):Int->List α->Int×List α
 |k,[]=>(k,[])
 |k,x::xs=>((cl mk (mk k x).1 xs).1,(mk k x).2::(cl mk (mk k x).1 xs).2)
theorem dq{α:Type}(mk:Int->α->Int×α):∀(xs:List α)(k:Int),(cl mk k xs).2.length=xs.length
 |[],k=>rfl
 |x::xs,k=>by simp[cl,dq mk xs]
theorem dr{α:Type}(mk:Int->α->Int×α)(w:α->Nat)(hw:∀k x,(mk k x).1=k+w x):∀(xs:List α)(k:Int),(cl mk k xs).1=k+((xs.map w).sum:Nat)
 |[],k=>by simp[cl]
 |x::xs,k=>by simp only[cl,dr mk w hw xs,hw,List.map_cons,List.sum_cons];omega
theorem nW{α:Type}(mk:Int->α->Int×α)(w:α->Nat)(hw:∀k x,(mk k x).1=k+w x):∀(xs:List α)(k:Int)(i:Nat)(x:α),xs[i]?=some x->(cl mk k xs).2[i]?=some (mk (k+(((xs.take i).map w).sum:Nat)) x).2
 |y::ys,k,0,x,h=>by simp at h;subst h;simp[cl]
 | y :: ys, k, i + 1, x, h => by
   have:=nW mk w hw ys (mk k y).1 i x (by simpa using h);rw[hw] at this;simp only[cl,List.getElem?_cons_succ,List.take_succ_cons,List.map_cons,List.sum_cons,hw];rw[this];have e:k+(w y:Int)+(((ys.take i).map w).sum:Nat)=k+((w y+((ys.take i).map w).sum:Nat):Int):=by omega
   rw[e]
 |[],k,i,x,h=>by simp at h
theorem jx{α:Type}(w:α->Nat):∀(xs:List α)(i:Nat),((xs.take i).map w).sum<=(xs.map w).sum
 |[],i=>by simp
 |x::xs,0=>by simp
 | x :: xs, i + 1 => by
   have:=jx w xs i;simp only[List.take_succ_cons,List.map_cons,List.sum_cons];exact Nat.add_le_add_left this _
theorem gT{α:Type}(w:α->Nat):∀(xs:List α)(i:Nat)(x:α),xs[i]?=some x->((xs.take (i+1)).map w).sum=((xs.take i).map w).sum+w x
 |y::ys,0,x,h=>by simp at h;subst h;simp
 | y :: ys, i + 1, x, h => by
   have:=gT w ys i x (by simpa using h);simp only[List.take_succ_cons,List.map_cons,List.sum_cons] at this⊢;omega
 |[],i,x,h=>by simp at h
theorem jT{α:Type}{f:Int×Int×List α->Option ((Int×Int×List α)⊕(Int×List α))}(xs:List α)(mk:Int->α->Int×α)(w:α->Nat)(hw:∀k x,(mk k x).1=k+w x)(K:Int)
 (h1:∀(i:Nat) x k(l:List α),l.length=xs.length->i<xs.length->xs[i]?=some x->l[i]?=some x->0<=k->k+w x<=K->f (k,(i:Int),l)=some (.inl ((mk k x).1,((i+1:Nat):Int),l.set i (mk k x).2)))
 (h2:∀k(l:List α),l.length=xs.length->f (k,(xs.length:Int),l)=some (.inr (k,l))) (k0:Int) (hk:0<=k0) (hK:k0+((xs.map w).sum:Nat)<=K) (hn:xs.length<18446744073709551615):
 bg f N0 (k0,0,xs)=some (cl mk k0 xs):=by
 obtain⟨b,hb,h3⟩:=cz (f:=f) (fun s=>∃i:Nat,s.2.1=i/\i<=xs.length/\s.1=k0+(((xs.take i).map w).sum:Nat)/\s.2.2=(cl mk k0 xs).2.take i++xs.drop i) (fun s=>xs.length-s.2.1.toNat) (fun b=>b=cl mk k0 xs) (fun s hI=>by
  obtain⟨k,i',l⟩:=s;obtain⟨i,e1,e2,e3,e4⟩:=hI;simp only at e1 e3 e4;subst e1;subst e3;have hll:l.length=xs.length:=by rw[e4];simp[dq];omega
  by_cases h:i<xs.length
  ·left;have hx:xs[i]?=some xs[i]:=List.getElem?_eq_getElem h;have hm:=nW mk w hw xs k0 i xs[i] hx;have hle:=jx w xs (i+1);have hs:=gT w xs i xs[i] hx;have hli:l[i]?=some xs[i]:=by
    rw[e4,List.getElem?_append_right (by simp[dq];omega)];simp[dq,Nat.min_eq_left (Nat.le_of_lt h),h]
   refine⟨_,h1 i xs[i] _ l hll h hx hli (by omega) (by omega),⟨i+1,rfl,by omega,?_,?_⟩,?_⟩
   ·simp only[hw,hs];omega
   ·simp only;rw[e4,List.set_append_right _ _ (by simp[dq];omega)];have hml:i<(cl mk k0 xs).2.length:=by rw[dq];exact h
    have e5:i-((cl mk k0 xs).2.take i).length=0:=by simp[dq];omega
    rw[e5,List.drop_eq_getElem_cons h,List.set_cons_zero,List.take_add_one,hm];simp
   ·simp only[Int.toNat_natCast];omega
  ·right;have:i=xs.length:=by omega
   subst this;refine⟨_,h2 _ l hll,?_⟩;have e5:(cl mk k0 xs).2.take xs.length=(cl mk k0 xs).2:=List.take_of_length_le (by rw[dq];omega);have e6:xs.take xs.length=xs:=List.take_of_length_le (Nat.le_refl _);rw[e4,e5,List.drop_eq_nil_of_le (Nat.le_refl _),List.append_nil,e6];exact Prod.ext (dr mk w hw xs k0).symm rfl) N0 (k0,0,xs) ⟨0,rfl,by omega,by simp,by simp⟩ (eH (by simp;omega))
 rw[hb,h3]
theorem BZ{α:Type}{f:Int×Int->Option ((Int×Int)⊕(Int⊕Int))}(xs:List α)(mk:Int->α->Int×α)(w:α->Nat)(hw:∀k x,(mk k x).1=k+w x)(K k0:Int)
 (h1:∀(i:Nat) x k,xs[i]?=some x->(cl mk k0 xs).2[i]?=some (mk k x).2->0<=k->k+w x<=K->f (k,(i:Int))=some (.inl ((mk k x).1,((i+1:Nat):Int))))
 (h2:∀k,f (k,(xs.length:Int))=some (.inr (.inl k))) (hk:0<=k0) (hK:k0+((xs.map w).sum:Nat)<=K) (hn:xs.length<18446744073709551615):
 bg f N0 (k0,0)=some (.inl (cl mk k0 xs).1):=by
 obtain⟨b,hb,h3⟩:=cz (f:=f) (fun s=>∃i:Nat,s.2=i/\i<=xs.length/\s.1=k0+(((xs.take i).map w).sum:Nat)) (fun s=>xs.length-s.2.toNat) (fun b=>b=.inl (cl mk k0 xs).1) (fun s hI=>by
  obtain⟨k,i'⟩:=s;obtain⟨i,e1,e2,e3⟩:=hI;simp only at e1 e3;subst e1;subst e3;by_cases h:i<xs.length
  ·left;have hx:xs[i]?=some xs[i]:=List.getElem?_eq_getElem h;have hm:=nW mk w hw xs k0 i xs[i] hx;have hle:=jx w xs (i+1);have hs:=gT w xs i xs[i] hx;refine⟨_,h1 i xs[i] _ hx hm (by omega) (by omega),⟨i+1,rfl,by omega,?_⟩,?_⟩
   ·simp only[hw,hs];omega
   ·simp only[Int.toNat_natCast];omega
  ·right;have:i=xs.length:=by omega
   subst this;refine⟨_,h2 _,?_⟩;rw[dr mk w hw,List.take_of_length_le (Nat.le_refl _)]) N0 (k0,0) ⟨0,rfl,by omega,by simp⟩ (eH (by simp;omega))
 rw[hb,h3]
end Vs
namespace Vs
open Go
def eV{α:Type}(p:Nat->α->Bool)(xs:List α):Bool:=xs.zipIdx.any fun q=>p q.2 q.1
theorem yw{α:Type}{xs:List α}{i:Nat}{x:α}:(x,i)∈xs.zipIdx↔xs[i]?=some x:=List.mem_zipIdx_iff_getElem?
theorem gr{α:Type}{p:Nat->α->Bool}{xs:List α}:eV p xs=true↔∃i x,xs[i]?=some x/\p i x=true:=by
 unfold eV;rw[List.any_eq_true];constructor
 ·rintro⟨⟨x,i⟩,h1,h2⟩;exact⟨i,x,yw.1 h1,h2⟩
 ·rintro⟨i,x,h1,h2⟩;exact⟨(x,i),yw.2 h1,h2⟩
theorem dz{α:Type}{p:Nat->α->Bool}{xs:List α}:eV p xs=false↔∀i x,xs[i]?=some x->p i x=false:=by
 rw[<-Bool.not_eq_true,gr];constructor
 ·intro h i x hx;cases e:p i x with
  |false=>rfl
  |true=>exact(h ⟨i,x,hx,e⟩).elim
 ·rintro h ⟨i,x,hx,e⟩;rw[h i x hx] at e;cases e
theorem EO{p:Nat->Prop}(n:Nat)(h:p n):∃m,p m/\∀k,k<m->¬p k:=by
 induction n using Nat.strongRecOn with
 | _ n ih =>
   by_cases e:∃k,k<n/\p k
   ·obtain⟨k,hk,hp⟩:=e;exact ih k hk hp
   ·exact⟨n,h,fun k hk hp=>e ⟨k,hk,hp⟩⟩
theorem xt{α:Type}{p:Nat->α->Bool}{xs:List α}(h:eV p xs=true):∃i x,xs[i]?=some x/\p i x=true/\∀j y,j<i->xs[j]?=some y->p j y=false:=by
 obtain⟨i,x,h1,h2⟩:=gr.1 h;obtain⟨m,⟨y,hy,hp⟩,hm⟩:=EO (p:=fun i=>∃x,xs[i]?=some x/\p i x=true) i ⟨x,h1,h2⟩;refine⟨m,y,hy,hp,fun j z hj hz=>?_⟩;cases e:p j z with
 |false=>rfl
 |true=>exact(hm j hj ⟨z,hz,e⟩).elim
theorem vl{α:Type}{p q:Nat->α->Bool}{xs:List α}(h:∀i x,xs[i]?=some x->(∀j y,j<i->xs[j]?=some y->p j y=false)->p i x=q i x):eV p xs=eV q xs:=by
 cases e:eV p xs with
 | true =>
   obtain⟨i,x,hx,hp,hf⟩:=xt e;symm;rw[gr];exact⟨i,x,hx,by rw[<-h i x hx hf];exact hp⟩
 | false =>
   have:=dz.1 e;symm;rw[dz];intro i x hx;rw[<-h i x hx fun j y _ hy=>this j y hy];exact this i x hx
theorem pU{α:Type}(p:α->Bool)(xs:List α):eV (fun _ x=>p x) xs=xs.any p:=by
 cases e:xs.any p with
 | true =>
   rw[gr];obtain⟨x,hx,hp⟩:=List.any_eq_true.1 e;obtain⟨i,hi,rfl⟩:=List.getElem_of_mem hx;exact⟨i,xs[i],List.getElem?_eq_getElem hi,hp⟩
 | false =>
   rw[dz];intro i x hx;rw[List.any_eq_false] at e;have:=e x (List.mem_of_getElem? hx);simpa using this
theorem eG{α B:Type}{f:Int->Option (Int⊕B)}(xs:List α)(p:Nat->α->Bool)(bad ok:B)
 (h1:∀(i:Nat) x,xs[i]?=some x->(∀j y,j<i->xs[j]?=some y->p j y=false)->f (i:Int)=some (if p i x then .inr bad else .inl ((i+1:Nat):Int)))
 (h2:f (xs.length:Int)=some (.inr ok)) (hl:xs.length<18446744073709551615):bg f N0 0=some (if eV p xs then bad else ok):=by
 have:=dH (f:=f) xs (fun i(_:Unit)=>(i:Int)) (fun i x _=>if p i x then .inr bad else .inl ()) (fun _=>ok) (fun i _=>∀j y,j<i->xs[j]?=some y->p j y=false)
  (fun i a x hx hI=>by
   cases h:p i x
   ·refine .inl ⟨(),by simp,fun j y hj hy=>?_,by rw[h1 i x hx hI,h];simp⟩;rcases Nat.lt_or_ge j i with h2|h2
    ·exact hI j y h2 hy
    ·have:j=i:=by omega
     subst this;rw[hx] at hy;cases hy;exact h
   ·exact .inr ⟨bad,by simp,by rw[h1 i x hx hI,h];simp⟩) (fun a _=>h2) () (fun j y hj=>by omega) hl
 have e:(((0:Nat)):Int)=0:=rfl;simp only[e] at this;rw[this];have gen:∀(ys:List α)(i:Nat),cr (fun i x(_:Unit)=>if p i x then .inr bad else .inl ()) (fun _=>ok) i ys ()=if(ys.zipIdx i).any (fun q=>p q.2 q.1) then bad else ok:=by
  intro ys;induction ys with
  |nil=>intro i;rfl
  | cons y ys ih =>
    intro i;simp only[cr,List.zipIdx_cons,List.any_cons];by_cases h:p i y=true
    ·simp[h]
    ·simp only[Bool.not_eq_true] at h;simp only[h,Bool.false_eq_true,if_false,Bool.false_or];exact ih (i+1)
 rw[gen];rfl
def ct{α:Type}(p:Nat->α->Bool)(xs:List α):Option (Nat×α):=(xs.zipIdx.find? fun q=>p q.2 q.1).map fun q=>(q.2,q.1)
theorem cI{α B U:Type}{f:Int->Option (Int⊕(U⊕B))}(xs:List α)(p:Nat->α->Bool)(g:Nat->α->B)(u:U)
 (h1:∀(i:Nat) x,xs[i]?=some x->(∀j y,j<i->xs[j]?=some y->p j y=false)->f (i:Int)=some (if p i x then .inr (.inr (g i x)) else .inl ((i+1:Nat):Int)))
 (h2:f (xs.length:Int)=some (.inr (.inl u))) (hl:xs.length<18446744073709551615):bg f N0 0=some (match ct p xs with|some q=>.inr (g q.1 q.2)|none=>.inl u):=by
 have:=dH (f:=f) xs (fun i(_:Unit)=>(i:Int)) (fun i x _=>if p i x then .inr (.inr (g i x)) else .inl ()) (fun _=>.inl u) (fun i _=>∀j y,j<i->xs[j]?=some y->p j y=false)
  (fun i a x hx hI=>by
   cases h:p i x
   ·refine .inl ⟨(),by simp,fun j y hj hy=>?_,by rw[h1 i x hx hI,h];simp⟩;rcases Nat.lt_or_ge j i with h2|h2
    ·exact hI j y h2 hy
    ·have:j=i:=by omega
     subst this;rw[hx] at hy;cases hy;exact h
   ·exact .inr ⟨.inr (g i x),by simp,by rw[h1 i x hx hI,h];simp⟩) (fun a _=>h2) () (fun j y hj=>by omega) hl
 have e:(((0:Nat)):Int)=0:=rfl;simp only[e] at this;rw[this];have gen:∀(ys:List α)(i:Nat),cr (fun i x(_:Unit)=>if p i x then .inr (.inr (g i x)) else .inl ()) (fun _=>(.inl u:U⊕B)) i ys ()=
  match((ys.zipIdx i).find? fun q=>p q.2 q.1).map (fun q=>(q.2,q.1)) with|some q=>.inr (g q.1 q.2)|none=>.inl u:=by
  intro ys;induction ys with
  |nil=>intro i;rfl
  | cons y ys ih =>
    intro i;simp only[cr,List.zipIdx_cons,List.find?_cons];by_cases h:p i y=true
    ·simp[h]
    ·simp only[Bool.not_eq_true] at h;simp only[h,Bool.false_eq_true,if_false];exact ih (i+1)
 rw[gen];rfl
theorem cB{α:Type}{p:Nat->α->Bool}{xs:List α}{i:Nat}{x:α}:ct p xs=some (i,x)↔xs[i]?=some x/\p i x=true/\∀j y,j<i->xs[j]?=some y->p j y=false:=by
 have gen:∀(ys:List α)(k:Nat),((ys.zipIdx k).find? fun q=>p q.2 q.1).map (fun q=>(q.2,q.1))=some (i,x)↔k<=i/\ys[i-k]?=some x/\p i x=true/\∀j y,k<=j->j<i->ys[j-k]?=some y->p j y=false:=by
  intro ys;induction ys with
  |nil=>intro k;simp
  | cons y ys ih =>
    intro k;simp only[List.zipIdx_cons,List.find?_cons];cases h:p k y
    ·simp only[Bool.false_eq_true];rw[ih (k+1)];constructor
     ·rintro⟨h1,h2,h3,h4⟩;refine⟨by omega,?_,h3,fun j z hj hji hz=>?_⟩
      ·rw[show i-k=(i-(k+1))+1 by omega];simpa using h2
      ·rcases Nat.lt_or_ge k j with h5|h5
       ·exact h4 j z (by omega) hji (by rw[show j-k=(j-(k+1))+1 by omega] at hz;simpa using hz)
       ·have:j=k:=by omega
        subst this;simp at hz;subst hz;exact h
     ·rintro⟨h1,h2,h3,h4⟩;have hne:i≠k:=by
       rintro rfl;simp at h2;subst h2;rw[h] at h3;cases h3
      refine⟨by omega,?_,h3,fun j z hj hji hz=>h4 j z (by omega) hji ?_⟩
      ·rw[show i-k=(i-(k+1))+1 by omega] at h2;simpa using h2
      ·rw[show j-k=(j-(k+1))+1 by omega];simpa using hz
    ·simp only[Option.map_some,Option.some.injEq,Prod.mk.injEq];constructor
     ·rintro⟨rfl,rfl⟩;exact⟨Nat.le_refl _,by simp,h,fun j z hj hji=>by omega⟩
     ·rintro⟨h1,h2,h3,h4⟩;have:k=i:=by
       apply Decidable.byContradiction;intro hne;have:=h4 k y (Nat.le_refl _) (by omega) (by simp);rw[h] at this;cases this
      subst this;simp at h2;exact⟨rfl,h2⟩
 have:=gen xs 0;simp only[Nat.sub_zero,Nat.zero_le,true_and] at this;unfold ct;rw[this];exact⟨fun h=>⟨h.1,h.2.1,fun j y=>h.2.2 j y trivial⟩,fun h=>⟨h.1,h.2.1,fun j y _=>h.2.2 j y⟩⟩
theorem dK{α:Type}{p:Nat->α->Bool}{xs:List α}:ct p xs=none↔∀i x,xs[i]?=some x->p i x=false:=by
 unfold ct;rw[Option.map_eq_none_iff,List.find?_eq_none];constructor
 ·intro h i x hx;have:=h (x,i) (yw.2 hx);simpa using this
 ·rintro h ⟨x,i⟩ hx;have:=h i x (yw.1 hx);simp[this]
end Vs
namespace Vs
open Go
def gK{α A:Type}(g:Nat->α->A->A):Nat->List α->A->A
 |_,[],a=>a
 |i,x::xs,a=>gK g (i+1) xs (g i x a)
theorem kP{α A B S:Type}{f:S->Option (S⊕B)}(xs:List α)(st:Nat->A->S)(g:Nat->α->A->A)(fin:A->B)(I:Nat->A->Prop)
 (h1:∀i a x,xs[i]?=some x->I i a->I (i+1) (g i x a)/\f (st i a)=some (.inl (st (i+1) (g i x a))))
 (h2:∀a,I xs.length a->f (st xs.length a)=some (.inr (fin a))) (a0:A) (h0:I 0 a0) (hl:xs.length<18446744073709551615):
 bg f N0 (st 0 a0)=some (fin (gK g 0 xs a0)):=by
 rw[dH xs st (fun i x a=>.inl (g i x a)) fin I (fun i a x hx hI=>.inl ⟨g i x a,rfl,(h1 i a x hx hI).1,(h1 i a x hx hI).2⟩) h2 a0 h0 hl];have gen:∀(ys:List α)(i:Nat)(a:A),cr (fun i x a=>(.inl (g i x a):A⊕B)) fin i ys a=fin (gK g i ys a):=by
  intro ys;induction ys with
  |nil=>intro i a;rfl
  |cons y ys ih=>intro i a;exact ih (i+1) (g i y a)
 rw[gen]
end Vs

namespace Vs
open Go Go.RowKit
variable{H:World->Prop}{α:Type}{E:Fl->α->AV}{k:Nat}
theorem Sn(H:World->Prop)(P:Program):(OkT H P).m=JE H P:=rfl
theorem rH(H:World->Prop){P:Program}{f:Nat}{args:List AV}{res:AV}(h:Ok P f args res):OkR H P f args res:=
 ⟨h.1,fun w S vs h1 h2 h3 _=>h.2 w S vs h1 h2 h3 fun _ _=>trivial⟩
theorem Pv(w:World)(c:Nat)(hc:c<w.heap.size):∃W:World,W.heap[c]?≠w.heap[c]?/\∀b,b≠c->W.heap[b]?=w.heap[b]?:=by
 have key:∀ob:Obj,w.heap[c]?≠some ob->∃W:World,W.heap[c]?≠w.heap[c]?/\∀b,b≠c->W.heap[b]?=w.heap[b]?:=fun ob h=>
  ⟨{w with heap:=w.heap.setIfInBounds c ob},by
   dsimp only;rw[Array.getElem?_setIfInBounds_self_of_lt hc];exact fun e=>h e.symm,fun b hb=>by
   dsimp only;rw[Array.getElem?_setIfInBounds_ne (fun e=>hb e.symm)]⟩
 by_cases h:w.heap[c]?=some (.cells #[] 0 (0,0))
 ·exact key (.cells #[undef] 0 (0,0)) (by rw[h];simp)
 ·exact key _ h
mutual
def AV.shs:AV->AV
 | .sc v=>.sc v
 | .lst _ n xs=>.lst .s n (mA xs)
 | .agg cs=>.agg (mA cs)
 |_=>.top
def mA:List AV->List AV
 |[]=>[]
 |c::cs=>c.shs::mA cs
end
theorem nK:∀{xs:List AV}{j:Nat}{x:AV},(mA xs)[j]?=some x->∃y,xs[j]?=some y/\x=y.shs
 |[],j,x,h=>by simp[mA] at h
 |c::cs,0,x,h=>by simp[mA] at h;exact⟨c,rfl,h.symm⟩
 |c::cs,j+1,x,h=>by simp[mA] at h;simpa using nK h
theorem pG:∀{xs:List AV},(mA xs).length=xs.length
 |[]=>rfl
 |c::cs=>by simp[mA,pG (xs:=cs)]
theorem sQ{β:Type}(f g:β->AV)(h:∀x,(f x).shs=g x):∀xs:List β,mA (xs.map f)=xs.map g
 |[]=>rfl
 |x::xs=>by simp[mA,h,sQ f g h xs]
theorem aQ.shs{w:World}{S:Nat->Prop}{B:Nat}{v:Value}{x:AV}{fp:List Nat}(h:aQ w S B v x fp)(B':Nat):aQ w S B' v x.shs []:=by
 induction h with
 |top v=>exact .top v
 |sc v h=>exact .sc v h
 |nil f n ad cap h=>exact .nil .s n ad cap ⟨h.1,fun e=>by cases e⟩
 | lst f n b o len cap xs vs fps hl hc hf hu hv hx ih =>
   have:=aQ.lst (w:=w) (S:=S) (B:=B') .s n b o len cap (mA xs) vs (fun _=>[]) (by rw[pG];exact hl) hc hf.S (fun e=>by cases e)
    (fun j x hj=>by obtain⟨y,hy,_⟩:=nK hj;exact hv j y hy) (fun j x hj=>by obtain⟨y,hy,rfl⟩:=nK hj;exact ih j y hy)
   simpa[bi _ _ fun _ _=>rfl,AV.shs] using this
 | agg vs cs fps h h1 hx ih =>
   have:=aQ.agg (w:=w) (S:=S) (B:=B') vs (mA cs) (fun _=>[]) (by rw[pG];exact h) h1 (fun j x hj=>by obtain⟨y,hy,rfl⟩:=nK hj;exact ih j y hy);simpa[bi _ _ fun _ _=>rfl,AV.shs] using this
 |tup vs cs fps h hx ih=>exact .top _
 |fn f vs cs fps h hx ih=>exact .top _
 |ub b=>exact .top _
 |bp f b o off v x hb hv hx ih=>exact .top _
end Vs









namespace Vs
open Go Go.RowKit
def Vw(H:World->Prop)(x y:AV):Prop:=∀(w:World)(S:Nat->Prop)(v:Value),(∀b,S b->b<w.heap.size)->(∀W:World,(∀b,S b->W.heap[b]?=w.heap[b]?)->H W)->aQ w S w.heap.size v x []->aQ w S w.heap.size v y []
def VwL(H:World->Prop):List AV->List AV->Prop
 |[],[]=>True
 |x::xs,y::ys=>Vw H x y/\VwL H xs ys
 |_,_=>False
theorem VwL.len{H:World->Prop}:∀{xs ys:List AV},VwL H xs ys->xs.length=ys.length
 |[],[],_=>rfl
 |_::_,_::_,h=>by simp[h.2.len]
 |[],_::_,h=>h.elim
 |_::_,[],h=>h.elim
theorem VwL.look{H:World->Prop}:∀{xs ys:List AV}{j:Nat}{y:AV},VwL H xs ys->ys[j]?=some y->∃x,xs[j]?=some x/\Vw H x y
 |x::xs,y::ys,0,z,h,e=>by simp at e;subst e;exact⟨x,rfl,h.1⟩
 |x::xs,y::ys,j+1,z,h,e=>by simpa using h.2.look (j:=j) (by simpa using e)
 |[],[],j,z,_,e=>by simp at e
theorem nH{H:World->Prop}(x:AV):Vw H x x:=fun _ _ _ _ _ h=>h
theorem rJ{H:World->Prop}{cs ds:List AV}(h:VwL H cs ds):Vw H (.agg cs) (.agg ds):=fun w S v hS hH hr=>by
 obtain⟨vs,rfl,h2,h3,h4⟩:=hr.agg_inv;have:=aQ.agg (w:=w) (S:=S) (B:=w.heap.size) vs ds (fun _=>[]) (by rw[h2,h.len]) h3 (fun j x hj=>by
  obtain⟨y,hy,hv⟩:=h.look hj;exact hv w S _ hS hH (h4 j y hy))
 rwa[bi _ _ (fun _ _=>rfl)] at this
theorem lf{H:World->Prop}{P:Program}{f:Nat}{args args':List AV}{res:AV}(h:Ok P f args' res)(hv:VwL H args args'):OkR H P f args res:=
 ⟨h.1,fun w S vs h1 h2 h3 hH=>h.2 w S vs h1 (by rw[h2,hv.len]) (fun j y hj=>by
  obtain⟨x,hx,hv⟩:=hv.look hj;exact hv w S _ h1 hH (h3 j x hx)) fun _ _=>trivial⟩
structure Raw(H:World->Prop) where
 l:List Int
 v:Value
 one:v.oneCell'=true
 rep:∀(W:World)(S:Nat->Prop)(B:Nat),(∀W':World,(∀b,S b->W'.heap[b]?=W.heap[b]?)->H W')->aQ W S B v (.lst .s 1 (l.map AV.i)) []
variable{H:World->Prop}
def Raw.none:Raw H:=⟨[],.slice .none 0 0,rfl,fun _ _ _ _=>.nil0 .s 1⟩
theorem sF(t:Raw H):Vw H (.sc t.v) (.lst .o 1 (t.l.map AV.i)):=fun w S v hS hH hr=>by
 have e:v=t.v:=by cases hr;rfl
 subst e;have:=(t.rep w S w.heap.size hH).nrm fun b hb=>⟨hb,hS b hb⟩;have e:∀l:List Int,fQ (l.map AV.i)=l.map AV.i:=fun l=>by induction l<;>simp_all [fQ,AV.nrm]
 simpa[AV.nrm,e] using this
abbrev El(α:Type):=Int×α×List Int
def elU(x:El (List Int)):AV:=.agg (.i x.1::.lst .u 1 (x.2.1.map AV.i)::x.2.2.map AV.i)
def elR(x:El (Raw H)):AV:=.agg (.i x.1::.sc x.2.1.v::x.2.2.map AV.i)
inductive Sb(ts:List (Raw H)):AV->AV->List Nat->Prop
 |sc (v:Value):Sb ts (.sc v) (.sc v) []
 |raw (i:Nat) (t:Raw H) (h:ts[i]?=some t):Sb ts (.sc t.v) (.lst .u 1 (t.l.map AV.i)) [i]
 |nil:Sb ts (.sc (.slice .none 0 0)) (.lst .u 1 []) []
 |agg (cs ds:List AV) (is:Nat->List Nat) (hl:cs.length=ds.length) (h:∀j x y,cs[j]?=some x->ds[j]?=some y->Sb ts x y (is j)):Sb ts (.agg cs) (.agg ds) (bP cs.length is)
 |tup (cs ds:List AV) (is:Nat->List Nat) (hl:cs.length=ds.length) (h:∀j x y,cs[j]?=some x->ds[j]?=some y->Sb ts x y (is j)):Sb ts (.tup cs) (.tup ds) (bP cs.length is)
 |lst (f:Fl) (n:Nat) (cs ds:List AV) (is:Nat->List Nat) (hl:cs.length=ds.length) (h:∀j x y,cs[j]?=some x->ds[j]?=some y->Sb ts x y (is j)):Sb ts (.lst f n cs) (.lst f n ds) (bP cs.length is)
theorem Sb.rep{ts:List (Raw H)}{w:World}{S:Nat->Prop}{B:Nat}{g:Nat->List Nat}(hg:∀i t,ts[i]?=some t->aQ w S B t.v (.lst .u 1 (t.l.map AV.i)) (g i)/\(g i).Nodup)(hgd:∀i j,i≠j->∀b∈g i,b∉g j)
 {x y:AV} {is:List Nat} (h:Sb ts x y is):is.Nodup->∀{v:Value}{fp:List Nat},aQ w S B v x fp->fp.Nodup->(∀i,∀b∈fp,b∉g i)->
 ∃fp',aQ w S B v y fp'/\fp'.Nodup/\∀b∈fp',b∈fp\/∃i∈is,b∈g i:=by
 have parts:∀{cs ds:List AV}{is:Nat->List Nat}{vs:Nat->Value}{fps:Nat->List Nat},cs.length=ds.length->(bP cs.length is).Nodup->(bP cs.length fps).Nodup->(∀i,∀b∈bP cs.length fps,b∉g i)->
  (∀j x y,cs[j]?=some x->ds[j]?=some y->(is j).Nodup->∀{v:Value}{fp:List Nat},aQ w S B v x fp->fp.Nodup->(∀i,∀b∈fp,b∉g i)->∃fp',aQ w S B v y fp'/\fp'.Nodup/\∀b∈fp',b∈fp\/∃i∈is j,b∈g i)->
  (∀j x,cs[j]?=some x->aQ w S B (vs j) x (fps j))->
  ∃fps':Nat->List Nat,(∀j y,ds[j]?=some y->aQ w S B (vs j) y (fps' j))/\(bP ds.length fps').Nodup/\∀b∈bP ds.length fps',b∈bP cs.length fps\/∃i∈bP cs.length is,b∈g i:=by
  intro cs ds is vs fps hl hi hf hfg ih hr;obtain⟨i1,i2⟩:=bI hi;obtain⟨f1,f2⟩:=bI hf;have:=kO (m:=ds.length) (p:=fun j fp'=>∀y,ds[j]?=some y->aQ w S B (vs j) y fp'/\fp'.Nodup/\∀b∈fp',b∈fps j\/∃i∈is j,b∈g i) (fun j hj=>by
   have hj':j<cs.length:=by omega
   obtain⟨fp',h1,h2,h3⟩:=ih j cs[j] ds[j] (by simp[hj']) (by simp[hj]) (i1 j hj') (hr j cs[j] (by simp[hj'])) (f1 j hj') (fun i b hb=>hfg i b (aU.2 ⟨j,hj',hb⟩));exact⟨fp',fun y hy=>by rw[List.getElem?_eq_getElem hj] at hy;cases hy;exact⟨h1,h2,h3⟩⟩)
  obtain⟨fps',hf'⟩:=this;have at':∀j,j<ds.length->(fps' j).Nodup/\∀b∈fps' j,b∈fps j\/∃i∈is j,b∈g i:=fun j hj=>(hf' j hj ds[j] (by simp[hj])).2;refine⟨fps',fun j y hy=>(hf' j (List.getElem?_eq_some_iff.1 hy).1 y hy).1,db (fun j hj=>(at' j hj).1) (fun j k hj hk hjk b hbj hbk=>?_),fun b hb=>?_⟩
  ·have hj':j<cs.length:=by omega
   have hk':k<cs.length:=by omega
   rcases(at' j hj).2 b hbj with a1|⟨p,p1,p2⟩<;>rcases(at' k hk).2 b hbk with a2|⟨q,q1,q2⟩
   ·exact f2 j k hj' hk' hjk b a1 a2
   ·exact hfg q b (aU.2 ⟨j,hj',a1⟩) q2
   ·exact hfg p b (aU.2 ⟨k,hk',a2⟩) p2
   ·by_cases e:p=q
    ·subst e;exact i2 j k hj' hk' hjk p p1 q1
    ·exact hgd p q e b p2 q2
  ·obtain⟨j,hj,hbj⟩:=aU.1 hb;rcases(at' j hj).2 b hbj with a1|⟨p,p1,p2⟩
   ·exact .inl (aU.2 ⟨j,by omega,a1⟩)
   ·exact .inr ⟨p,aU.2 ⟨j,by omega,p1⟩,p2⟩
 induction h with
 |sc u=>intro _ v fp hr hf _;exact⟨fp,hr,hf,fun b hb=>.inl hb⟩
 | raw i t h =>
   intro _ v fp hr hf _;have:v=t.v:=by cases hr;rfl
   subst this;exact⟨g i,(hg i t h).1,(hg i t h).2,fun b hb=>.inr ⟨i,by simp,hb⟩⟩
 | nil =>
   intro _ v fp hr hf _;have:v=.slice .none 0 0:=by cases hr;rfl
   subst this;exact⟨[],.nil0 .u 1,List.nodup_nil,fun b hb=>by cases hb⟩
 | agg cs ds is hl _ ih =>
   intro hi v fp hr hf hfg;cases hr with
   | agg vs _ fps hs h1 hx =>
     obtain⟨fps',e1,e2,e3⟩:=parts hl hi hf hfg ih hx;exact⟨_,.agg vs ds fps' (by omega) h1 e1,e2,e3⟩
 | tup cs ds is hl _ ih =>
   intro hi v fp hr hf hfg;cases hr with
   | tup vs _ fps hs hx =>
     obtain⟨fps',e1,e2,e3⟩:=parts hl hi hf hfg ih hx;exact⟨_,.tup vs ds fps' (by omega) e1,e2,e3⟩
 | lst f n cs ds is hl _ ih =>
   intro hi v fp hr hf hfg;cases hr with
   | nil _ _ ad cap h =>
     have:ds=[]:=List.length_eq_zero_iff.1 (by simpa using hl.symm);subst this;exact⟨[],.nil f n ad cap h,List.nodup_nil,fun b hb=>by cases hb⟩
   | lst _ _ b o len cap _ vs fps hl2 hc hfo hu hv hx =>
     subst hl2;obtain⟨n1,n2,n3⟩:=List.nodup_append.1 hf;obtain⟨fps',e1,e2,e3⟩:=parts hl hi n2 (fun i b hb=>hfg i b (List.mem_append_right _ hb)) ih hx;have key:(if f=.u then [b] else [])++bP ds.length fps'=(if f=.u then [b] else [])++bP ds.length fps':=rfl;refine⟨_,aQ.lst f n b o cs.length cap ds vs fps' hl.symm hc hfo hu (fun j y hj=>?_) e1,?_,?_⟩
     ·have hj':j<cs.length:=by rw[hl];exact(List.getElem?_eq_some_iff.1 hj).1
      exact hv j cs[j] (by simp[hj'])
     ·rw[hl];refine List.nodup_append.2 ⟨n1,e2,fun a ha c hc' e=>?_⟩;subst e;rcases e3 a hc' with q|⟨i,_,q⟩
      ·exact n3 a ha a q rfl
      ·exact hfg i a (List.mem_append_left _ ha) q
     ·rw[hl];intro c hc';rcases List.mem_append.1 hc' with q|q
      ·exact .inl (List.mem_append_left _ q)
      ·rcases e3 c q with q|q
       ·exact .inl (List.mem_append_right _ (by rw[hl] at q;exact q))
       ·exact .inr (by rw[hl] at q;exact q)
def jd:AV->AV
 | .lst .u _ []=>.sc (.slice none 0 0)
 |x=>x
def CvR(o o':Option Row):Prop:=o'=o\/∃cs,o=some (.var (.agg cs))/\o'=some (.var (.agg (cs.map jd)))
theorem Bs{w:World}{S:Nat->Prop}{B:Nat}{β:Nat->Option Own}{v:Value}{x:AV}(h:Rep w S B β v x):Rep w S B β v (jd x):=by
 unfold jd;split
 ·rcases h.lst_inv.lst_inv with⟨ad,cap,rfl,_,h1,h2⟩|⟨_,_,_,_,_,_,_,h2,_⟩
  ·have:=h2 rfl;subst this;have:=h1 rfl;subst this;exact .p _ _ (.sc _ rfl)
  ·exact(h2 rfl).elim
 ·exact h
theorem tp(x:AV):∀r∈(jd x).ments,r∈x.ments:=by
 unfold jd;split
 ·simp[AV.ments]
 ·exact fun _ h=>h
theorem lO:∀(cs:List AV),∀r∈aF (cs.map jd),r∈aF cs
 |[],r,h=>h
 | c :: cs, r, h => by
   simp only[List.map_cons,aF,List.mem_append] at h⊢;exact h.imp (tp c r) (lO cs r)
theorem CvR.row{w:World}{tag:Nat->Tag}{B:Nat}{β:Nat->Option Own}{r:Nat}{o o':Option Row}(h:CvR o o')(hr:co w tag B β r o):co w tag B β r o':=by
 rcases h with rfl|⟨cs,rfl,rfl⟩
 ·exact hr
 ·obtain⟨b,o,v,h1,h2,h3,h4,h5⟩:=hr;refine⟨b,o,v,h1,h2,h3,?_,by rw[h5];simp[AV.width]⟩;obtain⟨vs,rfl,e1,e2,e3⟩:=h4.agg_inv;refine .agg _ _ (by simpa using e1) e2 fun j x hj=>?_;rw[List.getElem?_map,Option.map_eq_some_iff] at hj;obtain⟨y,hy,rfl⟩:=hj;exact Bs (e3 j y hy)
theorem CvR.isSome{o o':Option Row}(h:CvR o o'):o'.isSome=o.isSome:=by
 rcases h with rfl|⟨cs,rfl,rfl⟩<;>rfl
def Cu(V:List RV)(ts:List (Raw H))(res:AV):Ex->St->Prop
 | .nrm,σ| .ret,σ=>∃xs,RVs.val σ V=some xs/\(aF xs).Nodup/\∃is,Sb ts (lift σ.row 3 (dG xs)) res is/\is.Nodup
 |_,_=>False
def JJ(P:Program)(A:aq)(V:List RV)(n:Nat)(res:AV):Ex->St->Prop
 | .nrm, τ => ∃ r xs, look r τ.rows = some (.arr n (xs.map elU)) ∧ ∀ (H : World → Prop) (Z : List (El (Raw H))), Z.map (fun z => (z.1, z.2.1.l, z.2.2)) = xs → ∃ τ' : St, τ'.env = τ.env ∧ look r τ'.rows = some (.arr n (Z.map elR)) ∧ (∀ q, q ≠ r → CvR (look q τ.rows) (look q τ'.rows)) ∧
   AWP (OkT H P) A (Cu V (Z.map (·.2.1)) res) τ'
 | .ret,τ=>fin V res .ret τ
 |_,_=>False
variable{P:Program}
theorem Hb(ba:P.follows .mixedOrders=true){f k n:Nat}{A0 A1 A2 A3:aq}{V:List RV}{args:List AV}{res:AV}
 (hm:be P f k (.seq A0 (.seq A1 (.seq A2 A3))) V=true) (hl:args.length=k) (hn:noH A3=true)
 (h:AWP (OkS P) (.seq A0 (.seq A1 A2)) (JJ P A3 V n res) (St.start args)):Ok P f args res:=by
 classical
 unfold be at hm;split at hm
 case h_2=>cases hm
 rename_i fn hf;split at hm
 case h_2=>simp at hm
 rename_i cc hc;simp only[Bool.and_eq_true,Bool.not_eq_true',decide_eq_true_eq] at hm;obtain⟨⟨⟨⟨m1,m2⟩,m5⟩,m3⟩,m4⟩:=hm;refine⟨⟨fn,hf,by rw[hc];rfl,m1⟩,fun w S vs hS hvs hat hH=>?_⟩;refine calls_of_wp hf hc ?_;let tg:Nat->Tag:=fun b=>if S b then .imm else .out
 have hR:R fn.ntmps w ⟨S,w,tg,fun _=>none⟩ (St.start args) {tmps:=vs++Array.replicate (fn.ntmps-vs.size) undef,defers:=[]} w:=by
  refine⟨tg,fun _=>none,m5,.refl _ _,fun b _ _=>⟨rfl,rfl⟩,fun b hb=>⟨hb,rfl⟩,fun r _ hl=>by simp[St.start,look,cD] at hl,.refl _ _,by simp;omega,rfl,hS,fun b hb=>?_,fun b hb=>?_,fun j x hj=>?_,fun r=>?_,fun r x hr=>by simp[St.start,look] at hr⟩
  ·by_cases e:S b
   ·exact hS b e
   ·simp[tg,e] at hb
  ·by_cases e:S b<;>simp[tg,e]
  ·simp only[St.start,iz,Nat.zero_le,if_true,Nat.sub_zero] at hj;have hr:=hat j x hj;have hjl:j<vs.size:=by rw[hvs];exact(List.getElem?_eq_some_iff.1 hj).1
   have e:(vs++Array.replicate (fn.ntmps-vs.size) undef).getD j undef=vs.getD j undef:=by
    rw[Array.getD_eq_getD_getElem?,Array.getD_eq_getD_getElem?,Array.getElem?_append_left hjl]
   refine⟨?_,fun q hq=>by rw[hr.ments_nil] at hq;cases hq⟩;dsimp only;rw[e];exact .p _ _ (hr.mono fun b hb=>⟨.inl (by simp[tg,hb]),rfl⟩)
  ·simp[St.start,look,co]
 have hs0:Hs ⟨S,w,tg,fun _=>none⟩:=fun b hb=>by
  by_cases e:S b
  ·exact⟨by simp[tg,e],hS b e⟩
  ·simp[Imm,tg,e] at hb
 -- how a way out answers
 have out:∀(S0:Fx)(τ:St)(a':Act)(w':World)(xs:List AV)(tag:Nat->Tag)(β:Nat->Option Own),S0.s=S->RR fn.ntmps w S0 τ a' w' tag β->RVs.val τ V=some xs->(aF xs).Nodup->
  a'.defers = [] ∧ ∃ v, (results fn a'.tmps).run P w' = .ok v w' ∧ Below w.heap.size w w' ∧ ∃ fp, aQ w' (Imm (cL (dG xs).ments 0 tag)) w.heap.size v (lift τ.row 3 (dG xs)) fp ∧ fp.Nodup ∧
    (∀b∈fp,jo tag (dG xs).ments b)/\∀b,Imm (cL (dG xs).ments 0 tag) b->b<w'.heap.size/\(b<w.heap.size->S b):=by
  intro S0 τ a' w' xs tag β hs hRR x1 x2;refine⟨hRR.nodef,?_⟩;obtain⟨vs',v1,v2,v3⟩:=jW hRR m3 x1;obtain⟨t1,t2⟩:=nU v2 v3;refine⟨if h:vs'.toArray.size=1 then vs'.toArray[0] else .tuple vs'.toArray,?_,hRR.below,?_⟩
  ·unfold results;have e:fn.results=fn.results.toList.toArray:=by simp
   rw[e,List.mapM_toArray];simp only[Sem.run_bind,Sem.run_map];exact congrArg (fun r:Result (List Value)=>(r.andThen fun a w'=>Result.ok a.toArray w').andThen fun a w'=>(pure (if h:a.size=1 then a[0] else Value.tuple a):Sem Value).run P w') v1
  ·obtain⟨fp,l1,l2,l3⟩:=hRR.lift (rs:=(dG xs).ments) (d:=0) 3 (dG xs) _ t1 (by rw[t2];exact x2) (fun r hr=>hr);refine⟨fp,l1,l2,l3,fun b hb=>?_⟩;have hne:tag b≠.out:=by
    refine jQ (rs:=(dG xs).ments) (d:=0) ?_;rcases hb with e|⟨r,e⟩<;>rw[e]<;>simp
   refine⟨hRR.lt b hne,fun hlt=>?_⟩;have:=hRR.old b hlt;rw[hs] at this;exact this.1.1 (this.2.resolve_right hne)
 have early:∀(τ:St)(a':Act)(w':World),fin V res .ret τ->R fn.ntmps w ⟨S,w,tg,fun _=>none⟩ τ a' w'->
  a'.defers = [] ∧ ∃ v, (results fn a'.tmps).run P w' = .ok v w' ∧ ∃ u fp S', (Ending.returned v) = .returned u ∧ Below w.heap.size w w' ∧ fp.Nodup ∧
    (∀b,S' b->b<w'.heap.size/\(b<w.heap.size->S b))/\aQ w' S' w.heap.size u res fp:=by
  rintro τ a' w' ⟨xs,x1,x2,x3⟩ ⟨tag,β,hRR⟩;obtain⟨e1,v,e2,e3,fp,e4,e5,_,e6⟩:=out _ τ a' w' xs tag β rfl hRR x1 x2;exact⟨e1,v,e2,v,fp,_,rfl,e3,e5,e6,x3▸e4⟩
 -- the three parts ahead
 cases cc<;>(try simp only[bG,Bool.false_eq_true] at m4);rename_i c0 c123;cases c123<;>(try simp only[bG,Bool.and_eq_true,Bool.false_eq_true,and_false] at m4);rename_i c1 c23;cases c23<;>(try simp only[bG,Bool.and_eq_true,Bool.false_eq_true,and_false] at m4);rename_i c2 c3;obtain⟨k0,k1,k2,k3⟩:=m4;simp only[AWP] at h;refine wp_seq (wp_mono (fC (H:=fun _=>True) ba k0 (.inl hs0) h hR) fun e a w1 hq=>?_);cases e with
 |exit id=>obtain⟨τ,h1,_⟩:=hq;exact h1.elim
 |ret=>obtain⟨τ,h1,h2⟩:=hq;exact early τ _ _ h1 h2
 |goto l=>exact hq.elim
 |panic c=>exact hq.elim
 |outgrown=>exact hq.elim
 |normal=>
 obtain⟨τ0,h0,hR0⟩:=hq;refine wp_seq (wp_mono (fC (H:=fun _=>True) ba k1 (.inl hs0) h0 hR0) fun e a w2 hq=>?_);cases e with
 |exit id=>obtain⟨τ,h1,_⟩:=hq;exact h1.elim
 |ret=>obtain⟨τ,h1,h2⟩:=hq;exact early τ _ _ h1 h2
 |goto l=>exact hq.elim
 |panic c=>exact hq.elim
 |outgrown=>exact hq.elim
 |normal=>
 obtain⟨τ1,h1,hR1⟩:=hq;refine wp_seq (wp_mono (fC (H:=fun _=>True) ba k2 (.inl hs0) h1 hR1) fun e a w3 hq=>?_);cases e with
 |exit id=>obtain⟨τ,h1,_⟩:=hq;exact h1.elim
 |ret=>obtain⟨τ,h1,h2⟩:=hq;exact early τ _ _ h1 h2
 |goto l=>exact hq.elim
 |panic c=>exact hq.elim
 |outgrown=>exact hq.elim
 |normal=>
 obtain⟨τ,⟨r,xs,hrow,hsel⟩,tag0,β,hRR0⟩:=hq
 -- the row's slices as bare values;their blocks are shared from now on
 have hrk:=hRR0.rows r;rw[hrow] at hrk;have hrep:∃(es:Nat->Value)(gs:Nat->List Nat),(∀j(hj:j<xs.length),∃us:Array Value,es j=.agg us/\us.size=xs[j].2.2.length+2/\(∀x∈us,x.oneCell'=true)/\us.getD 0 undef=.int .i64 xs[j].1/\(∀i x,xs[j].2.2[i]?=some x->us.getD (i+2) undef=.int .i64 x)/\
  aQ w3 (Imm tag0) w.heap.size (us.getD 1 undef) (.lst .u 1 (xs[j].2.1.map AV.i)) (gs j))/\(bP xs.length gs).Nodup/\(∀c∈bP xs.length gs,tag0 c=.uq r)/\
  ((β r=some .nil/\xs=[])\/∃b o cap,β r=some (.blk b o n cap xs.length)/\Kb w3 tag0 w.heap.size r b (o+cap*n)/\xs.length<=cap/\∀j,j<xs.length->(es j).cells.size=n/\cM w3 b (o+j*n) (es j)):=by
  rcases hrk with⟨hb0,hes⟩|⟨b,o,cap,es,fps,hb0,hown,hcap,hv,hx,hnd,htag⟩
  ·have:xs=[]:=List.map_eq_nil_iff.1 hes;subst this;exact⟨fun _=>undef,fun _=>[],fun j hj=>absurd hj (Nat.not_lt_zero _),by simp[bP],by simp[bP],.inl ⟨hb0,rfl⟩⟩
  ·rw[List.length_map] at hb0 hcap hnd htag;refine⟨es,fps,fun j hj=>?_,hnd,htag,.inr ⟨b,o,cap,hb0,hown,hcap,fun j hj=>hv j (elU xs[j]) (by simp[hj])⟩⟩;have h0:=hx j (elU xs[j]) (by simp[hj]);obtain⟨us,fq,e1,e2,e3,e4,e5⟩:=h0.agg_at;have r0:=e4 0 (.i xs[j].1) rfl;have r1:=e4 1 (.lst .u 1 (xs[j].2.1.map AV.i)) rfl;have f0:fq 0=[]:=r0.noU_nil (by simp[AV.noU]);have fr:∀i x,xs[j].2.2[i]?=some x->aQ w3 (Imm tag0) w.heap.size (us.getD (i+2) undef) (.i x) (fq (i+2)):=fun i x hi=>e4 (i+2) (.i x) (by simp[hi]);have fr0:∀i,i<xs[j].2.2.length->fq (i+2)=[]:=fun i hi=>(fr i xs[j].2.2[i] (by simp[hi])).noU_nil (by simp[AV.noU]);have:fps j=fq 1:=by
    rw[e5];have:(AV.i xs[j].1::.lst .u 1 (xs[j].2.1.map AV.i)::xs[j].2.2.map AV.i).length=xs[j].2.2.length+2:=by simp
    rw[this,bP,List.range_eq_range',show List.range' 0 (xs[j].2.2.length+2)=0::1::List.range' 2 xs[j].2.2.length from rfl];simp only[List.flatMap_cons,f0,List.nil_append];have:(List.range' 2 xs[j].2.2.length).flatMap fq=[]:=by
     rw[List.flatMap_eq_nil_iff];intro i hi;rw[List.mem_range'_1] at hi;obtain⟨i',rfl⟩:∃i',i=i'+2:=⟨i-2,by omega⟩;exact fr0 i' (by omega)
    rw[this,List.append_nil]
   rw[this];rw[f0] at r0;refine⟨us,e1,by rw[e2];simp,e3,(Rep.p (β:=β) _ _ r0).int_inv,fun i x hi=>?_,r1⟩;have h2:=fr i x hi;rw[fr0 i (List.getElem?_eq_some_iff.1 hi).1] at h2;exact(Rep.p (β:=β) _ _ h2).int_inv
 obtain⟨es,gs,hpk,hnd,htag,hsh⟩:=hrep;let tag:Nat->Tag:=fun b=>if tag0 b=.uq r then .imm else tag0 b
 have himm:∀b,Imm tag0 b↔Imm tag b:=fun b=>by
  simp only[Imm,tag];constructor
  ·rintro(e|⟨q,e⟩)
   ·left;simp[e]
   ·by_cases e2:q=r
    ·subst e2;left;simp[e]
    ·right;exact⟨q,by simp[e,e2]⟩
  ·rintro(e|⟨q,e⟩)
   ·by_cases e2:tag0 b=.uq r
    ·exact .inr ⟨r,e2⟩
    ·rw[if_neg e2] at e;exact .inl e
   ·by_cases e2:tag0 b=.uq r
    ·rw[if_pos e2] at e;cases e
    ·rw[if_neg e2] at e;exact .inr ⟨q,e⟩
 have hS:∀b,Imm tag0 b->Imm tag b/\w3.heap[b]?=w3.heap[b]?:=fun b hb=>⟨(himm b).1 hb,rfl⟩;have hown:∀b q,tag0 b=.own q->tag b=.own q:=fun b q e=>by simp[tag,e]
 let HH:World->Prop:=fun W=>∀c,Imm tag c->W.heap[c]?=w3.heap[c]?
 have hne:∀b,tag b≠.out->tag0 b≠.out:=fun b hb e=>hb (by simp[tag,e]);have hlt':∀c,Imm tag c->c<w3.heap.size:=fun c hc=>hRR0.lt c (hne c (by rcases hc with e|⟨r,e⟩<;>simp[e]));have himmS:∀(W:World)(S:Nat->Prop),(∀W':World,(∀b,S b->W'.heap[b]?=W.heap[b]?)->HH W')->∀c,Imm tag c->S c/\W.heap[c]?=w3.heap[c]?:=by
  intro W S hS c hc;have h0:=hS W (fun _ _=>rfl) c hc;refine⟨?_,h0⟩;by_cases e:S c
  ·exact e
  ·have hcW:c<W.heap.size:=by
    rcases Nat.lt_or_ge c W.heap.size with h|h
    ·exact h
    ·rw[Array.getElem?_eq_none h,Array.getElem?_eq_getElem (hlt' c hc)] at h0;cases h0
   obtain⟨W',d1,d2⟩:=Pv W c hcW;have:=hS W' (fun b hb=>d2 b fun e'=>e (e'▸hb)) c hc;exact(d1 (this.trans h0.symm)).elim
 let mk:(j:Nat)->(hj:j<xs.length)->El (Raw HH):=fun j hj=>(xs[j].1,
  { l:=xs[j].2.1,v:=(es j).cells.getD 1 undef,
    one:=by
     obtain⟨us,e1,e2,e3,_⟩:=hpk j hj;rw[e1];show(us.getD 1 undef).oneCell'=true;rw[Array.getD_eq_getD_getElem?,Array.getElem?_eq_getElem (by omega)];exact e3 _ (Array.getElem_mem _),
    rep:=fun W S B hS'=>by
     obtain⟨us,e1,e2,e3,e4,e5,e6⟩:=hpk j hj;rw[e1];have:=(e6.shs B).mono fun c hc=>himmS W S hS' c ((himm c).1 hc);show aQ W S B (us.getD 1 undef) _ [];simpa only[AV.shs,sQ AV.i AV.i (fun _=>rfl)] using this},xs[j].2.2)
 let Z:List (El (Raw HH)):=(List.range xs.length).pmap (fun j hj=>mk j hj) (fun j hj=>List.mem_range.1 hj);have hZg:∀j,Z[j]?=if hj:j<xs.length then some (mk j hj) else none:=by
  intro j;by_cases hj:j<xs.length
  ·rw[dif_pos hj,List.getElem?_pmap];simp[hj]
  ·rw[dif_neg hj];simp[Z];omega
 have hZl:Z.length=xs.length:=by simp[Z]
 have hZx:Z.map (fun z=>(z.1,z.2.1.l,z.2.2))=xs:=by
  apply List.ext_getElem?;intro j;rw[List.getElem?_map,hZg];by_cases hj:j<xs.length
  ·rw[dif_pos hj];simp[mk,hj]
  ·rw[dif_neg hj];simp;omega
 have hZrow:co w3 tag w.heap.size β r (some (.arr n (Z.map elR))):=by
  rcases hsh with⟨h1,h2⟩|⟨b,o,cap,h1,⟨h2,h3,h4⟩,h5,h6⟩
  ·subst h2;exact .inl ⟨h1,rfl⟩
  ·refine .inr ⟨b,o,cap,es,fun _=>[],by rw[List.length_map,hZl];exact h1,⟨hown b r h2,h3,h4⟩,by rw[List.length_map,hZl];exact h5,fun j x hj=>?_,fun j x hj=>?_,?_,?_⟩
   ·refine h6 j ?_;have:=(List.getElem?_eq_some_iff.1 hj).1;rw[List.length_map,hZl] at this;exact this
   ·rw[List.getElem?_map,hZg] at hj;by_cases hl:j<xs.length
    ·rw[dif_pos hl] at hj;simp only[Option.map_some,Option.some.injEq] at hj;subst hj;obtain⟨us,e1,e2,e3,e4,e5,e6⟩:=hpk j hl;have e1':(es j).cells.getD 1 undef=us.getD 1 undef:=by rw[e1];rfl
     have:=aQ.agg (w:=w3) (S:=Imm tag) (B:=w.heap.size) us (.i xs[j].1::.sc ((es j).cells.getD 1 undef)::xs[j].2.2.map AV.i) (fun _=>[]) (by rw[e2];simp) e3 (fun i x hi=>by
      match i,hi with
      |0,hi=>cases hi;rw[e4];exact .sc _ rfl
      |1,hi=>cases hi;rw[e1'];exact .sc _ (by rw[<-e1'];exact(mk j hl).2.1.one)
      | i + 2, hi =>
        simp only[List.getElem?_cons_succ,List.getElem?_map,Option.map_eq_some_iff] at hi;obtain⟨y,hy,rfl⟩:=hi;rw[e5 i y hy];exact .sc _ rfl)
     rw[bi _ _ (fun _ _=>rfl)] at this;show aQ w3 (Imm tag) w.heap.size (es j) (.agg (.i xs[j].1::.sc ((es j).cells.getD 1 undef)::xs[j].2.2.map AV.i)) [];rw[e1'] at this⊢;rw[e1];exact this
    ·rw[dif_neg hl] at hj;cases hj
   ·rw[bi _ _ (fun _ _=>rfl)];exact List.nodup_nil
   ·rw[bi _ _ (fun _ _=>rfl)];intro c hc;cases hc
 obtain⟨τ',t1,t2,t3,t4⟩:=hsel HH Z hZx;have hso:∀q,(look q τ'.rows).isSome=(look q τ.rows).isSome:=fun q=>by
  by_cases e:q=r
  ·subst e;rw[t2,hrow];rfl
  ·exact(t3 q e).isSome
 have hR3:R fn.ntmps w ⟨S,w3,tag,β⟩ τ' a w3:=by
  refine⟨tag,β,hRR0.nn,.refl _ _,fun b _ _=>⟨rfl,rfl⟩,fun b hb=>⟨hb,rfl⟩,fun _ _ _=>rfl,hRR0.below,hRR0.sz,hRR0.nodef,hRR0.s0lt,fun b hb=>hRR0.lt b (hne b hb),fun b hb=>?_,fun j x hj=>?_,fun q=>?_,fun q x hq p hp=>?_⟩
  ·have h0:=hRR0.old b hb;have:tag b=tag0 b:=by rcases h0.2 with e|e<;>simp[tag,e]
   rw[this];exact h0
  ·rw[t1] at hj;obtain⟨e1,e2⟩:=hRR0.env j x hj;exact⟨e1.mono hS fun _ _=>.inl rfl,fun q hq=>by rw[hso];exact e2 q hq⟩
  ·by_cases e:q=r
   ·subst e;rw[t2];exact hZrow
   ·refine(t3 q e).row ?_;have h0:=hRR0.rows q;cases hl:look q τ.rows with
    |none=>rw[hl] at h0;exact h0
    | some row =>
      rw[hl] at h0;exact h0.mono hS (fun b hb=>⟨hown b q hb,rfl⟩) (fun b hb=>by simp[tag,hb,e]) rfl fun _ _ _ _=>.inl rfl
  ·rw[hso];by_cases e:q=r
   ·subst e;rw[t2] at hq;cases hq
   ·rcases t3 q e with e'|⟨cs,e1,e2⟩
    ·exact hRR0.wfr q x (by rw[<-e'];exact hq) p hp
    ·rw[hq] at e2;simp only[Option.some.injEq,Row.var.injEq] at e2;subst e2;exact hRR0.wfr q _ e1 p (lO cs p hp)
 haveI:HS ⟨S,w3,tag,β⟩ HH:=⟨fun W hW=>hW⟩
 refine wp_mono (fC (H:=HH) ba k3 (.inr hn) t4 hR3) fun e a' w' hq=>?_;have fin:∀υ,(∃ys,RVs.val υ V=some ys/\(aF ys).Nodup/\∃is,Sb (Z.map (·.2.1)) (lift υ.row 3 (dG ys)) res is/\is.Nodup)->R fn.ntmps w ⟨S,w3,tag,β⟩ υ a' w'->
  a'.defers = [] ∧ ∃ v, (results fn a'.tmps).run P w' = .ok v w' ∧ ∃ u fp S', (Ending.returned v) = .returned u ∧ Below w.heap.size w w' ∧ fp.Nodup ∧
    (∀b,S' b->b<w'.heap.size/\(b<w.heap.size->S b))/\aQ w' S' w.heap.size u res fp:=by
  rintro υ ⟨ys,x1,x2,is,x3,x4⟩ ⟨tag2,β2,hR4⟩;obtain⟨e1,v,e2,e3,fp,e4,e5,e7,e6⟩:=out _ υ a' w' ys tag2 β2 rfl hR4 x1 x2;obtain⟨n1,n2⟩:=bI hnd;let g:Nat->List Nat:=fun i=>if i<xs.length then gs i else []
  have hgt:∀i,∀b∈g i,tag2 b=.imm:=fun i b hb=>by
   simp only[g] at hb;split at hb
   ·rename_i hi;have h0:tag b=.imm:=by simp[tag,htag b (aU.2 ⟨i,hi,hb⟩)]
    exact(hR4.keep b (hlt' b (.inl h0)) (.inl h0)).1.trans h0
   ·cases hb
  obtain⟨fp',f1,f2,_⟩:=x3.rep (w:=w') (S:=Imm (cL (dG ys).ments 0 tag2)) (B:=w.heap.size) (g:=g) (fun i t hi=>by
   rw[List.getElem?_map,hZg] at hi;by_cases hl:i<xs.length
   ·rw[dif_pos hl] at hi;simp only[Option.map_some,Option.some.injEq] at hi;subst hi;obtain⟨us,p1,p2,p3,p4,p5,p6⟩:=hpk i hl;have p1':(es i).cells.getD 1 undef=us.getD 1 undef:=by rw[p1];rfl
    simp only[g,if_pos hl];refine⟨?_,n1 i hl⟩;show aQ _ _ _ ((es i).cells.getD 1 undef) (.lst .u 1 (xs[i].2.1.map AV.i)) _;rw[p1'];exact p6.mono fun b hb=>⟨ij (hR4.kimm b ((himm b).1 hb)).1,(hR4.kimm b ((himm b).1 hb)).2⟩
   ·rw[dif_neg hl] at hi;cases hi)
   (fun i j hij b hb=>by
    simp only[g] at hb⊢;split at hb
    ·rename_i hi;split
     ·rename_i hj;exact n2 i j hi hj hij b hb
     ·simp
    ·cases hb) x4 e4 e5 (fun i b hb hbg=>by
    obtain⟨q,_,hq⟩:=e7 b hb;rw[hgt i b hbg] at hq;rcases hq with e|e<;>cases e)
  exact⟨e1,v,e2,v,fp',_,rfl,e3,f2,e6,f1⟩
 cases e with
 |normal=>obtain⟨τ,h1,h2⟩:=hq;exact fin τ h1 h2
 |ret=>obtain⟨τ,h1,h2⟩:=hq;exact fin τ h1 h2
 |exit id=>obtain⟨τ,h1,h2⟩:=hq;exact h1.elim
 |goto l=>exact hq.elim
 |panic c=>exact hq.elim
 |outgrown=>exact hq.elim
end Vs

