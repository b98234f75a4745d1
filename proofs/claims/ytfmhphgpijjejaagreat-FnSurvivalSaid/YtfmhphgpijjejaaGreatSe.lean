/-
  Part of the proof that the law FnSurvival returns true at every input; no condition beside the row's own.
-/
import Derived.Test.YtfmhphgpijjejaaGreatSd
import Derived.Deep.Slices
import Derived.ChangeSame
import Derived.Test.YtfmhphgpijjejaaGreatSa
import Derived.Sort.Defs
import Derived.Sort.Statements
import Derived.Sort.AssemblyPlain
import Derived.Lib.BitFns
set_option linter.defProp false
set_option linter.unusedSimpArgs false
set_option linter.unusedVariables false
namespace Vs
open Go Go.RowKit
variable{P:Program}{n:Nat}{w0:World}{S0:Fx}{σ τ:St}{a:Act}{w w':World}{tag tag':Nat->Tag}{β β':Nat->Option Own}
theorem ie:∀{cs:List AV}{j:Nat}{x:AV},fzL cs=true->cs[j]?=some x->x.fz=true
 |[],j,x,_,h=>by simp at h
 |c::cs,0,x,h,hx=>by simp[fzL] at h;simp at hx;subst hx;exact h.1
 |c::cs,j+1,x,h,hx=>by simp[fzL] at h;exact ie h.2 (by simpa using hx)
theorem lx:∀{cs:List AV}{j:Nat}{x:AV},cH cs=true->cs[j]?=some x->x.ouB=true
 |[],j,x,_,h=>by simp at h
 |c::cs,0,x,h,hx=>by simp[cH] at h;simp at hx;subst hx;exact h.1
 |c::cs,j+1,x,h,hx=>by simp[cH] at h;exact lx h.2 (by simpa using hx)
theorem bb.mono_fz{S S':Nat->Prop}{B:Nat}{v:Value}{x:AV}{fp:List Nat}(h:bb w S B v x fp)(hx:x.fz=true)
 (h1:∀b,S b->b<B->S' b/\w'.heap[b]?=w.heap[b]?):bb w' S' B v x fp:=by
 induction h with
 |top v=>exact .top v
 |sc v h=>exact .sc v h
 |nil f n ad cap h=>exact .nil f n ad cap h
 | lst f n b o len cap xs vs fps hl hc hf hu hv hxx ih =>
   cases f<;>simp[AV.fz] at hx;obtain⟨f1,f2⟩:=hf;obtain⟨g1,g2⟩:=h1 b f1 f2;exact .lst .o n b o len cap xs vs fps hl hc ⟨g1,f2⟩ (fun e=>by cases e) (fun j x hj=>⟨(hv j x hj).1,(hv j x hj).2.mono g2⟩) fun j x hj=>ih j x hj (ie hx hj)
 |agg vs cs fps h h0 hxx ih=>simp only[AV.fz] at hx;exact .agg vs cs fps h h0 fun j x hj=>ih j x hj (ie hx hj)
 |tup vs cs fps h hxx ih=>simp only[AV.fz] at hx;exact .tup vs cs fps h fun j x hj=>ih j x hj (ie hx hj)
 |fn f vs cs fps h hxx ih=>simp only[AV.fz] at hx;exact .fn f vs cs fps h fun j x hj=>ih j x hj (ie hx hj)
 |ub b=>exact .ub b
 | bp f b o off v x hb hv hxx ih =>
   cases f<;>simp[AV.fz] at hx;obtain⟨f1,f2⟩:=hb;obtain⟨g1,g2⟩:=h1 b f1 f2;exact .bp .o b o off v x ⟨g1,f2⟩ (hv.mono g2) (ih hx)
theorem bb.mono_ou{S S':Nat->Prop}{B:Nat}{v:Value}{x:AV}{fp:List Nat}(h:bb w S B v x fp)(hx:x.ouB=true)
 (h1:∀b,S b->b<B->S' b/\w'.heap[b]?=w.heap[b]?) (h2:∀b,S b->b∈fp->S' b/\w'.heap[b]?=w.heap[b]?):bb w' S' B v x fp:=by
 induction h with
 |top v=>exact .top v
 |sc v h=>exact .sc v h
 |nil f n ad cap h=>exact .nil f n ad cap h
 | lst f n b o len cap xs vs fps hl hc hf hu hv hxx ih =>
   cases f<;>simp[AV.ouB] at hx
   ·obtain⟨f1,f2⟩:=hf;obtain⟨g1,g2⟩:=h1 b f1 f2;exact .lst .o n b o len cap xs vs fps hl hc ⟨g1,f2⟩ (fun e=>by cases e) (fun j x hj=>⟨(hv j x hj).1,(hv j x hj).2.mono g2⟩) fun j x hj=>(hxx j x hj).mono_fz (ie hx hj) h1
   ·obtain⟨f1,f2⟩:=hf;obtain⟨g1,g2⟩:=h2 b f1 (by simp);refine .lst .u n b o len cap xs vs fps hl hc ⟨g1,f2⟩ (fun e=>(hu e).mono g2) (fun j x hj=>⟨(hv j x hj).1,(hv j x hj).2.mono g2⟩) fun j x hj=>ih j x hj (lx hx hj) fun c hS hc=>h2 c hS ?_;refine List.mem_append_right _ (bj.2 ⟨j,?_,hc⟩);rw[<-hl];exact(List.getElem?_eq_some_iff.1 hj).1
 | agg vs cs fps h h0 hxx ih =>
   simp only[AV.ouB] at hx;exact .agg vs cs fps h h0 fun j x hj=>ih j x hj (lx hx hj) fun c hS hc=>h2 c hS (bj.2 ⟨j,(List.getElem?_eq_some_iff.1 hj).1,hc⟩)
 |tup vs cs fps h hxx ih=>simp[AV.ouB] at hx
 |fn f vs cs fps h hxx ih=>simp[AV.ouB] at hx
 |ub b=>simp[AV.ouB] at hx
 |bp f b o off v x hb hv hxx ih=>simp[AV.ouB] at hx
theorem Rep.mono_fz{S S':Nat->Prop}{B:Nat}{v:Value}{x:AV}(h:Rep w S B β v x)(hx:x.fz=true)
 (hs:∀b,S b->b<B->S' b/\w'.heap[b]?=w.heap[b]?) (hb:∀r∈x.ments,β' r=β r\/β' r=none):Rep w' S' B β' v x:=by
 induction h with
 |p v x h=>exact .p v x (h.mono_fz hx hs)
 |slB r i n b o sz cap len c h hc hn hl=>exact(hb r (by simp[AV.ments])).elim (fun e=>.slB r i n b o sz cap len c (e.trans h) hc hn hl) (fun e=>.slD r i n _ e rfl)
 |slE r i b o sz cap len p h hp=>exact(hb r (by simp[AV.ments])).elim (fun e=>.slE r i b o sz cap len p (e.trans h) hp) (fun e=>.slD r i 0 _ e rfl)
 |slN r h=>exact(hb r (by simp[AV.ments])).elim (fun e=>.slN r (e.trans h)) (fun e=>.slD r 0 0 _ e rfl)
 |slD r i n v h h1=>exact .slD r i n v ((hb r (by simp[AV.ments])).elim (fun e=>e.trans h) id) h1
 |ptB r i off b o sz cap len h=>exact(hb r (by simp[AV.ments])).elim (fun e=>.ptB r i off b o sz cap len (e.trans h)) (fun e=>.ptD r i off _ e rfl)
 |ptD r i off v h h1=>exact .ptD r i off v ((hb r (by simp[AV.ments])).elim (fun e=>e.trans h) id) h1
 |tg f n len a xs hl h=>simp[AV.fz] at hx
 |agg vs cs hsz h1 hxx ih=>simp only[AV.fz] at hx;exact .agg vs cs hsz h1 (fun j x hj=>ih j x hj (ie hx hj) fun r hr=>hb r (by simpa[AV.ments] using bz hj hr))
 |tup vs cs hsz hxx ih=>simp only[AV.fz] at hx;exact .tup vs cs hsz (fun j x hj=>ih j x hj (ie hx hj) fun r hr=>hb r (by simpa[AV.ments] using bz hj hr))
 |fn f vs cs hsz hxx ih=>simp only[AV.fz] at hx;exact .fn f vs cs hsz (fun j x hj=>ih j x hj (ie hx hj) fun r hr=>hb r (by simpa[AV.ments] using bz hj hr))
theorem cF.mono_fz{B r:Nat}{row:Option Row}(h:cF w tag B β r row)(hx:∀x,row=some x->x.fz=true)(hold:∀b,Imm tag b->b<B->Imm tag' b/\w'.heap[b]?=w.heap[b]?)
 (hown:∀b,tag b=.own r->tag' b=.own r/\w'.heap[b]?=w.heap[b]?) (huq:∀b,tag b=.uq r->tag' b=.uq r/\w'.heap[b]?=w.heap[b]?) (hr:β' r=β r)
 (hβ:∀x,row=some (.var x)->∀q∈x.ments,β' q=β q\/β' q=none):cF w' tag' B β' r row:=by
 cases row with
 |none=>exact hr.trans h
 | some row => cases row with
   |dead=>exact hr.trans h
   | var x =>
     obtain⟨b,o,v,h1,⟨h2,h3,h4⟩,h5,h6,h7⟩:=h;exact⟨b,o,v,hr.trans h1,⟨(hown b h2).1,h3,h4.mono (hown b h2).2⟩,h5.mono (hown b h2).2,h6.mono_fz (hx _ rfl) hold (hβ x rfl),h7⟩
   | arr k es =>
     have hou:=hx _ rfl;simp only[Row.fz] at hou;rcases h with⟨h1,h2⟩|⟨b,o,cap,vs,fps,h1,⟨h2,h3,h4⟩,h5,h6,h7,h8,h9⟩
     ·exact .inl ⟨hr.trans h1,h2⟩
     ·exact .inr ⟨b,o,cap,vs,fps,hr.trans h1,⟨(hown b h2).1,h3,h4.mono (hown b h2).2⟩,h5,fun j x hj=>⟨(h6 j x hj).1,(h6 j x hj).2.mono (hown b h2).2⟩,
       fun j x hj=>(h7 j x hj).mono_ou (lx hou hj) hold fun c _ hc=>by
        have:=huq c (h9 c (bj.2 ⟨j,(List.getElem?_eq_some_iff.1 hj).1,hc⟩));exact⟨.inr ⟨r,this.1⟩,this.2⟩,h8,fun c hc=>(huq c (h9 c hc)).1⟩
def Hs(S0:Fx):Prop:=∀b,Imm S0.t b->S0.t b=.imm/\b<S0.w.heap.size
end Vs



namespace Vs
open Go Go.RowKit
variable{P:Program}{n:Nat}{w0:World}{S0:Fx}{σ τ:St}{a:Act}{w w':World}{tag tag':Nat->Tag}{β β':Nat->Option Own}
theorem bb.cell{S:Nat->Prop}{B:Nat}{v:Value}{y x:AV}{fp:List Nat}{off:Nat}(h:bb w S B v y fp)(hp:part y off 1 false=some x)(hou:y.ouB=true)(hag:x.isAgg=false)(hw:x.width=1):
 ∃ u fx, v.cells[off]? = some u ∧ bb w S B u x fx ∧ (∀ c ∈ fx, c ∈ fp) ∧
   ∀ (x' : AV), x'.isAgg = false → x'.width = 1 → x'.cells = [x'] → ∃ z, Vs.setPart y off x' = some z ∧ z.width = y.width ∧
     ∀(w':World)(S':Nat->Prop),fp.Nodup->bb w' S' B u x' fx->(∀b,S b->b<B->S' b/\w'.heap[b]?=w.heap[b]?)->(∀b,S b->b∈fp->b∉fx->S' b/\w'.heap[b]?=w.heap[b]?)->bb w' S' B v z fp:=by
 have hcx:x.cells=[x]:=by cases x<;>simp_all [AV.width,AV.isAgg,AV.cells]
 simp only[part,Bool.false_eq_true,if_false] at hp;by_cases hy:y.isAgg=true
 ·cases y with
  | agg cs =>
    generalize hyy:AV.agg cs=yy at h;cases h with
    | agg vs cs' fps hs h1 hx =>
      cases hyy;simp only[AV.cells] at hp;have hlt:off<cs.length:=(List.getElem?_eq_some_iff.1 hp).1;refine⟨vs.getD off undef,fps off,by simp[Value.cells,Array.getD,hs,hlt],hx off x hp,fun c hc=>bj.2 ⟨off,hlt,hc⟩,fun x' a1 a2 a3=>?_⟩;have hfl:fill cs off x'=cs.set off x':=by
       unfold fill;rw[a3];simp only[List.length_singleton];rw[List.append_assoc,List.set_eq_take_append_cons_drop,if_pos hlt];rfl
      refine⟨.agg (cs.set off x'),?_,by simp[AV.width],fun w' S' hnd hu hs1 hs2=>?_⟩
      ·unfold Vs.setPart;rw[if_pos (show(AV.agg cs).isAgg=true from rfl),a1,if_neg (by simp),if_pos (show off+1<=(AV.agg cs).width from hlt)];simp only[AV.cells,hfl]
      ·simp only[AV.ouB] at hou;have:=bb.agg (w:=w') (S:=S') (B:=B) vs (cs.set off x') fps (by simpa using hs) h1 fun j z hj=>by
        rw[List.getElem?_set] at hj;by_cases e:off=j
        ·subst e;rw[if_pos rfl,if_pos hlt] at hj;cases hj;exact hu
        ·rw[if_neg e] at hj;have hjl:j<cs.length:=(List.getElem?_eq_some_iff.1 hj).1;refine(hx j z hj).mono_ou (lx hou hj) hs1 fun c hS hc=>hs2 c hS (bj.2 ⟨j,hjl,hc⟩) fun hc'=>?_;exact(ck hnd).2 j off hjl hlt (Ne.symm e) c hc hc'
       simpa using this
    |top=>cases hyy
    |ub=>cases hyy
    |sc=>cases hyy
    |nil=>cases hyy
    |lst=>cases hyy
    |tup=>cases hyy
    |fn=>cases hyy
    |bp=>cases hyy
  |_=>simp[AV.isAgg] at hy
 ·simp only[Bool.not_eq_true] at hy;have hcy:y.cells=[y]:=by
   by_cases hw1:y.width=1
   ·cases y<;>simp_all [AV.width,AV.isAgg,AV.cells]
   ·have:y.cells=[]:=by cases y<;>simp_all [AV.width,AV.isAgg,AV.cells]
    rw[this] at hp;simp at hp
  rw[hcy] at hp;have h0:off=0:=by have:=(List.getElem?_eq_some_iff.1 hp).1;simpa using this
  subst h0;simp at hp;subst hp;obtain⟨h1,h2⟩:=h.one hag hw;refine⟨v,fp,by rw[h1];rfl,h,fun c hc=>hc,fun x' a1 a2 a3=>⟨x',?_,by rw[a2,hw],fun w' S' _ hu _ _=>hu⟩⟩;simp[Vs.setPart,hy,a1,hw]
end Vs



namespace Vs
open Go Go.RowKit
variable{P:Program}{n:Nat}{w0:World}{S0:Fx}{σ τ:St}{a:Act}{w w':World}{tag tag':Nat->Tag}{β β':Nat->Option Own}{H:World->Prop}[HS S0 H]
def HOp.len:HOp->Nat
 | .inn _ _ _ _ mids _ _ _=>mids.length+2
 | .har _ _ _ _=>1
end Vs

namespace Vs
open Go Go.RowKit
variable{P:Program}{n:Nat}{w0:World}{S0:Fx}{σ τ:St}{a:Act}{w w':World}{tag tag':Nat->Tag}{β β':Nat->Option Own}{H:World->Prop}[HS S0 H]
theorem gX{α:Type}(f:Nat->α)(k:Nat):∀l:List Nat,aD k (l.map fun j=>(j,f j))=if k∈l then some (f k) else none
 |[]=>by simp[aD]
 | j :: l => by
   simp only[List.map_cons,aD,gX f k l,List.mem_cons];by_cases h:j=k
   ·subst h;simp
   ·simp[h,Ne.symm h]
theorem RR.res(h:RR n w0 S0 σ a w tag β){lv lr:List Nat}(hok:σ.resOk lv lr):∃tag' β',RR n w0 S0 (σ.res lv lr) a w tag' β'/\
 ∀v x,Rep w (Imm tag) w0.heap.size β v x->(∀r∈x.ments,r∈lr)->Rep w (Imm tag') w0.heap.size β' v x:=by
 obtain⟨ho1,ho2,_⟩:=hok;let tag':Nat->Tag:=fun b=>match tag b with| .own r=>if r∈lr then .own r else .out| .uq r=>if r∈lr then .uq r else .imm|t=>t
 let β':Nat->Option Own:=fun r=>if r∈lr then β r else none
 have himm:∀b,Imm tag b->Imm tag' b/\w.heap[b]?=w.heap[b]?:=by
  intro b hb;refine⟨?_,rfl⟩;rcases hb with hb|⟨r,hb⟩
  ·left;simp only[tag',hb]
  ·by_cases e:r∈lr
   ·right;exact⟨r,by simp only[tag',hb,e,if_true]⟩
   ·left;simp only[tag',hb,e,if_false]
 have hβ:∀r,β' r=β r\/β' r=none:=by
  intro r;simp only[β'];by_cases e:r∈lr
  ·left;rw[if_pos e]
  ·right;rw[if_neg e]
 have hrow:∀r,aD r (σ.res lv lr).rows=if r∈lr then some ((σ.row r).getD .dead) else none:=fun r=>gX _ r lr
 have henv:∀k,aD k (σ.res lv lr).env=if k∈lv then some (σ.get k) else none:=fun k=>gX _ k lv
 refine⟨tag',β',⟨h.nn,h.frm,fun b hb ht=>?_,fun b hb=>?_,fun r hr hl=>?_,h.below,h.sz,h.nodef,h.s0lt,fun b hb=>h.lt b fun e=>hb (by simp only[tag',e]),fun b hb=>?_,fun k x hk=>?_,fun r=>?_,fun r x hr q hq=>?_⟩,fun v x hv hx=>hv.mono himm fun r hr=>.inl (by simp only[β',if_pos (hx r hr)])⟩
 ·obtain⟨k1,k2⟩:=h.keep b hb ht;refine⟨?_,k2⟩;simp only[tag',k1];rcases ht with e|e<;>rw[e]
 ·obtain⟨k1,k2⟩:=h.kimm b hb;exact⟨(himm b k1).1,k2⟩
 ·rw[hrow] at hl;by_cases e:r∈lr
  ·rw[if_pos e] at hl;simp only[β',if_pos e];refine h.bk r hr ?_;show cL (σ.row r);cases hrw:σ.row r with
   |none=>rw[hrw] at hl;exact hl.elim
   |some row=>rw[hrw] at hl;exact hl
  ·rw[if_neg e] at hl;exact hl.elim
 ·obtain⟨h1,h2⟩:=h.old b hb;have:tag' b=tag b:=by rcases h2 with e|e<;>simp only[tag',e]
  rw[this];exact⟨h1,h2⟩
 ·rw[henv] at hk;split at hk
  ·rename_i hkl;cases hk;refine⟨(h.get k).1.mono himm fun r _=>hβ r,fun r hr=>?_⟩;rw[hrow,if_pos (ho1 k hkl r hr)];rfl
  ·cases hk
 ·rw[hrow];split
  ·rename_i hl;have hr:=h.rows r;have hrw:σ.row r=aD r σ.rows:=rfl;rw[hrw];have hb:β' r=β r:=by simp only[β',if_pos hl]
   cases e:aD r σ.rows with
   |none=>rw[e] at hr;exact hb.trans hr
   | some row =>
     rw[e] at hr;refine hr.mono himm (fun b hb=>⟨by simp only[tag',hb,hl,if_true],rfl⟩) (fun b hb=>by simp only[tag',hb,hl,if_true]) hb fun x _ q _=>hβ q
  ·rename_i hl;simp only[cF,β',if_neg hl]
 ·rw[hrow] at hr;split at hr
  ·rename_i hl;cases hr':σ.row r with
   |none=>rw[hr'] at hr;cases hr
   | some row =>
     rw[hr'] at hr;simp only[Option.getD_some,Option.some.injEq] at hr;subst hr;have:=ho2 r hl q (by rw[hr'];exact hq);rw[hrow,if_pos this];rfl
  ·cases hr
theorem R.res(h:R n w0 S0 σ a w){lv lr:List Nat}(hok:σ.resOk lv lr):R n w0 S0 (σ.res lv lr) a w:=by
 obtain⟨tag,β,h⟩:=h;obtain⟨tag',β',h',_⟩:=h.res hok;exact⟨tag',β',h'⟩
theorem vg{g:Nat->AV}{k:Nat}{x:AV}:∀lv:List Nat,aD k (lv.map fun j=>(j,g j))=some x->x=g k
 |[],h=>by simp[aD] at h
 | j :: lv, h => by
   simp only[List.map_cons,aD] at h;split at h
   ·rename_i e;cases h;rw[e]
   ·exact vg lv h
theorem R.rb(h:R n w0 S0 σ a w)(lv:List Nat):∃S1,Hs S1/\HS S1 H/\R n w S1 (σ.rb lv) a w/\∀τ a' w',R n w S1 τ a' w'->R n w0 S0 τ.scal a' w':=by
 classical
 obtain⟨tag,β,h⟩:=h;have hi:∀b,Imm tag b->tag b≠.out:=fun b hb=>by rcases hb with e|⟨r,e⟩<;>simp[e]
 let tg:Nat->Tag:=fun b=>if tag b≠.out then .imm else .out
 have htg:∀b,Imm tg b->tag b≠.out:=fun b hb=>by
  by_cases e:tag b=.out
  ·simp[tg,e,Imm] at hb
  ·exact e
 refine⟨⟨fun b=>tag b≠.out,w,tg,fun _=>none⟩,fun b hb=>⟨by simp[tg,htg b hb],h.lt b (htg b hb)⟩,⟨fun W hW=>h.hyp fun b hb=>hW b (.inl (by simp[tg,hi b hb]))⟩,⟨tg,fun _=>none,h.nn,.refl _ _,fun b _ _=>⟨rfl,rfl⟩,fun b hb=>⟨hb,rfl⟩,fun r _ hl=>by simp[St.rb,aD,cL] at hl,.refl _ _,h.sz,h.nodef,h.lt,fun b hb=>?_,fun b hb=>?_,fun k x hk=>?_,fun r=>?_,fun r x hr=>by simp[St.rb,aD] at hr⟩,?_⟩
 ·refine h.lt b fun e=>hb ?_;simp[tg,e]
 ·by_cases e:tag b=.out<;>simp[tg,e]
 ·have hx:x=snp σ.row 4 (σ.get k):=vg lv hk;subst hx;have hr:=h.snp (S:=fun b=>tag b≠.out) hi 4 _ _ (h.get k).1 (.inr fun b hb=>hb);refine⟨.p _ _ (hr.mono fun b hb=>⟨.inl (by simp[tg,hb]),rfl⟩),fun q hq=>by rw[hr.ments_nil] at hq;cases hq⟩
 ·simp[St.rb,aD,cF]
 ·rintro τ a' w' ⟨tag1,β1,h1⟩;have hblk:∀b,tag b≠.out->w'.heap[b]?=w.heap[b]?:=fun b hb=>h1.below.block b (h.lt b hb);refine⟨tag,fun _=>none,h1.nn,h.frm.trans (h1.below.mono (Nat.zero_le _)),fun b hb ht=>?_,fun b hb=>?_,fun r _ hl=>by simp[St.scal,aD,cL] at hl,h.below.trans (h1.below.mono h.below.size),h1.sz,h1.nodef,h.s0lt,
   fun b hb=>Nat.lt_of_lt_of_le (h.lt b hb) h1.below.size,h.old,fun k x hk=>?_,fun r=>by simp[St.scal,aD,cF],fun r x hr=>by simp[St.scal,aD] at hr⟩
  ·obtain⟨k1,k2⟩:=h.keep b hb ht;exact⟨k1,(h1.below.block b (Nat.lt_of_lt_of_le hb h.frm.size)).trans k2⟩
  ·obtain⟨k1,k2⟩:=h.kimm b hb;exact⟨k1,(hblk b (hi b k1)).trans k2⟩
  ·simp only[St.scal] at hk;rw[bT (fun x:AV=>x.scal)] at hk;cases hl:aD k τ.env with
   |none=>rw[hl] at hk;cases hk
   | some y =>
     rw[hl] at hk;simp only[Option.map_some,Option.some.injEq] at hk;subst hk;have hy:=(h1.env k y hl).1;generalize a'.tmps.getD k undef=vv at hy⊢;cases y with
     |sc v=>cases hy with|p v x hp=>cases hp with|sc v hv=>exact⟨.p _ _ (.sc _ hv),fun q hq=>by simp[AV.scal,AV.ments] at hq⟩
     |_=>exact⟨.p _ _ (.top _),fun q hq=>by simp[AV.scal,AV.ments] at hq⟩
def SU(ops:Array Oper):List (List Nat):=ops.toList.foldl (fun bs o=>bs++[o.after.toList.foldl (fun q e=>if Region.binds .any e then(if q.contains e.on then q else e.on::q)++((bs.getD e.on []).filter fun i=>!(i==e.on)&&!q.contains i) else q) []]) []
def bL(P:Program)(n:Nat):Code->au->Bool
 | .skip,.skip=>true
 | .region _ ops false,.reg aops can=>bO P n ops ops.toList aops&&can.all (Can.low n)
 | .region _ ops true,.drw aops can=>bO P n ops ops.toList aops&&fG ops (SU ops)&&(od aops (SU ops)||rD aops (SU ops))&&can.all (Can.low n)
 | .seq a b,.seq x y=>bL P n a x&&bL P n b y
 | .seq a b,.seqr x _ _ y=>bL P n a x&&bL P n b y
 | .seq a b,.seqb x _ y=>bL P n a x&&bL P n b y
 | .seq (.seq a b) c,.seqa x y _ _ z=>bL P n a x&&bL P n b y&&bL P n c z
 | .cond c a b,.cond x y z=>cz c x&&bL P n a y&&bL P n b z
 | .block id a,.blk id' x=>id==id'&&bL P n a x
 | .loop a,.loop x=>bL P n a x
 | .exit id,.exit id'=>id==id'
 | .ret,.ret=>true
 |_,_=>false
def noH:au->Bool
 | .seq a b=>noH a&&noH b
 | .seqr a _ _ b=>noH a&&noH b
 | .seqa x a _ _ b=>noH x&&noH a&&noH b
 | .seqb a _ _=>noH a
 | .cond _ a b=>noH a&&noH b
 | .blk _ a=>noH a
 | .loop a=>noH a
 |_=>true
theorem sV{H:Prop}{a b:au}{c:au}(h:H\/noH c=true)(e:noH c=(noH a&&noH b)):(H\/noH a=true)/\(H\/noH b=true):=by
 rcases h with h|h
 ·exact⟨.inl h,.inl h⟩
 ·rw[e,Bool.and_eq_true] at h;exact⟨.inr h.1,.inr h.2⟩
def QQ(n:Nat)(w0:World)(S0:Fx)(Q:Ex->St->Prop):Exit->Act->World->Prop
 | .normal,a,w=>∃τ,Q .nrm τ/\R n w0 S0 τ a w
 | .exit id,a,w=>∃τ,Q (.ex id) τ/\R n w0 S0 τ a w
 | .ret,a,w=>∃τ,Q .ret τ/\R n w0 S0 τ a w
 |_,_,_=>False
theorem mH{p:Nat->Prop}(h:∃m,p m):∃m,p m/\∀k,p k->m<=k:=by
 obtain⟨m,hm⟩:=h;induction m using Nat.strongRecOn with
 | _ m ih =>
   by_cases e:∃k,k<m/\p k
   ·obtain⟨k,hk,hp⟩:=e;exact ih k hk hp
   ·exact⟨m,hm,fun k hk=>Nat.le_of_not_lt fun h=>e ⟨k,h,hk⟩⟩
theorem oJ(bd:P.follows .mixedOrders=true):∀{c:Code}{ac:au}{Q:Ex->St->Prop}{σ:St}{a:Act}{w:World},bL P n c ac=true->(Hs S0\/noH ac=true)->AWP (OkT H P) ac Q σ->R n w0 S0 σ a w->c.wp P (QQ n w0 S0 Q) a w:=by
 intro c;induction c generalizing w0 S0 with
 | skip =>
   intro ac Q σ a w hm hh h hR;cases ac<;>simp[bL] at hm;exact wp_skip ⟨σ,h,hR⟩
 | region id ops draw =>
   intro ac Q σ a w hm hh h hR;cases ac<;>cases draw<;>simp only[bL,Bool.and_eq_true,Bool.false_eq_true,List.all_eq_true,decide_eq_true_eq] at hm
   ·exact DA hm.1 hR h fun τ a w hK hR'=>⟨_,hK,hR'.can (List.all_eq_true.2 hm.2)⟩
   ·exact DE bd hm.1.1.1 hm.1.1.2 hm.1.2 hR h fun τ a w hK hR'=>⟨_,hK,hR'.can (List.all_eq_true.2 hm.2)⟩
 | seq x y ihx ihy =>
   intro ac Q σ a w hm hh h hR;cases ac<;>(try simp only[bL,Bool.and_eq_true,Bool.false_eq_true] at hm)
   case seqa xa ya lv lr zb=>
    cases x<;>simp only[bL,Bool.and_eq_true,Bool.false_eq_true] at hm;rename_i p q;obtain⟨⟨m1,m2⟩,m3⟩:=hm;obtain⟨hh1,hh2⟩:=sV (a:=.seq xa ya) (b:=zb) hh (by simp[noH]);have e:(thn (AWP (OkT H P) ya (thn (fun τ=>τ.resOk lv lr/\AWP (OkT H P) zb Q (τ.res lv lr)) Q)) Q)=
     thn (AWP (OkT H P) ya (thn (fun τ=>τ.resOk lv lr/\AWP (OkT H P) zb Q (τ.res lv lr)) Q)) (thn (fun τ=>τ.resOk lv lr/\AWP (OkT H P) zb Q (τ.res lv lr)) Q):=by
     funext e τ;cases e<;>rfl
    simp only[AWP] at h;rw[e] at h;have hx:=ihx (ac:=.seq xa ya) (Q:=thn (fun τ=>τ.resOk lv lr/\AWP (OkT H P) zb Q (τ.res lv lr)) Q) (by simp only[bL,m1,m2,Bool.and_self]) hh1 (by simpa only[AWP] using h) hR;refine wp_seq (wp_mono hx fun e a w hq=>?_);cases e with
    |normal=>obtain⟨τ,h1,h2⟩:=hq;exact ihy m3 hh2 h1.2 (h2.res h1.1)
    |exit id=>obtain⟨τ,h1,h2⟩:=hq;exact⟨τ,h1,h2⟩
    |ret=>obtain⟨τ,h1,h2⟩:=hq;exact⟨τ,h1,h2⟩
    |goto l=>exact hq.elim
    |panic c=>exact hq.elim
    |outgrown=>exact hq.elim
   case seqr xa lv lr yb=>
    obtain⟨hh1,hh2⟩:=sV (a:=xa) (b:=yb) hh (by simp[noH]);simp only[AWP] at h;refine wp_seq (wp_mono (ihx hm.1 hh1 h hR) fun e a w hq=>?_);cases e with
    |normal=>obtain⟨τ,h1,h2⟩:=hq;exact ihy hm.2 hh2 h1.2 (h2.res h1.1)
    |exit id=>obtain⟨τ,h1,h2⟩:=hq;exact⟨τ,h1,h2⟩
    |ret=>obtain⟨τ,h1,h2⟩:=hq;exact⟨τ,h1,h2⟩
    |goto l=>exact hq.elim
    |panic c=>exact hq.elim
    |outgrown=>exact hq.elim
   case seqb xa lv yb=>
    refine wp_seq (wp_mono (ihx hm.1 (hh.imp_right fun h=>by simpa only[noH] using h) (by simpa only[AWP] using h) hR) fun e a w hq=>?_);cases e with
    | normal =>
      obtain⟨τ,h1,h2⟩:=hq;obtain⟨S1,s1,s4,s2,s3⟩:=h2.rb (H:=H) lv;refine wp_mono (ihy hm.2 (.inl s1) h1 s2) fun e a' w' hq=>?_;cases e with
      |normal=>obtain⟨τ,h1,h2⟩:=hq;exact⟨_,h1,s3 _ _ _ h2⟩
      |exit id=>obtain⟨τ,h1,h2⟩:=hq;exact⟨_,h1,s3 _ _ _ h2⟩
      |ret=>obtain⟨τ,h1,h2⟩:=hq;exact⟨_,h1,s3 _ _ _ h2⟩
      |goto l=>exact hq.elim
      |panic c=>exact hq.elim
      |outgrown=>exact hq.elim
    |exit id=>obtain⟨τ,h1,h2⟩:=hq;exact⟨τ,h1,h2⟩
    |ret=>obtain⟨τ,h1,h2⟩:=hq;exact⟨τ,h1,h2⟩
    |goto l=>exact hq.elim
    |panic c=>exact hq.elim
    |outgrown=>exact hq.elim
   case seq xa yb=>
    obtain⟨hh1,hh2⟩:=sV (a:=xa) (b:=yb) hh (by simp[noH]);refine wp_seq (wp_mono (ihx hm.1 hh1 h hR) fun e a w hq=>?_);cases e with
    |normal=>obtain⟨τ,h1,h2⟩:=hq;exact ihy hm.2 hh2 h1 h2
    |exit id=>obtain⟨τ,h1,h2⟩:=hq;exact⟨τ,h1,h2⟩
    |ret=>obtain⟨τ,h1,h2⟩:=hq;exact⟨τ,h1,h2⟩
    |goto l=>exact hq.elim
    |panic c=>exact hq.elim
    |outgrown=>exact hq.elim
 | cond c x y ihx ihy =>
   intro ac Q σ a w hm hh h hR;cases ac<;>simp only[bL,Bool.and_eq_true,Bool.false_eq_true] at hm;rename_i xa yb;obtain⟨hh1,hh2⟩:=sV (a:=xa) (b:=yb) hh (by simp[noH]);simp only[AWP,tst] at h;obtain⟨tag,β,hRR⟩:=id hR;have hx:=(hRR.gx hm.1.1).1;split at h
   ·rename_i t e;rw[e] at hx;exact wp_cond_split hx.bool_inv (fun ht=>ihx hm.1.2 hh1 (h.1 ht) hR) fun ht=>ihy hm.2 hh2 (h.2 ht) hR
   ·rename_i e;rw[e] at hx;obtain⟨t,ht⟩:=hx.ub_inv;exact wp_cond_split ht (fun _=>ihx hm.1.2 hh1 h.1 hR) fun _=>ihy hm.2 hh2 h.2 hR
   ·exact h.elim
 | block id x ihx =>
   intro ac Q σ a w hm hh h hR;cases ac<;>simp only[bL,Bool.and_eq_true,Bool.false_eq_true,beq_iff_eq] at hm;obtain⟨rfl,hm⟩:=hm;refine wp_block (wp_mono (ihx hm (by simpa[noH] using hh) h hR) fun e a w hq=>?_);cases e with
   |normal=>obtain⟨τ,h1,h2⟩:=hq;exact⟨τ,h1,h2⟩
   | exit j =>
     obtain⟨τ,h1,h2⟩:=hq;simp only[inb] at h1;simp only[Exit.inBlock];split
     ·rename_i e;rw[if_pos e] at h1;exact⟨τ,h1,h2⟩
     ·rename_i e;rw[if_neg e] at h1;exact⟨τ,h1,h2⟩
   |ret=>obtain⟨τ,h1,h2⟩:=hq;exact⟨τ,h1,h2⟩
   |goto l=>exact hq.elim
   |panic c=>exact hq.elim
   |outgrown=>exact hq.elim
 | loop x ihx =>
   intro ac Q σ a w hm hh h hR;cases ac<;>simp only[bL,Bool.false_eq_true] at hm;simp only[AWP] at h;obtain⟨lv,lr,I,μ,h1,h2,h3⟩:=h;let p:Act->World->Nat->Prop:=fun a w m=>∃τ,I τ/\R n w0 S0 τ a w/\μ τ=m;refine wp_loop (fun a w=>∃m,p a w m) (fun a w=>open Classical in if h:∃m,p a w m then Classical.choose (mH h) else 0) ⟨_,_,h2,hR.res h1,rfl⟩ ?_;intro a w hI;have hI':=hI;simp only[dif_pos hI];obtain⟨hp,hmin⟩:=Classical.choose_spec (mH hI);generalize Classical.choose (mH hI)=m at hp hmin;obtain⟨τ,i1,i2,i3⟩:=hp;refine wp_mono (ihx hm (by simpa[noH] using hh) (h3 τ i1) i2) fun e a' w' hq=>?_;cases e with
   | normal =>
     obtain⟨τ',⟨j1,j2,j3⟩,j4⟩:=hq;have hI2:∃m,p a' w' m:=⟨_,_,j2,j4.res j1,rfl⟩;refine⟨hI2,?_⟩;simp only[dif_pos hI2];obtain⟨_,hmin2⟩:=Classical.choose_spec (mH hI2);have:=hmin2 _ ⟨_,j2,j4.res j1,rfl⟩;omega
   |exit id=>obtain⟨τ,h1,h2⟩:=hq;exact⟨τ,h1,h2⟩
   |ret=>obtain⟨τ,h1,h2⟩:=hq;exact⟨τ,h1,h2⟩
   |goto l=>exact hq.elim
   |panic c=>exact hq.elim
   |outgrown=>exact hq.elim
 | exit id =>
   intro ac Q σ a w hm hh h hR;cases ac<;>simp only[bL,Bool.false_eq_true,beq_iff_eq] at hm;subst hm;exact wp_exit ⟨σ,h,hR⟩
 | ret =>
   intro ac Q σ a w hm hh h hR;cases ac<;>simp[bL] at hm;exact wp_ret ⟨σ,h,hR⟩
 |rangeFunc f ps asn body ih1 ih2=>intro ac Q σ a w hm hh h hR;cases ac<;>simp[bL] at hm
 |scope body ih=>intro ac Q σ a w hm hh h hR;cases ac<;>simp[bL] at hm
 |label l=>intro ac Q σ a w hm hh h hR;cases ac<;>simp[bL] at hm
 |goto l=>intro ac Q σ a w hm hh h hR;cases ac<;>simp[bL] at hm
 |refuse y=>intro ac Q σ a w hm hh h hR;cases ac<;>simp[bL] at hm
def JY(P:Program):ResultVar->RV->Bool
 | .tmp t,.t k=>t==k
 | .cell t ty,.c k s ag=>t==k&&kI P ty s&&pi P ty ag
 |_,_=>false
def qY(P:Program):List ResultVar->List RV->Bool
 |[],[]=>true
 |x::xs,y::ys=>JY P x y&&qY P xs ys
 |_,_=>false
theorem Hj(h:RR n w0 S0 σ a w tag β){x:ResultVar}{y:RV}(hm:JY P x y=true){z:AV}(hz:y.val σ=some z):
 ∃v,(match x with| .tmp t=>pure (a.tmps.getD t undef)| .cell t ty=>do loadVar ty (<-asAddr (a.tmps.getD t undef)):Sem Value).run P w=.ok v w/\Rep w (Imm tag) w0.heap.size β v z:=by
 cases x with
 | tmp t =>
   cases y<;>simp[JY] at hm;subst hm;simp only[RV.val,Option.some.injEq] at hz;subst hz;exact⟨_,rfl,(h.get t).1⟩
 | cell t ty =>
   cases y with
   |t k=>simp[JY] at hm
   | c k s ag =>
     simp only[JY,Bool.and_eq_true,beq_iff_eq] at hm;obtain⟨⟨rfl,h1⟩,h2⟩:=hm;simp only[RV.val] at hz;split at hz
     ·rename_i r e;split at hz
      ·rename_i y hy;have hr:=(h.get t).1;rw[e] at hr;obtain⟨b,p,v,hb,_,hva,hrv,hwd⟩:=h.var hy;obtain⟨b',o',sz',cap',len',hb',hv⟩:=h.pt_inv (by rw[hy];trivial) hr;rw[hb] at hb';cases hb';obtain⟨v',hrun,hr',_⟩:=re (P:=P) h1 h2 hrv hva hz;refine⟨v',?_,hr'⟩;dsimp only;rw[hv];simpa[Instr.loadAt,Instr.sureAddr,asAddr] using hrun
      ·cases hz
     ·cases hz
theorem lX(h:RR n w0 S0 σ a w tag β):∀{xs:List ResultVar}{ys:List RV}{zs:List AV},qY P xs ys=true->RVs.val σ ys=some zs->
 ∃vs:List Value,(xs.mapM fun| .tmp t=>pure (a.tmps.getD t undef)| .cell t ty=>do loadVar ty (<-asAddr (a.tmps.getD t undef)):Sem (List Value)).run P w=.ok vs w/\vs.length=zs.length/\∀(j:Nat)(z:AV),zs[j]?=some z->∃v,vs[j]?=some v/\Rep w (Imm tag) w0.heap.size β v z
 | [], [], zs, _, hz => by
   simp[RVs.val] at hz;subst hz;exact⟨[],by simp,rfl,by simp⟩
 | x :: xs, y :: ys, zs, hm, hz => by
   simp only[qY,Bool.and_eq_true] at hm;simp only[RVs.val] at hz;split at hz
   ·rename_i z zs' e1 e2;cases hz;obtain⟨v,h1,h2⟩:=Hj h hm.1 e1;obtain⟨vs,h3,h4,h5⟩:=lX h hm.2 e2;refine⟨v::vs,?_,by simp[h4],fun j z hj=>?_⟩
    ·simp only[List.mapM_cons,Sem.run_bind,h1,h3,Result.andThen_ok,Sem.run_pure]
    ·cases j with
     |zero=>simp at hj;subst hj;exact⟨v,rfl,h2⟩
     |succ j=>simp at hj;obtain⟨u,hu,hr⟩:=h5 j z hj;exact⟨u,by simpa using hu,hr⟩
   ·cases hz
 |[],_::_,_,hm,_=>by simp[qY] at hm
 |_::_,[],_,hm,_=>by simp[qY] at hm
theorem tI{zs:List AV}{vs:List Value}{S:Nat->Prop}{B:Nat}(hl:vs.length=zs.length)(h:∀(j:Nat)(z:AV),zs[j]?=some z->∃v,vs[j]?=some v/\Rep w S B β v z):
 Rep w S B β (if h:vs.toArray.size=1 then vs.toArray[0] else .tuple vs.toArray) (gl zs)/\(gl zs).ments=aN zs:=by
 match zs,vs,hl with
 | [z], [v], _ =>
   obtain⟨u,hu,hr⟩:=h 0 z rfl;simp at hu;subst hu;exact⟨by simpa[gl] using hr,by simp[gl,aN]⟩
 |[],[],_=>exact⟨.tup _ _ rfl (by simp),by simp[gl,AV.ments]⟩
 | z :: z' :: zs, v :: v' :: vs, hl =>
   refine⟨?_,by simp[gl,AV.ments]⟩;rw[dif_neg (by simp)];refine .tup _ _ (by simpa using hl) fun j x hj=>?_;obtain⟨u,hu,hr⟩:=h j x hj;have:(v::v'::vs).toArray.getD j undef=u:=by
    rw[Array.getD_eq_getD_getElem?,List.getElem?_toArray,hu];rfl
   rw[this];exact hr
def bh(P:Program)(f k:Nat)(A:au)(V:List RV):Bool:=match P.funcs[f]? with
 |some fn=> !(fn.name== "runtime.NumGoroutine")&&decide (k<=fn.ntmps)&&decide (fn.ntmps<=1000000000)&&qY P fn.results.toList V&&(match fn.body with|some c=>bL P fn.ntmps c A|none=>false)
 |none=>false
theorem kH(k:Nat):∀(args:List AV)(i:Nat),aD k (St.start.go i args)=if i<=k then args[k-i]? else none
 |[],i=>by simp[St.start.go,aD]
 | x :: args, i => by
   simp only[St.start.go,aD,kH k args (i+1)];by_cases h:i=k
   ·subst h;simp
   ·rw[if_neg h];by_cases h1:i+1<=k
    ·rw[if_pos h1,if_pos (by omega),show k-i=k-(i+1)+1 by omega];simp
    ·rw[if_neg h1,if_neg (by omega)]
theorem ua(bd:P.follows .mixedOrders=true){f k:Nat}{A:au}{V:List RV}{args:List AV}{res:AV}(hm:bh P f k A V=true)(hl:args.length=k){H:World->Prop}(h:Up (OkT H P) A V args res):OkR H P f args res:=by
 classical
 unfold bh at hm;split at hm
 ·rename_i fn hf;split at hm
  ·rename_i c hc;simp only[Bool.and_eq_true,Bool.not_eq_true',decide_eq_true_eq] at hm;obtain⟨⟨⟨⟨m1,m2⟩,m5⟩,m3⟩,m4⟩:=hm;refine⟨⟨fn,hf,by rw[hc];rfl,m1⟩,fun w S vs hS hvs hat hH=>?_⟩;refine calls_of_wp hf hc ?_;let tg:Nat->Tag:=fun b=>if S b then .imm else .out
   haveI:HS ⟨S,w,tg,fun _=>none⟩ H:=⟨fun W hW=>hH W fun b hb=>hW b (.inl (by simp[tg,hb]))⟩
   have hR:R fn.ntmps w ⟨S,w,tg,fun _=>none⟩ (St.start args) {tmps:=vs++Array.replicate (fn.ntmps-vs.size) undef,defers:=[]} w:=by
    refine⟨tg,fun _=>none,m5,.refl _ _,fun b _ _=>⟨rfl,rfl⟩,fun b hb=>⟨hb,rfl⟩,fun r _ hl=>by simp[St.start,aD,cL] at hl,.refl _ _,by simp;omega,rfl,hS,fun b hb=>?_,fun b hb=>?_,fun j x hj=>?_,fun r=>?_,fun r x hr=>by simp[St.start,aD] at hr⟩
    ·by_cases e:S b
     ·exact hS b e
     ·simp[tg,e] at hb
    ·by_cases e:S b<;>simp[tg,e]
    ·simp only[St.start,kH,Nat.zero_le,if_true,Nat.sub_zero] at hj;have hr:=hat j x hj;have hjl:j<vs.size:=by rw[hvs];exact(List.getElem?_eq_some_iff.1 hj).1
     have e:(vs++Array.replicate (fn.ntmps-vs.size) undef).getD j undef=vs.getD j undef:=by
      rw[Array.getD_eq_getD_getElem?,Array.getD_eq_getD_getElem?,Array.getElem?_append_left hjl]
     refine⟨?_,fun q hq=>by rw[hr.ments_nil] at hq;cases hq⟩;dsimp only;rw[e];exact .p _ _ (hr.mono fun b hb=>⟨.inl (by simp[tg,hb]),rfl⟩)
    ·simp[St.start,aD,cF]
   refine wp_mono (oJ bd m4 (.inl fun b hb=>by
    by_cases e:S b
    ·exact⟨by simp[tg,e],hS b e⟩
    ·simp[Imm,tg,e] at hb) h hR) fun e a' w' hq=>?_
   have fin:∀τ,(∃xs,RVs.val τ V=some xs/\(aN xs).Nodup/\lift τ.row 3 (gl xs)=res)->R fn.ntmps w ⟨S,w,tg,fun _=>none⟩ τ a' w'->
    a'.defers = [] ∧ ∃ v, (results fn a'.tmps).run P w' = .ok v w' ∧ ∃ u fp S', (Ending.returned v) = .returned u ∧ Below w.heap.size w w' ∧ fp.Nodup ∧
      (∀b,S' b->b<w'.heap.size/\(b<w.heap.size->S b))/\bb w' S' w.heap.size u res fp:=by
    rintro τ ⟨xs,x1,x2,x3⟩ ⟨tag,β,hRR⟩;refine⟨hRR.nodef,?_⟩;obtain⟨vs',v1,v2,v3⟩:=lX hRR m3 x1;obtain⟨t1,t2⟩:=tI v2 v3;refine⟨if h:vs'.toArray.size=1 then vs'.toArray[0] else .tuple vs'.toArray,?_,?_⟩
    ·unfold results;have e:fn.results=fn.results.toList.toArray:=by simp
     rw[e,List.mapM_toArray];simp only[Sem.run_bind,Sem.run_map];exact congrArg (fun r:Result (List Value)=>(r.andThen fun a w'=>Result.ok a.toArray w').andThen fun a w'=>(pure (if h:a.size=1 then a[0] else Value.tuple a):Sem Value).run P w') v1
    ·obtain⟨fp,l1,l2,l3⟩:=hRR.lift (rs:=(gl xs).ments) (d:=0) 3 (gl xs) _ t1 (by rw[t2];exact x2) (fun r hr=>hr);rw[x3] at l1;refine⟨_,fp,_,rfl,hRR.below,l2,fun b hb=>?_,l1⟩;have hne:tag b≠.out:=by
      refine kN (rs:=(gl xs).ments) (d:=0) ?_;rcases hb with e|⟨r,e⟩<;>rw[e]<;>simp
     refine⟨hRR.lt b hne,fun hlt=>?_⟩;have:=(hRR.old b hlt);exact this.1.1 (this.2.resolve_right hne)
   cases e with
   |normal=>obtain⟨τ,h1,h2⟩:=hq;exact fin τ h1 h2
   |ret=>obtain⟨τ,h1,h2⟩:=hq;exact fin τ h1 h2
   |exit id=>obtain⟨τ,h1,h2⟩:=hq;exact h1.elim
   |goto l=>exact hq.elim
   |panic c=>exact hq.elim
   |outgrown=>exact hq.elim
  ·simp at hm
 ·cases hm
def uw(rs:List RV)(lr:List Nat)(res:AV)(outs:List (Nat×Row)):Ex->St->Prop
 | .nrm,σ| .ret,σ=>∃xs,RVs.val σ rs=some xs/\gl xs=res/\σ.resOk [] lr/\(∀r∈res.ments,r∈lr)/\(σ.res [] lr).rows=outs
 |_,_=>False
theorem sH(bd:P.follows .mixedOrders=true){f k:Nat}{A:au}{V:List RV}{lr:List Nat}{args:List AV}{ins:List (Nat×Row)}{res:AV}{outs:List (Nat×Row)}
 (hm:bh P f k A V=true) (hn:noH A=true) (hl:args.length=k) {H:World->Prop} (h:AWP (OkT H P) A (uw V lr res outs) ⟨St.start.go 0 args,ins⟩):Tl H P f args ins res outs:=by
 classical
 unfold bh at hm;split at hm
 ·rename_i fn hf;split at hm
  ·rename_i c hc;simp only[Bool.and_eq_true,Bool.not_eq_true',decide_eq_true_eq] at hm;obtain⟨⟨⟨⟨m1,m2⟩,m5⟩,m3⟩,m4⟩:=hm;refine⟨⟨fn,hf,by rw[hc];rfl,m1⟩,fun w0 w tag β vs hbel hold hlt hrows hwf hvs hat hH=>?_⟩;refine calls_of_wp hf hc ?_;let F:Fx:=⟨fun b=>b<w0.heap.size/\tag b=.imm,w,tag,β⟩
   haveI:HS F H:=⟨hH⟩
   have hR:R fn.ntmps w0 F ⟨St.start.go 0 args,ins⟩ {tmps:=vs++Array.replicate (fn.ntmps-vs.size) undef,defers:=[]} w:=by
    refine⟨tag,β,m5,.refl _ _,fun b _ _=>⟨rfl,rfl⟩,fun b hb=>⟨hb,rfl⟩,fun r _ _=>rfl,hbel,by simp;omega,rfl,fun b hb=>hb.1,hlt,fun b hb=>⟨⟨fun e=>⟨hb,e⟩,fun e=>e.2⟩,hold b hb⟩,fun j x hj=>?_,hrows,hwf⟩;simp only[kH,Nat.zero_le,if_true,Nat.sub_zero] at hj;obtain⟨hr,hd⟩:=hat j x hj;have hjl:j<vs.size:=by rw[hvs];exact(List.getElem?_eq_some_iff.1 hj).1
    have e:(vs++Array.replicate (fn.ntmps-vs.size) undef).getD j undef=vs.getD j undef:=by
     rw[Array.getD_eq_getD_getElem?,Array.getD_eq_getD_getElem?,Array.getElem?_append_left hjl]
    refine⟨?_,hd⟩;dsimp only;rw[e];exact hr
   refine wp_mono (oJ bd m4 (.inr hn) h hR) fun e a' w' hq=>?_;have fin:∀τ,(∃xs,RVs.val τ V=some xs/\gl xs=res/\τ.resOk [] lr/\(∀r∈res.ments,r∈lr)/\(τ.res [] lr).rows=outs)->R fn.ntmps w0 F τ a' w'->
    a'.defers=[]/\∃v,(results fn a'.tmps).run P w'=.ok v w'/\∃u tag' β',(Ending.returned v)=.returned u/\Below 0 w w'/\(∀b,b<w.heap.size->tag b=.imm\/tag b=.out->tag' b=tag b/\w'.heap[b]?=w.heap[b]?)/\
   (∀b,Imm tag b->Imm tag' b/\w'.heap[b]?=w.heap[b]?)/\(∀b,tag' b≠.out->b<w'.heap.size)/\(∀r,cF w' tag' w0.heap.size β' r (aD r outs))/\Wf outs/\
   (∀r,1000000000<=r->cL (aD r outs)->β' r=β r)/\Rep w' (Imm tag') w0.heap.size β' u res/\∀r∈res.ments,(aD r outs).isSome:=by
    rintro τ ⟨xs,x1,x2,x3,x4,x5⟩ ⟨tag1,β1,hRR⟩;refine⟨hRR.nodef,?_⟩;obtain⟨vs',v1,v2,v3⟩:=lX hRR m3 x1;obtain⟨t1,t2⟩:=tI v2 v3;obtain⟨tag2,β2,hR2,htr⟩:=hRR.res x3;refine⟨if h:vs'.toArray.size=1 then vs'.toArray[0] else .tuple vs'.toArray,?_,_,tag2,β2,rfl,hR2.frm,hR2.keep,hR2.kimm,hR2.lt,?_,?_,?_,?_,?_⟩
    ·unfold results;have e:fn.results=fn.results.toList.toArray:=by simp
     rw[e,List.mapM_toArray];simp only[Sem.run_bind,Sem.run_map];exact congrArg (fun r:Result (List Value)=>(r.andThen fun a w'=>Result.ok a.toArray w').andThen fun a w'=>(pure (if h:a.size=1 then a[0] else Value.tuple a):Sem Value).run P w') v1
    ·rw[<-x5];exact hR2.rows
    ·rw[<-x5];exact hR2.wfr
    ·rw[<-x5];exact hR2.bk
    ·rw[<-x2];exact htr _ _ t1 (by rw[x2];exact x4)
    ·intro r hr;rw[<-x5];show(aD r (lr.map fun q=>(q,(τ.row q).getD .dead))).isSome;rw[gX,if_pos (x4 r hr)];rfl
   cases e with
   |normal=>obtain⟨τ,h1,h2⟩:=hq;exact fin τ h1 h2
   |ret=>obtain⟨τ,h1,h2⟩:=hq;exact fin τ h1 h2
   |exit id=>obtain⟨τ,h1,h2⟩:=hq;exact h1.elim
   |goto l=>exact hq.elim
   |panic c=>exact hq.elim
   |outgrown=>exact hq.elim
  ·simp at hm
 ·cases hm
theorem aA(bd:P.follows .mixedOrders=true){f k:Nat}{A:au}{V:List RV}{args:List AV}{res:AV}(hm:bh P f k A V=true)(hl:args.length=k)(h:Up (OkS P) A V args res):Ok P f args res:=
 ua (H:=fun _=>True) bd hm hl h
theorem aZ(bd:P.follows .mixedOrders=true){f k:Nat}{A:au}{V:List RV}{lr:List Nat}{args:List AV}{ins:List (Nat×Row)}{res:AV}{outs:List (Nat×Row)}
 (hm:bh P f k A V=true) (hn:noH A=true) (hl:args.length=k) (h:AWP (OkS P) A (uw V lr res outs) ⟨St.start.go 0 args,ins⟩):OkM P f args ins res outs:=
 sH (H:=fun _=>True) bd hm hn hl h
end Vs

namespace Vs
open Go Go.RowKit
inductive Lf where
 |int (k:IntKind)
 |bool
 |str
 |sl (ag:Bool) (ls:List Lf)
mutual
def Du:Lf->AV->Prop
 | .int k,a=>∃n,a=.sc (.int k n)/\(Lit.int k n).wf=true
 | .bool,a=>∃b,a=.sc (.bool b)
 | .str,a=>∃s,a=.sc (.string s)/\s.size<=maxLen
 | .sl ag ls,a=>∃xs,a=.lst .o ls.length xs/\xs.length<=maxLen/\∀x∈xs,(ag=true->∃cs,x=.agg cs/\db ls cs)/\(ag=false->db ls [x])
def db:List Lf->List AV->Prop
 |[],[]=>True
 |l::ls,a::al=>Du l a/\db ls al
 |_,_=>False
end
mutual
def lfs(P:Program):Nat->TypeId->Option (Bool×List Lf)
 |0,_=>none
 | k + 1, t => match P.underlying t with
   |some .bool=>some (false,[.bool])
   |some (.int kd)=>some (false,[.int kd])
   |some .string=>some (false,[.str])
   | some (.slice e) => match lfs P k e with
     |some (ag,ls)=>if P.cellsOf e=ls.length/\0<ls.length/\(ag=false->ls.length=1) then some (false,[.sl ag ls]) else none
     |none=>none
   | some (.struct fs) => match pQ P k 0 fs.toList with
     |some ls=>if P.cellsOf t=ls.length then some (true,ls) else none
     |none=>none
   |_=>none
def pQ(P:Program):Nat->Nat->List Field->Option (List Lf)
 |_,_,[]=>some []
 |0,_,_=>none
 | k + 1, off, f :: fs => match lfs P k f.type with
   |some (_,ls)=>if f.offset=off/\P.cellsOf f.type=ls.length then
    match pQ P k (off+ls.length) fs with
    |some ms=>some (ls++ms)
    |none=>none
     else none
   |none=>none
end
theorem rv:∀{ls:List Lf}{al:List AV},db ls al->ls.length=al.length
 |[],[],_=>rfl
 |l::ls,a::al,h=>by simp only[db] at h;simp[rv h.2]
 |[],_::_,h=>by simp[db] at h
 |_::_,[],h=>by simp[db] at h
theorem lk:∀{ls ms:List Lf}{al bs:List AV},db ls al->db ms bs->db (ls++ms) (al++bs)
 |[],ms,[],bs,_,h=>h
 | l :: ls, ms, a :: al, bs, h, h' => by
   simp only[db] at h;simp only[List.cons_append,db];exact⟨h.1,lk h.2 h'⟩
 |[],_,_::_,_,h,_=>by simp[db] at h
 |_::_,_,[],_,h,_=>by simp[db] at h
def eD(w:World)(S:Nat->Prop)(cs:List Value)(ls:List Lf):Prop:=
 ∃al,db ls al/\cs.length=al.length/\∀(j:Nat)(v:Value)(a:AV),cs[j]?=some v->al[j]?=some a->bb w S w.heap.size v a []/\v.oneCell'=true
theorem eD.one{w:World}{S:Nat->Prop}{v:Value}{l:Lf}{a:AV}(h:Du l a)(hr:bb w S w.heap.size v a [])(h1:v.oneCell'=true):eD w S [v] [l]:=
 ⟨[a], by simp only [db]; exact ⟨h, trivial⟩, rfl, fun j u b hj hb => by
   cases j with
   |zero=>simp at hj hb;subst hj;subst hb;exact⟨hr,h1⟩
   |succ j=>simp at hj⟩
theorem eD.append{w:World}{S:Nat->Prop}{cs ds:List Value}{ls ms:List Lf}(h:eD w S cs ls)(h':eD w S ds ms):eD w S (cs++ds) (ls++ms):=by
 obtain⟨al,f1,l1,r1⟩:=h;obtain⟨bs,f2,l2,r2⟩:=h';refine⟨al++bs,lk f1 f2,by simp[l1,l2],fun j v a hv ha=>?_⟩;by_cases hj:j<cs.length
 ·rw[List.getElem?_append_left hj] at hv;rw[List.getElem?_append_left (by omega)] at ha;exact r1 j v a hv ha
 ·rw[List.getElem?_append_right (by omega)] at hv;rw[List.getElem?_append_right (by omega)] at ha;rw[<-l1] at ha;exact r2 _ v a hv ha
section
variable{H:Type}{enc:TypeId×Value->H}{P:Program}{w:World}{base:Nat}{spare:Nat->Bool}{held:Bool}{S:Nat->Prop}
theorem jk(b o i:Nat):(⟨b,o,none⟩:Addr).add i=⟨b,o+i,none⟩:=by
 simp[Addr.add_lit]
theorem Aq{a:Addr}{v:Value}(h:w.cell? a=some v):a.block<w.heap.size/\a.spot=none:=by
 unfold World.cell? at h;split at h
 ·rename_i e;refine⟨(Array.getElem?_eq_some_iff.1 e).1,?_⟩;cases hs:a.spot with
  |none=>rfl
  |some s=>simp[hs] at h
 ·cases h
theorem oY(hS:∀b,b<w.heap.size->S b):∀(k:Nat),
 (∀(fuel:Nat)(t:TypeId)(cs:List Value)(x:DataW H×List MemPlace)(ag:Bool)(ls:List Lf),DataW.trod enc P w base spare held fuel t cs=some x->lfs P k t=some (ag,ls)->eD w S cs ls)/\
 (∀(fs:List Field)(off fuel:Nat)(cs:List Value)(ls:List Lf),pQ P k off fs=some ls->(∀f∈fs,∃x,DataW.trod enc P w base spare held fuel f.type ((cs.drop f.offset).take (P.cellsOf f.type))=some x)->
  off+ls.length<=cs.length->eD w S ((cs.drop off).take ls.length) ls)
 | 0 => by
   refine⟨fun fuel t cs x ag ls h hl=>by simp[lfs] at hl,fun fs off fuel cs ls hl _ _=>?_⟩;cases fs with
   |nil=>simp[pQ] at hl;subst hl;exact⟨[],by simp[db],by simp,by simp⟩
   |cons f fs=>simp[pQ] at hl
 | k + 1 => by
   obtain⟨ih1,ih2⟩:=oY hS k;constructor
   ·intro fuel t cs x ag ls h hl;simp only[lfs] at hl;split at hl
    ·rename_i hu;cases hl;obtain⟨b,rfl,_⟩:=DataW.trod_bool hu h;exact .one ⟨b,rfl⟩ (.sc _ rfl) rfl
    ·rename_i kd hu;cases hl;obtain⟨n,rfl,_,hw⟩:=DataW.trod_int hu h;exact .one ⟨n,rfl,hw⟩ (.sc _ rfl) rfl
    ·rename_i hu;cases hl;obtain⟨z,rfl,_,hw⟩:=DataW.trod_string hu h;exact .one ⟨z,rfl,hw⟩ (.sc _ rfl) rfl
    ·rename_i e hu;split at hl
     ·rename_i ag' ls' he;split at hl
      ·rename_i hc;obtain⟨c1,c2,c3⟩:=hc;cases hl;rcases Go.Deep.open_slice hu h with⟨rfl,_⟩|⟨a,len,cap,m,n,D,Pl,rfl,hb,hle,hmx,hm,_,hx⟩
       ·exact .one ⟨[],rfl,Nat.zero_le _,by simp⟩ (.nil0 _ _) rfl
       ·have hlm:len<=m:=by rw[hm];split<;>omega
        have hsa0:0<len->a.spot=none:=by
         intro h0;obtain⟨cs',h1,_⟩:=hx 0 (by omega);rw[c1] at h1;obtain⟨_,hlen,hcell⟩:=World.cells?_some h1;have:=hcell 0 c2;rw[List.getElem?_eq_getElem (by omega)] at this;have:=(Aq this).2;simpa[Addr.add] using this
        -- the elements
        have hel:∀i,i<len->∃(v:Value)(y:AV),bb w S w.heap.size v y []/\v.cells.size=ls'.length/\((ag'=true->∃cs,y=.agg cs/\db ls' cs)/\(ag'=false->db ls' [y]))/\
         (∀j u,v.cells[j]?=some u->w.cell? (a.add (i*ls'.length+j))=some u/\u.oneCell'=true):=by
         intro i hi;obtain⟨cs',h1,h2⟩:=hx i (by omega);rw[c1] at h1;obtain⟨_,hlen,hcell⟩:=World.cells?_some h1;obtain⟨al,f1,f2,f3⟩:=ih1 n e cs' _ ag' ls' h2 he;have hll:=rv f1;have hcl:∀j u,cs'[j]?=some u->w.cell? (a.add (i*ls'.length+j))=some u/\u.oneCell'=true:=by
          intro j u hj;have hjl:j<ls'.length:=by rw[<-hlen];exact(List.getElem?_eq_some_iff.1 hj).1
          refine⟨?_,(f3 j u al[j] hj (List.getElem?_eq_getElem (by omega))).2⟩;have:=hcell j hjl;rw[hj] at this;rw[<-this];congr 1;have hsa:=hsa0 (by omega);obtain⟨b,o,sp⟩:=a;simp only at hsa;subst hsa;rw[jk,jk,jk,Nat.add_assoc]
         cases ag' with
         | true =>
           have:=bb.agg (w:=w) (S:=S) (B:=w.heap.size) cs'.toArray al (fun _=>[]) (by simpa using f2) (fun x hx=>by
            obtain⟨j,hj,rfl⟩:=List.getElem_of_mem (by simpa using hx:x∈cs');exact(f3 j _ al[j] (List.getElem?_eq_getElem hj) (List.getElem?_eq_getElem (by omega))).2)
            (fun j x hj=>by
             have hjl:j<cs'.length:=by rw[f2];exact(List.getElem?_eq_some_iff.1 hj).1
             have e:cs'.toArray.getD j undef=cs'[j]:=by simp[hjl]
             rw[e];exact(f3 j _ x (List.getElem?_eq_getElem hjl) hj).1)
           rw[bD _ _ fun _ _=>rfl] at this;exact⟨.agg cs'.toArray,.agg al,this,by simp[Value.cells,hlen],⟨fun _=>⟨al,rfl,f1⟩,(fun e=>by cases e)⟩,fun j u hj=>hcl j u (by simpa[Value.cells] using hj)⟩
         | false =>
           have hl1:=c3 rfl
           match cs',al,hlen,f2,f1 with
           | [v], [y], _, _, f1 =>
             obtain⟨r1,r2⟩:=f3 0 v y rfl rfl;have hvc:v.cells=#[v]:=mg r2;refine⟨v,y,r1,by rw[hvc,hl1];rfl,⟨(fun e=>by cases e),fun _=>f1⟩,fun j u hj=>?_⟩;rw[hvc] at hj;exact hcl j u (by simpa using hj)
           |[],_,hlen,_,_=>simp at hlen;omega
           |_::_::_,_,hlen,_,_=>simp at hlen;omega
           |[_],[],_,f2,_=>simp at f2
           |[_],_::_::_,_,f2,_=>simp at f2
        rcases Nat.eq_zero_or_pos len with hl0|hl0
        ·subst hl0;exact .one ⟨[],rfl,Nat.zero_le _,by simp⟩ (.nil _ _ _ _ ⟨fun e=>by(cases e),fun e=>by(cases e)⟩) rfl
        ·have hex:∃(vs:Nat->Value)(ys:Nat->AV),∀i,i<len->bb w S w.heap.size (vs i) (ys i) []/\(vs i).cells.size=ls'.length/\((ag'=true->∃cs,ys i=.agg cs/\db ls' cs)/\(ag'=false->db ls' [ys i]))/\
          (∀j u,(vs i).cells[j]?=some u->w.cell? (a.add (i*ls'.length+j))=some u/\u.oneCell'=true):=by
          classical
          refine⟨fun i=>if h:i<len then Classical.choose (hel i h) else undef,fun i=>if h:i<len then Classical.choose (Classical.choose_spec (hel i h)) else .top,fun i hi=>?_⟩;simp only[dif_pos hi];exact Classical.choose_spec (Classical.choose_spec (hel i hi))
         obtain⟨vs,ys,hvs⟩:=hex;obtain⟨p0,p1,_,p3⟩:=hvs 0 hl0;have h0:=p3 0 ((vs 0).cells[0]'(by omega)) (Array.getElem?_eq_getElem (by omega));have hsp:=Aq h0.1;have hsa:=hsa0 hl0;have hbl:a.block<w.heap.size:=by
          have:=hsp.1;obtain⟨b,o,sp⟩:=a;simp only at hsa;subst hsa;rw[jk] at this;exact this
         obtain⟨b,o,sp⟩:=a;simp only at hsa hbl;subst hsa;have:=bb.lst (w:=w) (S:=S) (B:=w.heap.size) .o ls'.length b o len cap ((List.range len).map ys) vs (fun _=>[]) (by simp) hle ⟨hS b hbl,hbl⟩ (fun e=>by cases e)
          (fun j x hj=>by
           have hjl:j<len:=by simpa using(List.getElem?_eq_some_iff.1 hj).1
           refine⟨(hvs j hjl).2.1,fun i u hu=>?_⟩;have:=(hvs j hjl).2.2.2 i u hu;rw[jk] at this;rw[Nat.add_assoc];exact this)
          (fun j x hj=>by
           have hjl:j<len:=by simpa using(List.getElem?_eq_some_iff.1 hj).1
           simp only[List.getElem?_map,List.getElem?_range hjl,Option.map_some,Option.some.injEq] at hj;subst hj;exact(hvs j hjl).1)
         rw[bD _ _ fun _ _=>rfl,if_neg (by intro e;cases e)] at this;refine .one ⟨_,rfl,by simp;omega,fun x hx=>?_⟩ this rfl;obtain⟨i,hi,rfl⟩:=List.mem_map.1 hx;exact(hvs i (by simpa using hi)).2.2.1
      ·cases hl
     ·cases hl
    ·rename_i fs hu;split at hl
     ·rename_i ls' hf;split at hl
      ·rename_i hc;cases hl;obtain⟨xs,n,_,_,hlen,hxs,hat⟩:=DataW.trod_struct hu h;have:=ih2 fs.toList 0 n cs ls hf (fun f hfm=>by
        obtain⟨i,hi,rfl⟩:=List.getElem_of_mem hfm;have hi':i<fs.size:=by simpa using hi
        have:=hat i fs[i] (Array.getElem?_eq_getElem hi');rw[List.getElem?_eq_getElem (by omega)] at this;exact⟨_,by simpa using this⟩) (by rw[hlen,hc];omega)
       have e:(cs.drop 0).take ls.length=cs:=by rw[List.drop_zero,<-hc,<-hlen,List.take_length]
       rwa[e] at this
      ·cases hl
     ·cases hl
    ·cases hl
   ·intro fs off fuel cs ls hl hat hle;cases fs with
    |nil=>simp[pQ] at hl;subst hl;exact⟨[],by simp[db],by simp,by simp⟩
    | cons f fs =>
      simp only[pQ] at hl;split at hl
      ·rename_i ag' ls' he;split at hl
       ·rename_i hc;obtain⟨c1,c2⟩:=hc;split at hl
        ·rename_i ms hms;cases hl;obtain⟨x,hx⟩:=hat f (by simp);rw[c1,c2] at hx;have r1:=ih1 fuel f.type _ x ag' ls' hx he;have r2:=ih2 fs (off+ls'.length) fuel cs ms hms (fun g hg=>hat g (by simp[hg])) (by simp at hle;omega);have:=r1.append r2;have e:(cs.drop off).take ls'.length++(cs.drop (off+ls'.length)).take ms.length=(cs.drop off).take (ls'++ms).length:=by
          rw[List.length_append,List.take_add,List.drop_drop]
         rwa[e] at this
        ·cases hl
       ·cases hl
      ·cases hl
theorem Lw(hS:∀b,b<w.heap.size->S b){k:Nat}{t:TypeId}{v:Value}{d:DataW H}{ps:List MemPlace}{ag:Bool}{ls:List Lf}(h:DataW.Trod enc P w base spare held t v d ps)(hl:lfs P k t=some (ag,ls))
 (hag:ag=true->∃cs,v=.agg cs) (hag':ag=false->v.cells=#[v]/\ls.length=1):
 ∃y,bb w S w.heap.size v y []/\(ag=true->∃cs,y=.agg cs/\db ls cs)/\(ag=false->db ls [y]):=by
 obtain⟨fuel,h⟩:=h;obtain⟨al,f1,f2,f3⟩:=(oY hS k).1 fuel t _ _ ag ls h hl;cases ag with
 | true =>
   obtain⟨cs,rfl⟩:=hag rfl;simp only[Value.cells] at f2 f3;have:=bb.agg (w:=w) (S:=S) (B:=w.heap.size) cs al (fun _=>[]) (by simpa using f2) (fun x hx=>by
    obtain⟨j,hj,rfl⟩:=Array.mem_iff_getElem.1 hx;have hjl:j<al.length:=by rw[<-f2];simpa using hj
    exact(f3 j cs[j] al[j] (by simp[hj]) (List.getElem?_eq_getElem hjl)).2)
    (fun j x hj=>by
     have hjl:j<cs.size:=by have:=(List.getElem?_eq_some_iff.1 hj).1;rw[<-f2] at this;simpa using this
     have e:cs.getD j undef=cs[j]:=by simp[hjl]
     rw[e];exact(f3 j _ x (by simp[hjl]) hj).1)
   rw[bD _ _ fun _ _=>rfl] at this;exact⟨_,this,fun _=>⟨al,rfl,f1⟩,(fun e=>by cases e)⟩
 | false =>
   obtain⟨h1,h2⟩:=hag' rfl;rw[h1] at f2 f3
   match al,f2,f1 with
   |[y],_,f1=>exact⟨y,(f3 0 v y rfl rfl).1,(fun e=>by cases e),fun _=>f1⟩
end
end Vs

namespace Vs
open Go Go.RowKit
section
variable{H:Type}{enc:TypeId×Value->H}{P:Program}{w w':World}{base:Nat}{sp:Nat->Bool}{held:Bool}
theorem mX{fs:Array Field}{t:TypeId}{n:Nat}{cs:List Value}{x:DataW H×List MemPlace}(ht:P.underlying t=some (.struct fs))(h:DataW.trod enc P w base sp held (n+1) t cs=some x):
 ∃xs,fs.toList.mapM (fun f=>DataW.trod enc P w base sp held n f.type ((cs.drop f.offset).take (P.cellsOf f.type)))=some xs/\x=(.agg (xs.map (·.1)),xs.flatMap (·.2))/\cs.length=P.cellsOf t:=by
 unfold DataW.trod at h;rw[ht] at h;split at h<;>simp_all;obtain⟨hl,xs,hp,hd⟩:=h;exact⟨xs,hp,hd.symm⟩
theorem yY:∀(k:Nat),
 (∀(fuel:Nat)(t:TypeId)(cs:List Value)(x:DataW H×List MemPlace)(ag:Bool)(ls:List Lf),DataW.trod enc P w base (fun _=>true) held fuel t cs=some x->lfs P k t=some (ag,ls)->
  (∀p∈x.2,sp p.block=true)->DataW.trod enc P w base sp held fuel t cs=some x)/\
 (∀(fs:List Field)(off fuel:Nat)(cs:List Value)(ls:List Lf)(xs:List (DataW H×List MemPlace)),pQ P k off fs=some ls->
  fs.mapM (fun f=>DataW.trod enc P w base (fun _=>true) held fuel f.type ((cs.drop f.offset).take (P.cellsOf f.type)))=some xs->(∀x∈xs,∀p∈x.2,sp p.block=true)->
  fs.mapM (fun f=>DataW.trod enc P w base sp held fuel f.type ((cs.drop f.offset).take (P.cellsOf f.type)))=some xs)
 | 0 => by
   refine⟨fun fuel t cs x ag ls h hl=>by simp[lfs] at hl,fun fs off fuel cs ls xs hl hm _=>?_⟩;cases fs with
   |nil=>simpa using hm
   |cons f fs=>simp[pQ] at hl
 | k + 1 => by
   obtain⟨ih1,ih2⟩:=yY k;constructor
   ·intro fuel t cs x ag ls h hl hs;cases fuel with
    |zero=>simp[DataW.trod] at h
    |succ fuel=>
    simp only[lfs] at hl;split at hl
    ·rename_i hu;obtain⟨b,rfl,rfl⟩:=DataW.trod_bool hu h;simp only[DataW.trod,hu]
    ·rename_i kd hu;obtain⟨n,rfl,rfl,hw⟩:=DataW.trod_int hu h;simp only[DataW.trod,hu];simp[hw]
    ·rename_i hu;obtain⟨z,rfl,rfl,hw⟩:=DataW.trod_string hu h;simp only[DataW.trod,hu];simp[hw]
    ·rename_i e hu;split at hl
     ·rename_i ag' ls' he;split at hl
      ·rename_i hc;obtain⟨c1,c2,c3⟩:=hc;have hcs:cs=[.slice none 0 0]\/∃a len cap,cs=[.slice (some a) len cap]:=by
        rcases Go.Deep.open_slice hu h with⟨e,_⟩|⟨a,len,cap,_,_,_,_,e,_⟩
        ·exact .inl e
        ·exact .inr ⟨a,len,cap,e⟩
       rcases hcs with rfl|⟨a,len,cap,rfl⟩
       ·simp only[DataW.trod,hu] at h⊢;exact h
       ·simp only[DataW.trod,hu] at h⊢;split at h
        ·rename_i hcc;rw[if_pos hcc];simp only[Option.map_eq_some_iff,Option.bind_eq_some_iff,if_true] at h⊢;obtain⟨du,hel,rest,hrest,rfl⟩:=h;have hlen:du.length=len:=by simpa using mapM_some_length hel
         have hrl:rest.length=cap-len:=by simpa using mapM_some_length hrest
         have one:∀(i:Nat)(y:DataW H×List MemPlace),y∈du++rest->
          (w.cells? base (a.add (i*P.cellsOf e)) (P.cellsOf e)).bind (DataW.trod enc P w base (fun _=>true) held fuel e)=some y->
          (w.cells? base (a.add (i*P.cellsOf e)) (P.cellsOf e)).bind (DataW.trod enc P w base sp held fuel e)=some y:=by
          intro i y hy hv;simp only[Option.bind_eq_some_iff] at hv⊢;obtain⟨cs',h1,h2⟩:=hv;refine⟨cs',h1,ih1 fuel e cs' y ag' ls' h2 he fun p hp=>hs p ?_⟩;simp only[List.mem_append,List.mem_flatMap];right;exact⟨y,by simpa using hy,hp⟩
         refine⟨du,mapM_carry hel (fun i y hi hy=>one i y (by simp[hy])),rest,?_,rfl⟩;rcases Nat.eq_zero_or_pos (cap-len) with hz|hz
         ·have:rest=[]:=List.length_eq_zero_iff.1 (by omega);subst this;rw[hz];simp
         ·have hsa:sp a.block=true:=by
           refine hs (.cell a.block (a.off+0)) ?_;simp only[List.mem_append];left;refine MemPlace.mem_row.2 ⟨0,?_,rfl⟩;rw[hlen,hrl];exact Nat.mul_pos (by omega) (by omega)
          rw[if_pos hsa];exact mapM_carry hrest (fun j y hj hy=>one (len+j) y (by simp[hy]))
        ·cases h
      ·cases hl
     ·cases hl
    ·rename_i fs hu;split at hl
     ·rename_i ls' hf;obtain⟨xs,hmap,rfl,hlen⟩:=mX hu h;exact Go.ChangeShapes.trod_struct_mk hu hlen (ih2 fs.toList 0 fuel cs ls' xs hf hmap fun y hy p hp=>hs p (List.mem_flatMap.2 ⟨y,hy,hp⟩))
     ·cases hl
    ·cases hl
   ·intro fs off fuel cs ls xs hl hm hs;cases fs with
    |nil=>simpa using hm
    | cons f fs =>
      simp only[pQ] at hl;split at hl
      ·rename_i ag' ls' he;split at hl
       ·split at hl
        ·rename_i ms hms;rw[List.mapM_cons] at hm⊢;cases hx:DataW.trod enc P w base (fun _=>true) held fuel f.type ((cs.drop f.offset).take (P.cellsOf f.type)) with
         |none=>simp[hx] at hm
         | some y =>
           cases hys:fs.mapM (fun f=>DataW.trod enc P w base (fun _=>true) held fuel f.type ((cs.drop f.offset).take (P.cellsOf f.type))) with
           |none=>simp[hx,hys] at hm
           | some ys =>
             simp[hx,hys] at hm;subst hm;rw[ih1 fuel f.type _ y ag' ls' hx he (fun p hp=>hs y (by simp) p hp),ih2 fs _ fuel cs ms ys hms hys (fun z hz p hp=>hs z (by simp[hz]) p hp)];rfl
        ·cases hl
       ·cases hl
      ·cases hl
def tW(s:Bool×List Lf)(y:AV):Prop:=(s.1=true->∃cs,y=.agg cs/\db s.2 cs)/\(s.1=false->db s.2 [y])
def nq:List (Bool×List Lf)->List AV->Prop
 |[],[]=>True
 |s::ss,y::ys=>tW s y/\nq ss ys
 |_,_=>False
def kG(P:Program)(k:Nat):List TypeId->Option (List (Bool×List Lf))
 |[]=>some []
 | t :: ts => match lfs P k t, kG P k ts with
   |some s,some ss=>some (s::ss)
   |_,_=>none
theorem rI{k b:Nat}{t:TypeId}{v:Value}{ag:Bool}{ls:List Lf}(hl:lfs P k t=some (ag,ls))(h:Value.okWide P w .any b t v):
 (ag=true->∃cs,v=.agg cs)/\(ag=false->v.cells=#[v]/\ls.length=1):=by
 cases k with
 |zero=>simp[lfs] at hl
 | succ k =>
   simp only[lfs] at hl;unfold Value.okWide at h;split at hl
   ·rename_i hu;cases hl;rw[hu] at h;simp only at h;refine⟨(fun e=>by cases e),fun _=>⟨?_,rfl⟩⟩;unfold Cell.okWide Cell.ok at h;rw[hu] at h;cases v<;>first|rfl|simp at h
   ·rename_i kd hu;cases hl;rw[hu] at h;simp only at h;refine⟨(fun e=>by cases e),fun _=>⟨?_,rfl⟩⟩;unfold Cell.okWide Cell.ok at h;rw[hu] at h;cases v<;>first|rfl|simp at h
   ·rename_i hu;cases hl;rw[hu] at h;simp only at h;refine⟨(fun e=>by cases e),fun _=>⟨?_,rfl⟩⟩;unfold Cell.okWide Cell.ok at h;rw[hu] at h;cases v<;>first|rfl|simp at h
   ·rename_i e hu;split at hl
    ·split at hl
     ·cases hl;rw[hu] at h;simp only at h;refine⟨(fun e=>by cases e),fun _=>⟨?_,rfl⟩⟩;unfold Cell.okWide Cell.ok at h;rw[hu] at h;cases v<;>first|rfl|simp at h
     ·cases hl
    ·cases hl
   ·rename_i fs hu;split at hl
    ·split at hl
     ·cases hl;rw[hu] at h;simp only at h;obtain⟨cs,rfl,_⟩:=h;exact⟨fun _=>⟨cs,rfl⟩,(fun e=>by cases e)⟩
     ·cases hl
    ·cases hl
   ·cases hl
theorem uR{S:Nat->Prop}{k b0:Nat}(hS:∀b,b<w.heap.size->S b):∀{ts:List TypeId}{vs:List Value}{ds:List (DataW H)}{ps:List MemPlace}{ss:List (Bool×List Lf)},DataW.TrodAll enc P w base sp held ts vs ds ps->kG P k ts=some ss->
 (∀(j:Nat) t v,ts[j]?=some t->vs[j]?=some v->Value.okWide P w .any b0 t v)->
 ∃ys,nq ss ys/\ys.length=vs.length/\∀(j:Nat)(v:Value)(y:AV),vs[j]?=some v->ys[j]?=some y->bb w S w.heap.size v y []
 | [], [], [], ps, ss, _, hl, _ => by
   simp[kG] at hl;subst hl;exact⟨[],trivial,rfl,by simp⟩
 | t :: ts, v :: vs, d :: ds, ps, ss, h, hl, hok => by
   obtain⟨p,q,h1,h2,_⟩:=h;simp only[kG] at hl;split at hl
   ·rename_i s ss' e1 e2;cases hl;obtain⟨ag,ls⟩:=s;obtain⟨c1,c2⟩:=rI e1 (hok 0 t v rfl rfl);obtain⟨y,r1,r2,r3⟩:=Lw hS h1 e1 c1 c2;obtain⟨ys,f1,f2,f3⟩:=uR hS h2 e2 fun j t v ht hv=>hok (j+1) t v (by simpa using ht) (by simpa using hv);refine⟨y::ys,⟨⟨r2,r3⟩,f1⟩,by simp[f2],fun j u z hu hz=>?_⟩;cases j with
    |zero=>simp at hu hz;subst hu;subst hz;exact r1
    |succ j=>exact f3 j u z (by simpa using hu) (by simpa using hz)
   ·cases hl
 |[],_::_,_,_,_,h,_,_=>by simp[DataW.TrodAll] at h
 |[],[],_::_,_,_,h,_,_=>by simp[DataW.TrodAll] at h
 |_::_,[],_,_,_,h,_,_=>by simp[DataW.TrodAll] at h
 |_::_,_::_,[],_,_,h,_,_=>by simp[DataW.TrodAll] at h
theorem rf{k:Nat}:∀{ts:List TypeId}{vs:List Value}{ds:List (DataW H)}{ps:List MemPlace}{ss:List (Bool×List Lf)},DataW.TrodAll enc P w base (fun _=>true) held ts vs ds ps->kG P k ts=some ss->
 (∀p∈ps,w.sameAt w' p)->(∀p∈ps,sp p.block=true)->DataW.TrodAll enc P w' base sp held ts vs ds ps
 |[],[],[],ps,ss,h,_,_,_=>h
 | t :: ts, v :: vs, d :: ds, ps, ss, h, hl, hs, hsp => by
   obtain⟨p,q,⟨fuel,h1⟩,h2,rfl⟩:=h;simp only[kG] at hl;split at hl
   ·rename_i s ss' e1 e2;exact⟨p,q,⟨fuel,DataW.trod_carry fuel t _ _ ((yY k).1 fuel t _ _ s.1 s.2 h1 e1 fun x hx=>hsp x (by simp[show x∈p from hx])) fun x hx=>hs x (by simp[show x∈p from hx])⟩,
     rf h2 e2 (fun x hx=>hs x (by simp[hx])) (fun x hx=>hsp x (by simp[hx])),rfl⟩
   ·cases hl
 |[],_::_,_,_,_,h,_,_,_=>by simp[DataW.TrodAll] at h
 |[],[],_::_,_,_,h,_,_,_=>by simp[DataW.TrodAll] at h
 |_::_,[],_,_,_,h,_,_,_=>by simp[DataW.TrodAll] at h
 |_::_,_::_,[],_,_,h,_,_,_=>by simp[DataW.TrodAll] at h
theorem Ca{f:Func}{s:ChangeSpec}{apart fresh handsOn again:Bool}{W W':World}{args:Array Value}{v:Value}{ds gs:List (DataW H)}{before pa pv:List MemPlace}
 (hW:DataW.Whole enc P f.params.toList s.vars apart W args.toList ds gs before)
 (hres:∀(b:Nat)(sp:Nat->Bool)(hd:Bool),DataW.TrodAll enc P W' b sp hd f.resultTypes.toList (v.resultList f.resultTypes.size) (s.fn H (ds++gs)).results [])
 (hargs:∀sp:Nat->Bool,(∀p∈before,sp p.block=true)->DataW.TrodAll enc P W' 0 sp true f.params.toList args.toList (s.fn H (ds++gs)).args pa)
 (hvars:∀sp:Nat->Bool,(∀p∈before,sp p.block=true)->DataW.TrodVars enc P W' sp s.vars (s.fn H (ds++gs)).vars pv)
 (hps:before=pa++pv) (hk:W.keptBut W' (·∈before)) (hfz:∀a:Addr,a.block<W.heap.size->W'.frozen? a=W.frozen? a)
 (hok:∀(j:Nat)(t:TypeId)(r:Value),f.resultTypes[j]?=some t->(v.resultList f.resultTypes.size)[j]?=some r->Value.okWide P W' .any 0 t r):
 s.post enc P f apart fresh handsOn again W args v W':=by
 have hold:∀p∈before,(fun b=>decide (b<W.heap.size)) p.block=true:=fun p hp=>by simpa using hW.lt p hp
 have hlt:=hW.lt;refine⟨ds,gs,before,[],pa,pv,hW,hres _ _ _,hargs _ hold,hvars _ hold,World.keptBut_mono (fun p hp=>⟨hp,?_⟩) hk,fun _=>?_⟩
 ·rw[hps,List.mem_append] at hp;exact Or.inr hp
 ·obtain⟨_,_,_,_,_,hz,hn⟩:=hW;refine⟨hok,_,_,([]++pa)++pv,⟨[]++pa,pv,Go.ChangeShapes.trodAll_append (hargs _ (fun _ _=>rfl)) (hres _ _ _),hvars _ (fun _ _=>rfl),rfl,?_,?_⟩,?_⟩
  ·intro b off hp;have hp':MemPlace.cell b off∈before:=by rw[hps];simpa using hp
   rw[hfz _ (hlt _ hp')];exact hz b off hp'
  ·intro ha;have:=hn ha;rw[hps] at this;simpa using this
  ·intro p hp _;rw[hps];simpa using hp
theorem law_calls{f k b0:Nat}{fn:Func}{s:ChangeSpec}{tb:TypeId}{ss:List (Bool×List Lf)}{again:Bool}{apart fresh:Bool}(hvars:s.vars=[])
 (hfn:∀ds:List (DataW H),ds.length=fn.params.size->s.fn H ds={results:=[.lit (.bool true)],args:=ds}) (hres:fn.resultTypes=#[tb]) (htb:P.underlying tb=some .bool) (hsh:kG P k fn.params.toList=some ss)
 (hok:∀ys,nq ss ys->Ok P f ys (.b true)) {args:Array Value} {ds gs:List (DataW H)} {before:List MemPlace}
 (hval:∀(j:Nat) t v,fn.params[j]?=some t->args[j]?=some v->Value.okWide P w .any b0 t v)
 (hW:DataW.Whole enc P fn.params.toList s.vars apart w args.toList ds gs before):
 Calls P f args w fun e W'=>∃v,e=.returned v/\s.post enc P fn apart fresh false again w args v W':=by
 have hW':=hW;have hlt:=hW.lt;obtain⟨p,q,hA,hV,rfl,hfz,hnd⟩:=hW;rw[hvars] at hV;obtain⟨rfl,rfl⟩:=Go.ChangeShapes.trodVars_none hV;obtain⟨ys,f1,f2,f3⟩:=uR (S:=fun b=>b<w.heap.size) (k:=k) (b0:=b0) (fun b hb=>hb) hA hsh (fun j t v ht hv=>hval j t v (by simpa using ht) (by simpa using hv));have hlen:∀{ts:List TypeId}{vs:List Value}{ds:List (DataW H)}{ps:List MemPlace},DataW.TrodAll enc P w 0 (fun _=>true) true ts vs ds ps->ds.length=ts.length:=by
  intro ts;induction ts with
  |nil=>intro vs ds ps h;cases vs<;>cases ds<;>simp_all [DataW.TrodAll]
  | cons t ts ih =>
    intro vs ds ps h;cases vs<;>cases ds<;>simp only[DataW.TrodAll] at h;obtain⟨_,_,_,h2,_⟩:=h;simp[ih h2]
 have hdl:=hlen hA;refine((hok ys f1).2 w (fun b=>b<w.heap.size) args (fun b hb=>hb) (by simpa using f2.symm) (fun j x hj=>?_) fun _ _=>trivial).mono ?_
 ·have hjl:j<args.size:=by rw[<-Array.length_toList,<-f2];exact(List.getElem?_eq_some_iff.1 hj).1
  have e:args.getD j undef=args[j]:=by simp[hjl]
  rw[e];exact f3 j _ x (by simp[hjl]) hj
 ·rintro e W' ⟨v,fp,S',rfl,hbel,_,_,hr⟩;have hv:v=.bool true:=by cases hr;rfl
  subst hv;refine⟨_,rfl,?_⟩;have hfd:=hfn (ds++[]) (by simpa using hdl);refine Ca (pa:=p) (pv:=[]) hW' (fun b sp' hd=>?_) (fun sp' hsp=>?_) (fun sp' _=>?_) rfl (hbel.bel.frame _) hbel.frz (ok_one hres rfl (okWide_bool_mk htb _))
  ·rw[hfd,hres];exact⟨[],[],shut_bool htb _,rfl,rfl⟩
  ·rw[hfd];simp only[List.append_nil];exact rf hA hsh (fun x hx=>hbel.bel.same (hlt x (by simp[hx]))) (fun x hx=>hsp x (by simp[hx]))
  ·rw[hfd,hvars];rfl
end
end Vs

namespace Vs
open Go
def Zt(n:Nat):X:=.t n
def Zm(d a:Nat):bc:=⟨some d,.mv (.t a),none⟩
def Zn(d:Nat)(a:Int):bc:=⟨some d,.mv (.c (.i a)),none⟩
def Zl(d a:Nat):bc:=⟨some d,.load 1 false (.t a),none⟩
def Za(d k a:Nat):bc:=⟨some d,.fad k (.t a),none⟩
def Zx(d k a b:Nat):bc:=⟨some d,.idx k (.t a) (.t b),none⟩
def Zk(d a:Nat):bc:=⟨some d,.len (.t a),none⟩
def Zb(d:Nat)(op:BinOp)(a b:Nat):bc:=⟨some d,.bin op (.t a) (.t b),none⟩
def Zd(d:Nat)(op:BinOp)(a:Nat)(b:Int):bc:=⟨some d,.bin op (.t a) (.c (.i b)),none⟩
def Ze(d a k:Nat):bc:=⟨some d,.ext (.t a) k,none⟩
def Zo(d:Nat)(op:AOp):bc:=⟨some d,op,none⟩
def Zg(d:Nat)(op:AOp)(q:Nat)(b:Bool):bc:=⟨some d,op,some (q,b)⟩
def Zw(op:AOp):bc:=⟨none,op,none⟩
def Zv(d k a:Nat):bc:=⟨some d,.load k true (.t a),none⟩
def Zs(l:List bc)(x:au):au:=.seq (.reg l []) x
def Zy(b:Bool):X:=.c (.b b)
theorem ZC:(∀n,Zt n=.t n)/\(∀d a,Zm d a=⟨some d,.mv (.t a),none⟩)/\(∀d a,Zn d a=⟨some d,.mv (.c (.i a)),none⟩)/\(∀d a,Zl d a=⟨some d,.load 1 false (.t a),none⟩)/\(∀d k a,Za d k a=⟨some d,.fad k (.t a),none⟩)/\
 (∀d k a b,Zx d k a b=⟨some d,.idx k (.t a) (.t b),none⟩)/\(∀d a,Zk d a=⟨some d,.len (.t a),none⟩)/\(∀d op a b,Zb d op a b=⟨some d,.bin op (.t a) (.t b),none⟩)/\
 (∀d op a b,Zd d op a b=⟨some d,.bin op (.t a) (.c (.i b)),none⟩)/\(∀d a k,Ze d a k=⟨some d,.ext (.t a) k,none⟩)/\(∀d op,Zo d op=⟨some d,op,none⟩)/\(∀d op q b,Zg d op q b=⟨some d,op,some (q,b)⟩)/\(∀op,Zw op=⟨none,op,none⟩)/\
 (∀d k a,Zv d k a=⟨some d,.load k true (.t a),none⟩)/\(∀l x,Zs l x=.seq (.reg l []) x)/\(∀b,Zy b=.c (.b b)):=
 ⟨fun _=>rfl,fun _ _=>rfl,fun _ _=>rfl,fun _ _=>rfl,fun _ _ _=>rfl,fun _ _ _ _=>rfl,fun _ _=>rfl,fun _ _ _ _=>rfl,fun _ _ _ _=>rfl,fun _ _ _=>rfl,fun _ _=>rfl,fun _ _ _ _=>rfl,fun _=>rfl,fun _ _ _=>rfl,fun _ _=>rfl,fun _=>rfl⟩
def amb{α:Type}[DecidableEq α](a b:Option α):Option α:=if a=b then a else none
theorem VU{α:Type}[DecidableEq α]{a b:Option α}{r:α}(h:amb a b=some r):a=some r:=by
 unfold amb at h;split at h
 ·exact h
 ·cases h
theorem Wr{α:Type}[DecidableEq α]{a b:Option α}{r:α}(h:amb a b=some r):b=some r:=by
 unfold amb at h;split at h
 ·rename_i e;rw[<-e];exact h
 ·cases h
theorem KB{α β:Type}(f:α->β)(xs ys:List α)(i:Nat):fq (xs.map f) i (ys.map f)=(fq xs i ys).map f:=by
 unfold fq;simp only[List.length_map];split
 ·simp
 ·rfl
theorem uF{α:Type}(xs ys:List α)(i:Nat):(fq xs i ys).length=xs.length:=by
 unfold fq;split
 ·simp;omega
 ·rfl
section
variable{ok:Oks}
theorem Jr{x:AV}{A B A' B':Prop}(h:tst x A B)(ha:A->A')(hb:B->B'):tst x A' B':=by
 unfold tst at h;split at h
 ·exact⟨fun e=>ha (h.1 e),fun e=>hb (h.2 e)⟩
 ·exact⟨ha h.1,hb h.2⟩
 ·exact h.elim
theorem kv{K K':St->Prop}(hk:∀τ,K τ->K' τ):∀(os:List bc)(σ:St),dS ok os K σ->dS ok os K' σ
 |[],σ,h=>hk σ h
 | o :: os, σ, h => by
   have ih:=kv hk os;simp only[dS,Tz] at h⊢;have go:∀υ,xk ok o.d o.op (dS ok os K) υ->xk ok o.d o.op (dS ok os K') υ:=fun υ h=>
    (yL o.op).mono h fun v u h=>ih _ h
   cases hg:o.gd with
   |none=>rw[hg] at h;exact go σ h
   | some p =>
     obtain⟨s,b⟩:=p;rw[hg] at h;simp only[el] at h;split at h
     ·rename_i t e;simp only[e,el];exact⟨fun e=>go _ (h.1 e),fun e=>ih _ (h.2 e)⟩
     ·rename_i e;simp only[e,el];exact ih _ h
     ·exact h.elim
theorem ca:∀(ac:au){Q Q':Ex->St->Prop}{σ:St},AWP ok ac Q σ->(∀e τ,Q e τ->Q' e τ)->AWP ok ac Q' σ
 | .skip,_,_,_,h,hq=>hq _ _ h
 | .reg ops can, _, _, _, h, hq => by
   simp only[AWP] at h⊢;exact kv (fun τ h=>hq _ _ h) _ _ h
 | .drw ops can, _, _, _, h, hq => by
   simp only[AWP] at h⊢;exact kv (fun τ h=>hq _ _ h) _ _ h
 | .seq a b, _, _, _, h, hq => by
   simp only[AWP] at h⊢;refine ca a h fun e τ h=>?_;cases e with
   |nrm=>exact ca b h hq
   |ex id=>exact hq _ _ h
   |ret=>exact hq _ _ h
 | .seqr a lv lr b, _, _, _, h, hq => by
   simp only[AWP] at h⊢;refine ca a h fun e τ h=>?_;cases e with
   |nrm=>exact⟨h.1,ca b h.2 hq⟩
   |ex id=>exact hq _ _ h
   |ret=>exact hq _ _ h
 | .seqa x a lv lr b, _, _, _, h, hq => by
   simp only[AWP] at h⊢;refine ca x h fun e τ h=>?_;cases e with
   | nrm =>
     refine ca a h fun e τ h=>?_;cases e with
     |nrm=>exact⟨h.1,ca b h.2 hq⟩
     |ex id=>exact hq _ _ h
     |ret=>exact hq _ _ h
   |ex id=>exact hq _ _ h
   |ret=>exact hq _ _ h
 | .seqb a lv b, _, _, _, h, hq => by
   simp only[AWP] at h⊢;refine ca a h fun e τ h=>?_;cases e with
   |nrm=>exact ca b h fun e τ h=>hq _ _ h
   |ex id=>exact hq _ _ h
   |ret=>exact hq _ _ h
 | .cond x a b, _, _, _, h, hq => by
   simp only[AWP] at h⊢;exact Jr h (fun h=>ca a h hq) (fun h=>ca b h hq)
 | .blk id a, _, _, _, h, hq => by
   simp only[AWP] at h⊢;refine ca a h fun e τ h=>?_;cases e with
   |nrm=>exact hq _ _ h
   | ex j =>
     simp only[inb] at h⊢;split
     ·rename_i e;rw[if_pos e] at h;exact hq _ _ h
     ·rename_i e;rw[if_neg e] at h;exact hq _ _ h
   |ret=>exact hq _ _ h
 | .loop a, _, _, _, h, hq => by
   simp only[AWP] at h⊢;obtain⟨lv,lr,I,μ,h1,h2,h3⟩:=h;refine⟨lv,lr,I,μ,h1,h2,fun τ hI=>ca a (h3 τ hI) fun e τ h=>?_⟩;cases e with
   |nrm=>exact h
   |ex id=>exact hq _ _ h
   |ret=>exact hq _ _ h
 | .exit id,_,_,_,h,hq=>by simp only[AWP] at h⊢;exact hq _ _ h
 | .ret,_,_,_,h,hq=>by simp only[AWP] at h⊢;exact hq _ _ h
def bn{S B:Type}(f:S->Option (S⊕B)):Nat->S->Option B
 |0,_=>none
 | n + 1, s => match f s with
   |none=>none
   |some (.inl s')=>bn f n s'
   |some (.inr b)=>some b
def Shp{S:Type}(lv lr:List Nat)(sh:S->St)(v:S)(τ:St):Prop:=τ.resOk lv lr/\τ.res lv lr=sh v
def qX{S:Type}(id:Nat)(lv lr:List Nat)(sh:S->St)(v:S)(e:Ex)(τ:St):Prop:=e=.ex id/\Shp lv lr sh v τ
def qR{R:Type}(V:List RV)(emb:R->AV)(r:R)(e:Ex)(τ:St):Prop:=e=.ret/\fin V (emb r) .ret τ
def qM{R:Type}(V:List RV)(lr:List Nat)(emb:R->AV)(out:R->List (Nat×Row))(r:R)(e:Ex)(τ:St):Prop:=e=.ret/\uw V lr (emb r) (out r) .ret τ
theorem ch(rs:List RV)(lr:List Nat)(res:AV)(outs:List (Nat×Row))(σ:St):uw rs lr res outs .ret σ=opt (RVs.val σ rs) fun xs=>gl xs=res/\σ.resOk [] lr/\(∀r∈res.ments,r∈lr)/\(σ.res [] lr).rows=outs:=by
 simp only[uw,opt];cases RVs.val σ rs<;>simp
theorem cg(rs:List RV)(lr:List Nat)(res:AV)(outs:List (Nat×Row))(σ:St):uw rs lr res outs .nrm σ=opt (RVs.val σ rs) fun xs=>gl xs=res/\σ.resOk [] lr/\(∀r∈res.ments,r∈lr)/\(σ.res [] lr).rows=outs:=by
 simp only[uw,opt];cases RVs.val σ rs<;>simp
theorem fy(P:Program):(OkS P).p=Ok P:=rfl
theorem fA(P:Program):(OkS P).m=OkM P:=rfl
theorem fC(P:Program):(OkS P).h=OkH P:=rfl
def qS{A B:Type}(q:A->Ex->St->Prop)(q':B->Ex->St->Prop):A⊕B->Ex->St->Prop
 | .inl a=>q a
 | .inr b=>q' b
def qL{S B:Type}(lv lr:List Nat)(sh:S->St)(q:B->Ex->St->Prop):S⊕B->Ex->St->Prop
 | .inl s,e,τ=>e=.nrm/\Shp lv lr sh s τ
 | .inr b,e,τ=>e≠.nrm/\q b e τ
def qJ{S B:Type}(lv lr:List Nat)(sh:S->St)(q:B->Ex->St->Prop):S⊕B->Ex->St->Prop
 | .inl s,e,τ=>e=.nrm/\Shp lv lr sh s τ
 | .inr b,e,τ=>e≠.nrm/\q b e τ
def qJ0{S:Type}(lv lr:List Nat)(sh:S->St)(s:S)(e:Ex)(τ:St):Prop:=e=.nrm/\Shp lv lr sh s τ
theorem aC{S B:Type}{lv lr:List Nat}{sh:S->St}{f:S->Option (S⊕B)}{q:B->Ex->St->Prop}{a:au}
 (hb:∀s o,f s=some o->AWP ok a (qL lv lr sh q o) (sh s)) {n:Nat} {s0:S} {b:B} (h:bn f n s0=some b) {σ:St} (hs:Shp lv lr sh s0 σ):AWP ok (.loop a) (q b) σ:=by
 classical
 let p:St->Nat->Prop:=fun τ m=>∃s,τ=sh s/\bn f m s=some b;refine Fh lv lr (fun τ=>∃m,p τ m) (fun τ=>if h:∃m,p τ m then Classical.choose (mH h) else 0) hs.1 ⟨n,s0,hs.2,h⟩ ?_;intro τ hI;simp only[dif_pos hI];obtain⟨hp,hmin⟩:=Classical.choose_spec (mH hI);generalize Classical.choose (mH hI)=m at hp hmin;obtain⟨s,rfl,hit⟩:=hp;cases m with
 |zero=>cases hit
 | succ m =>
   simp only[bn] at hit;cases hf:f s with
   |none=>rw[hf] at hit;cases hit
   | some o =>
     refine ca a (hb s o hf) fun e τ' hq=>?_;rw[hf] at hit;cases o with
     | inl s' =>
       obtain⟨rfl,h1,h2⟩:=hq;have hI2:∃k,p (τ'.res lv lr) k:=⟨m,s',h2,hit⟩;refine⟨h1,hI2,?_⟩;simp only[dif_pos hI2];obtain⟨_,hmin2⟩:=Classical.choose_spec (mH hI2);have:=hmin2 m ⟨s',h2,hit⟩;omega
     | inr b' =>
       obtain⟨h1,h2⟩:=hq;simp only[Option.some.injEq] at hit;subst hit;cases e with
       |nrm=>exact(h1 rfl).elim
       |ex id=>exact h2
       |ret=>exact h2
theorem bo{S B:Type}{lv lr:List Nat}{sh:S->St}{q:B->Ex->St->Prop}{a b:au}{Q:Ex->St->Prop}{σ:St}{o:S⊕B}
 (ha:AWP ok a (qJ lv lr sh q o) σ) (hb:∀s,o=.inl s->AWP ok b Q (sh s)) (hx:∀x,o=.inr x->∀e τ,e≠.nrm->q x e τ->Q e τ):AWP ok (.seqr a lv lr b) Q σ:=by
 simp only[AWP];refine ca a ha fun e τ h=>?_;cases o with
 | inl s =>
   obtain⟨rfl,h1,h2⟩:=h;exact⟨h1,h2▸hb s rfl⟩
 | inr x =>
   obtain⟨h1,h2⟩:=h;cases e with
   |nrm=>exact(h1 rfl).elim
   |ex id=>exact hx x rfl _ _ h1 h2
   |ret=>exact hx x rfl _ _ h1 h2
theorem aw{S:Type}{lv lr:List Nat}{sh:S->St}{a b:au}{Q:Ex->St->Prop}{σ:St}{s:S}
 (ha:AWP ok a (qJ0 lv lr sh s) σ) (hb:AWP ok b Q (sh s)):AWP ok (.seqr a lv lr b) Q σ:=by
 simp only[AWP];refine ca a ha fun e τ h=>?_;obtain⟨rfl,h1,h2⟩:=h;exact⟨h1,h2▸hb⟩
theorem bu{S B:Type}{id:Nat}{lv lr:List Nat}{sh:S->St}{q:B->Ex->St->Prop}{a:au}{σ:St}{o:S⊕B}(hq:∀b e τ,q b e τ->e≠.nrm/\e≠.ex id)
 (ha:AWP ok a (qS (qX id lv lr sh) q o) σ):AWP ok (.blk id a) (qJ lv lr sh q o) σ:=by
 simp only[AWP];refine ca a ha fun e τ h=>?_;cases o with
 | inl s =>
   obtain⟨rfl,h1⟩:=h;simp only[inb,if_true];exact⟨rfl,h1⟩
 | inr x =>
   have:=hq x e τ h;cases e with
   |nrm=>exact(this.1 rfl).elim
   | ex j =>
     simp only[inb];rw[if_neg fun e=>this.2 (by rw[e])];exact⟨this.1,h⟩
   |ret=>exact⟨this.1,h⟩
theorem aY{S:Type}{id:Nat}{lv lr:List Nat}{sh:S->St}{a:au}{σ:St}{s:S}(ha:AWP ok a (qX id lv lr sh s) σ):AWP ok (.blk id a) (qJ0 lv lr sh s) σ:=by
 simp only[AWP];refine ca a ha fun e τ h=>?_;obtain⟨rfl,h1⟩:=h;simp only[inb,if_true];exact⟨rfl,h1⟩
theorem ae{α β:Type}{m:Option α}{f:α->Option β}{r:β}(h:m.bind f=some r):∃x,m=some x/\f x=some r:=by
 cases m with
 |none=>cases h
 |some x=>exact⟨x,rfl,h⟩
theorem aq{α:Type}{c:Bool}{x y z:α}(h:cond c x y=z):(c=true/\x=z)\/(c=false/\y=z):=by
 cases c
 ·exact .inr ⟨rfl,h⟩
 ·exact .inl ⟨rfl,h⟩
def bw{α:Type}(xs:List α)(i:Int):Option α:=if 0<=i then xs[i.toNat]? else none
theorem aM{α:Type}{xs:List α}{i:Int}{x:α}(h:bw xs i=some x):0<=i/\xs[i.toNat]?=some x:=by
 unfold bw at h;split at h
 ·exact⟨‹_›,h⟩
 ·cases h
def grd(p:Prop)[Decidable p]:Option Unit:=if p then some () else none
theorem aI{p:Prop}[Decidable p]{u:Unit}(h:grd p=some u):p:=by
 unfold grd at h;split at h
 ·assumption
 ·cases h
def bnd{α β:Type}(a:α)(f:α->Option β):Option β:=f a
theorem aO{α β:Type}{a:α}{f:α->Option β}{r:β}(h:bnd a f=some r):∃x,a=x/\f x=some r:=⟨a,rfl,h⟩
theorem bt(c:Bool):c=true\/c=false:=by cases c<;>simp
def sd(s:ByteArray)(i:Int):Option UInt8:=if 0<=i then s[i.toNat]? else none
theorem jF{s:ByteArray}{i:Int}{x:UInt8}(h:sd s i=some x):0<=i/\s[i.toNat]?=some x:=by
 unfold sd at h;split at h
 ·exact⟨‹_›,h⟩
 ·cases h
def N0:Nat:=2^64
def dt{α:Type}(es:List α)(i n:Nat):List α:=if i=0/\n=es.length then es else(es.drop i).take n
theorem bP{α:Type}(f:α->AV)(xs:List α)(i n:Nat):sub (xs.map f) i n=(dt xs i n).map f:=by
 unfold sub dt;simp only[List.length_map];split
 ·rfl
 ·rw[List.map_take,List.map_drop]
theorem eG{α:Type}(xs:List α):dt xs 0 xs.length=xs:=by simp[dt]
theorem yp{α:Type}(f:α->AV){xs:List α}{n:Nat}(h:n=xs.length):sub (xs.map f) 0 n=xs.map f:=by rw[bP,h,eG]
def slT{α:Type}(xs:List α)(hi:Int):Option (List α):=if 0<=hi/\hi.toNat<=xs.length then some (xs.take hi.toNat) else none
def slF{α:Type}(xs:List α)(lo:Int):Option (List α):=if 0<=lo/\lo.toNat<=xs.length then some (xs.drop lo.toNat) else none
def slB{α:Type}(xs:List α)(lo hi:Int):Option (List α):=if 0<=lo/\0<=hi/\lo.toNat<=hi.toNat/\hi.toNat<=xs.length then some ((xs.drop lo.toNat).take (hi.toNat-lo.toNat)) else none
theorem eB{α:Type}(xs:List α)(i n:Nat):dt xs i n=(xs.drop i).take n:=by
 unfold dt;split
 ·rename_i h;rw[h.1,h.2];simp
 ·rfl
theorem zZ{α:Type}(f:α->AV){xs ys:List α}{hi:Int}(h:slT xs hi=some ys):True/\0<=hi/\True/\hi.toNat<=xs.length/\sub (xs.map f) 0 hi.toNat=ys.map f:=by
 unfold slT at h;split at h
 ·rename_i e;cases h;exact⟨trivial,e.1,trivial,e.2,by rw[bP,eB];simp⟩
 ·cases h
theorem Wv{α:Type}(f:α->AV){xs ys:List α}{lo:Int}(h:slF xs lo=some ys):0<=lo/\True/\lo.toNat<=xs.length/\True/\sub (xs.map f) lo.toNat (xs.length-lo.toNat)=ys.map f:=by
 unfold slF at h;split at h
 ·rename_i e;cases h;exact⟨e.1,trivial,e.2,trivial,by rw[bP,eB,List.take_of_length_le (by simp)]⟩
 ·cases h
theorem Shp.sub{S S':Type}{lv lr lv' lr':List Nat}{sh:S->St}{sh':S'->St}{s:S}{s':S'}{τ:St}(h:Shp lv lr sh s τ)
 (h1:∀k∈lv',k∈lv) (h2:∀r∈lr',r∈lr) (h3:(sh s).resOk lv' lr'/\(sh s).res lv' lr'=sh' s'):Shp lv' lr' sh' s' τ:=by
 obtain⟨_,he⟩:=h;have bT:∀{α:Type}(g:Nat->α)(k:Nat)(l:List Nat),k∈l->aD k (l.map fun j=>(j,g j))=some (g k):=by
  intro α g k l hk;rw[gX,if_pos hk]
 have hg:∀k∈lv,(sh s).get k=τ.get k:=by
  intro k hk;rw[<-he];simp only[St.get,St.res,bT _ k lv hk,Option.getD_some]
 have hr:∀r∈lr,((sh s).row r).getD .dead=(τ.row r).getD .dead:=by
  intro r hk;rw[<-he];simp only[St.row,St.res,bT _ r lr hk,Option.getD_some]
 obtain⟨⟨a,b,c⟩,d⟩:=h3;refine⟨⟨fun k hk r hr'=>a k hk r (by rw[hg k (h1 k hk)];exact hr'),fun q hq r hr'=>b q hq r (by rw[hr q (h2 q hq)];exact hr'),c⟩,?_⟩;rw[<-d];simp only[St.res,St.mk.injEq];exact⟨List.map_congr_left fun k hk=>by rw[hg k (h1 k hk)],List.map_congr_left fun r hk=>by rw[hr r (h2 r hk)]⟩
theorem jP{S B:Type}{lv lr:List Nat}{sh:S->St}{q:B->Ex->St->Prop}{a:au}{Q:Ex->St->Prop}{σ:St}{o:S⊕B}
 (ha:AWP ok a (qJ lv lr sh q o) σ) (hn:∀s,o=.inl s->∀τ,Shp lv lr sh s τ->Q .nrm τ) (hx:∀x,o=.inr x->∀e τ,e≠.nrm->q x e τ->Q e τ):AWP ok a Q σ:=by
 refine ca a ha fun e τ h=>?_;cases o with
 |inl s=>obtain⟨rfl,h⟩:=h;exact hn s rfl τ h
 |inr x=>exact hx x rfl e τ h.1 h.2
theorem cK{S:Type}{lv lr:List Nat}{sh:S->St}{a:au}{Q:Ex->St->Prop}{σ:St}{s:S}
 (ha:AWP ok a (qJ0 lv lr sh s) σ) (hn:∀τ,Shp lv lr sh s τ->Q .nrm τ):AWP ok a Q σ:=by
 refine ca a ha fun e τ h=>?_;obtain⟨rfl,h⟩:=h;exact hn τ h
def oZ:List Nat->Bool
 |[]=>true
 |x::xs=>!(xs.any fun y=>Nat.beq x y)&&oZ xs
def TZ(rs ns:List Nat):Bool:=oZ (ns.map fun q=>rs.getD (q-1000000000) 0)&&ns.all fun q=>Nat.ble 1000000000 q&&Nat.blt (q-1000000000) rs.length
theorem iZ:∀{l:List Nat},oZ l=true->l.Nodup
 |[],_=>List.nodup_nil
 | x :: xs, h => by
   simp only[oZ,Bool.and_eq_true,Bool.not_eq_true',List.any_eq_false,Nat.beq_eq] at h;exact List.nodup_cons.2 ⟨fun hx=>h.1 x hx rfl,iZ h.2⟩
theorem VW{ρ:Nat->Option Row}{d:Nat}{rs:List Nat}{outs:List (Nat×Row)}(ns:List Nat)(hn:outs.map (·.1)=ns)(h:TZ rs ns=true):
 (outs.map fun p=>bkn d rs p.1).Nodup/\(∀p∈outs,1000000000<=p.1->p.1-1000000000<rs.length)/\(∀p∈outs,p.1<1000000000->ρ (bkn d rs p.1)=none/\bkn d rs p.1<1000000000):=by
 subst hn;unfold TZ at h;simp only[Bool.and_eq_true,List.all_eq_true,List.mem_map,forall_exists_index,and_imp,List.map_map] at h;obtain⟨h1,h2⟩:=h;have hb:∀p∈outs,1000000000<=p.1/\p.1-1000000000<rs.length:=fun p hp=>by
  have:=h2 p.1 p hp rfl;exact⟨Nat.le_of_ble_eq_true this.1,Nat.le_of_ble_eq_true this.2⟩
 refine⟨?_,fun p hp _=>(hb p hp).2,fun p hp hlt=>absurd (hb p hp).1 (by omega)⟩;have e:(outs.map fun p=>bkn d rs p.1)=outs.map ((fun q=>rs.getD (q-1000000000) 0)∘fun x=>x.1):=List.map_congr_left fun p hp=>by
  simp only[bkn,if_pos (hb p hp).1,Function.comp]
 rw[e];exact iZ h1
def LT(d:Nat)(rs ns ks:List Nat):Bool:=oZ (ns.map (bkn d rs))&&ns.all fun q=>if Nat.ble 1000000000 q then Nat.blt (q-1000000000) rs.length else ks.any (Nat.beq (bkn d rs q))&&Nat.blt (bkn d rs q) 1000000000
theorem Tw{ρ:Nat->Option Row}{d:Nat}{rs:List Nat}{outs:List (Nat×Row)}(ns ks:List Nat)(hn:outs.map (·.1)=ns)(h:LT d rs ns ks=true)(hk:∀q∈ks,ρ q=none):
 (outs.map fun p=>bkn d rs p.1).Nodup/\(∀p∈outs,1000000000<=p.1->p.1-1000000000<rs.length)/\(∀p∈outs,p.1<1000000000->ρ (bkn d rs p.1)=none/\bkn d rs p.1<1000000000):=by
 subst hn;unfold LT at h;simp only[Bool.and_eq_true,List.all_eq_true,List.mem_map,forall_exists_index,and_imp,List.map_map] at h;obtain⟨h1,h2⟩:=h;refine⟨iZ h1,fun p hp hge=>?_,fun p hp hlt=>?_⟩
 ·have:=h2 p.1 p hp rfl;rw[if_pos (Nat.ble_eq_true_of_le hge)] at this;exact Nat.le_of_ble_eq_true this
 ·have:=h2 p.1 p hp rfl;rw[if_neg (fun e=>by have:=Nat.le_of_ble_eq_true e;omega),Bool.and_eq_true,List.any_eq_true] at this;obtain⟨⟨x,hx,e⟩,h3⟩:=this;have e:=Nat.eq_of_beq_eq_true e;exact⟨by rw[e];exact hk x hx,Nat.le_of_ble_eq_true h3⟩
theorem dx{S:Type}{id:Nat}{lv lr:List Nat}{sh:S->St}{a:au}{Q:Ex->St->Prop}{σ:St}{s:S}(ha:AWP ok a (qX id lv lr sh s) σ)(hn:∀τ,Shp lv lr sh s τ->Q .nrm τ):AWP ok a (inb id Q) σ:=by
 have:=cK (aY ha) hn;simpa only[AWP] using this
theorem pA{S B:Type}{id:Nat}{lv lr:List Nat}{sh:S->St}{q:B->Ex->St->Prop}{a:au}{Q:Ex->St->Prop}{σ:St}{o:S⊕B}(hq:∀b e τ,q b e τ->e≠.nrm/\e≠.ex id)
 (ha:AWP ok a (qS (qX id lv lr sh) q o) σ) (hn:∀s,o=.inl s->∀τ,Shp lv lr sh s τ->Q .nrm τ) (hx:∀x,o=.inr x->∀e τ,e≠.nrm->q x e τ->Q e τ):AWP ok a (inb id Q) σ:=by
 have:=jP (bu hq ha) hn hx;simpa only[AWP] using this
theorem lN{S:Type}{lv lr lr':List Nat}{sh:S->St}{s:S}{τ:St}{res:AV}{outs:List (Nat×Row)}(h:Shp lv lr sh s τ)(h2:∀r∈lr',r∈lr)
 (h3:(sh s).resOk [] lr'/\((sh s).res [] lr').rows=outs) (h5:res=.tup []):uw [] lr' res outs .nrm τ:=by
 have:=Shp.sub (sh':=fun(_:Unit)=>(sh s).res [] lr') (s':=()) h (by simp) h2 ⟨h3.1,rfl⟩;subst h5;refine⟨[],rfl,rfl,this.1,by simp[AV.ments,aN],?_⟩;rw[this.2];exact h3.2
theorem cJ{R:Type}{V:List RV}{emb:R->AV}{id:Nat}(b:R)(e:Ex)(τ:St)(h:qR V emb b e τ):e≠.nrm/\e≠.ex id:=by
 obtain⟨rfl,_⟩:=h;simp
theorem lC{R:Type}{V:List RV}{lr:List Nat}{emb:R->AV}{out:R->List (Nat×Row)}{id:Nat}(b:R)(e:Ex)(τ:St)(h:qM V lr emb out b e τ):e≠.nrm/\e≠.ex id:=by
 obtain⟨rfl,_⟩:=h;simp
def rd(C:List AV):Prop:=(∀ρ k,C.map (snp ρ (k+1))=C)/\aN C=[]
theorem dk{C:List AV}(h:rd C)(r d:Nat):C.map (AV.ren r d)=C:=by rw[<-kW];exact lM r d C h.2
end
end Vs

namespace Vs
open Go
def cfX{α:Type}(cmp:α->α->Option Int)(xs:List α)(i j:Fin xs.length):Int:=(cmp xs[i] xs[j]).getD 0
def ltX{α:Type}(cmp:α->α->Option Int)(xs:List α)(i j:Fin xs.length):Bool:=decide (cfX cmp xs i j<0)
def okX{α:Type}(cmp:α->α->Option Int)(xs:List α):Prop:=xs.length<4611686018427387904/\(∀i j:Fin xs.length,(cmp xs[i] xs[j]).isSome=true)/\(∀i,ltX cmp xs i i=false)/\
 (∀i j k,ltX cmp xs i j=true->ltX cmp xs j k=true->ltX cmp xs i k=true)/\(∀i j k,ltX cmp xs i j=false->ltX cmp xs j k=false->ltX cmp xs i k=false)
instance{α:Type}(cmp:α->α->Option Int)(xs:List α):Decidable (okX cmp xs):=by unfold okX;infer_instance
end Vs











namespace Vs
open Go
theorem aE{n:Int}(h1:-9223372036854775808<=n)(h2:n<=9223372036854775807):IntKind.wrap .i64 n=n:=by
 rw[IntKind.wrap_i64];omega
theorem cw{n:Nat}(h:n<18446744073709551616):n<N0:=by unfold N0;omega
theorem bv{S B:Type}{f:S->Option (S⊕B)}(I:S->Prop)(μ:S->Nat)(Q:B->Prop)
 (hs:∀s,I s->(∃s',f s=some (.inl s')/\I s'/\μ s'<μ s)\/∃b,f s=some (.inr b)/\Q b):∀(n:Nat)(s:S),I s->μ s<n->∃b,bn f n s=some b/\Q b
 |0,_,_,h=>by omega
 | n + 1, s, hI, hn => by
   rcases hs s hI with⟨s',h1,h2,h3⟩|⟨b,h1,h2⟩
   ·obtain⟨b,hb,hq⟩:=bv I μ Q hs n s' h2 (by omega);exact⟨b,by simp[bn,h1,hb],hq⟩
   ·exact⟨b,by simp[bn,h1],h2⟩
def bB{α A B:Type}(step:Nat->α->A->A⊕B)(fin:A->B):Nat->List α->A->B
 |_,[],a=>fin a
 | i, x :: xs, a => match step i x a with
   | .inl a'=>bB step fin (i+1) xs a'
   | .inr b=>b
theorem cb{α A S B:Type}{f:S->Option (S⊕B)}(xs:List α)(st:Nat->A->S)(step:Nat->α->A->A⊕B)(fin:A->B)(I:Nat->A->Prop)
 (h1:∀i a x,xs[i]?=some x->I i a->(∃a',step i x a=.inl a'/\I (i+1) a'/\f (st i a)=some (.inl (st (i+1) a')))\/∃b,step i x a=.inr b/\f (st i a)=some (.inr b))
 (h2:∀a,I xs.length a->f (st xs.length a)=some (.inr (fin a))) (a0:A) (h0:I 0 a0) (hl:xs.length<18446744073709551615):
 bn f N0 (st 0 a0)=some (bB step fin 0 xs a0):=by
 have key:∀(ys:List α)(i:Nat)(a:A)(n:Nat),xs.drop i=ys->i<=xs.length->I i a->ys.length<n->bn f n (st i a)=some (bB step fin i ys a):=by
  intro ys;induction ys with
  | nil =>
    intro i a n hd hi hI hn;have:i=xs.length:=by
     have:=congrArg List.length hd;simp at this;omega
    subst this;cases n with
    |zero=>simp at hn
    |succ n=>simp[bn,h2 a hI,bB]
  | cons y ys ih =>
    intro i a n hd hi hI hn;have hx:xs[i]?=some y:=by
     have:=congrArg (·[0]?) hd;simpa using this
    have hlt:i<xs.length:=(List.getElem?_eq_some_iff.1 hx).1;have hd':xs.drop (i+1)=ys:=by
     have:=congrArg (List.drop 1) hd;simpa[List.drop_drop,Nat.add_comm] using this
    cases n with
    |zero=>simp at hn
    | succ n =>
      simp only[List.length_cons] at hn;rcases h1 i a y hx hI with⟨a',e1,e2,e3⟩|⟨b,e1,e2⟩
      ·simp only[bn,e3,bB,e1];exact ih (i+1) a' n hd' (by omega) e2 (by omega)
      ·simp only[bn,e2,bB,e1]
 exact key xs 0 a0 N0 (by simp) (by omega) h0 (cw (by omega))
theorem qv{α B:Type}(p:α->Bool)(bad ok:B):∀(xs:List α)(i:Nat),bB (fun _ x(_:Unit)=>if p x then .inr bad else .inl ()) (fun _=>ok) i xs ()=if xs.any p then bad else ok
 |[],i=>rfl
 | x :: xs, i => by
   simp only[bB,List.any_cons];by_cases h:p x=true
   ·simp[h]
   ·simp only[Bool.not_eq_true] at h;simp[h,qv p bad ok xs (i+1)]
theorem aQ{α:Type}(xs:List α)(i:Nat):bw xs (i:Int)=xs[i]?:=by simp[bw]
theorem gb{α B:Type}{f:Int->Option (Int⊕B)}(xs:List α)(p:α->Bool)(bad ok:B)(h1:∀(i:Nat) x,xs[i]?=some x->f i=some (if p x then .inr bad else .inl ((i+1:Nat):Int)))
 (h2:f xs.length=some (.inr ok)) (hl:xs.length<18446744073709551615):bn f N0 0=some (if xs.any p then bad else ok):=by
 have:=cb (f:=f) xs (fun i(_:Unit)=>(i:Int)) (fun _ x _=>if p x then .inr bad else .inl ()) (fun _=>ok) (fun _ _=>True)
  (fun i a x hx _=>by
   cases h:p x
   ·exact .inl ⟨(),by simp,trivial,by rw[h1 i x hx,h];simp⟩
   ·exact .inr ⟨bad,by simp,by rw[h1 i x hx,h];simp⟩) (fun a _=>h2) () trivial hl
 rw[qv] at this;exact this
theorem aU{p:Prop}[Decidable p](h:p):grd p=some ():=by simp[grd,h]
theorem gW{α:Type}(c:Bool)(a b:α):cond c a b=if c=true then a else b:=by cases c<;>rfl
end Vs

namespace Vs
open Go
theorem xM{α:Type}(sz:α->Nat):∀{xs:List α}{i:Nat}{x:α},xs[i]?=some x->sz x<=(xs.map sz).sum
 |y::ys,0,x,h=>by simp at h;subst h;simp
 | y :: ys, i + 1, x, h => by
   have:=xM sz (xs:=ys) (i:=i) (x:=x) (by simpa using h);simp;omega
 |[],i,x,h=>by simp at h
end Vs
namespace Vs
open Go
def dV{α:Type}(p:Nat->α->Bool)(xs:List α):Bool:=xs.zipIdx.any fun q=>p q.2 q.1
theorem zu{α:Type}{xs:List α}{i:Nat}{x:α}:(x,i)∈xs.zipIdx↔xs[i]?=some x:=List.mem_zipIdx_iff_getElem?
theorem fl{α:Type}{p:Nat->α->Bool}{xs:List α}:dV p xs=true↔∃i x,xs[i]?=some x/\p i x=true:=by
 unfold dV;rw[List.any_eq_true];constructor
 ·rintro⟨⟨x,i⟩,h1,h2⟩;exact⟨i,x,zu.1 h1,h2⟩
 ·rintro⟨i,x,h1,h2⟩;exact⟨(x,i),zu.2 h1,h2⟩
theorem cD{α:Type}{p:Nat->α->Bool}{xs:List α}:dV p xs=false↔∀i x,xs[i]?=some x->p i x=false:=by
 rw[<-Bool.not_eq_true,fl];constructor
 ·intro h i x hx;cases e:p i x with
  |false=>rfl
  |true=>exact(h ⟨i,x,hx,e⟩).elim
 ·rintro h ⟨i,x,hx,e⟩;rw[h i x hx] at e;cases e
theorem EP{p:Nat->Prop}(n:Nat)(h:p n):∃m,p m/\∀k,k<m->¬p k:=by
 induction n using Nat.strongRecOn with
 | _ n ih =>
   by_cases e:∃k,k<n/\p k
   ·obtain⟨k,hk,hp⟩:=e;exact ih k hk hp
   ·exact⟨n,h,fun k hk hp=>e ⟨k,hk,hp⟩⟩
theorem wv{α:Type}{p:Nat->α->Bool}{xs:List α}(h:dV p xs=true):∃i x,xs[i]?=some x/\p i x=true/\∀j y,j<i->xs[j]?=some y->p j y=false:=by
 obtain⟨i,x,h1,h2⟩:=fl.1 h;obtain⟨m,⟨y,hy,hp⟩,hm⟩:=EP (p:=fun i=>∃x,xs[i]?=some x/\p i x=true) i ⟨x,h1,h2⟩;refine⟨m,y,hy,hp,fun j z hj hz=>?_⟩;cases e:p j z with
 |false=>rfl
 |true=>exact(hm j hj ⟨z,hz,e⟩).elim
theorem wO{α:Type}{p q:Nat->α->Bool}{xs:List α}(h:∀i x,xs[i]?=some x->(∀j y,j<i->xs[j]?=some y->p j y=false)->p i x=q i x):dV p xs=dV q xs:=by
 cases e:dV p xs with
 | true =>
   obtain⟨i,x,hx,hp,hf⟩:=wv e;symm;rw[fl];exact⟨i,x,hx,by rw[<-h i x hx hf];exact hp⟩
 | false =>
   have:=cD.1 e;symm;rw[cD];intro i x hx;rw[<-h i x hx fun j y _ hy=>this j y hy];exact this i x hx
theorem tp{α:Type}(p:α->Bool)(xs:List α):dV (fun _ x=>p x) xs=xs.any p:=by
 cases e:xs.any p with
 | true =>
   rw[fl];obtain⟨x,hx,hp⟩:=List.any_eq_true.1 e;obtain⟨i,hi,rfl⟩:=List.getElem_of_mem hx;exact⟨i,xs[i],List.getElem?_eq_getElem hi,hp⟩
 | false =>
   rw[cD];intro i x hx;rw[List.any_eq_false] at e;have:=e x (List.mem_of_getElem? hx);simpa using this
theorem cZ{α B:Type}{f:Int->Option (Int⊕B)}(xs:List α)(p:Nat->α->Bool)(bad ok:B)
 (h1:∀(i:Nat) x,xs[i]?=some x->(∀j y,j<i->xs[j]?=some y->p j y=false)->f (i:Int)=some (if p i x then .inr bad else .inl ((i+1:Nat):Int)))
 (h2:f (xs.length:Int)=some (.inr ok)) (hl:xs.length<18446744073709551615):bn f N0 0=some (if dV p xs then bad else ok):=by
 have:=cb (f:=f) xs (fun i(_:Unit)=>(i:Int)) (fun i x _=>if p i x then .inr bad else .inl ()) (fun _=>ok) (fun i _=>∀j y,j<i->xs[j]?=some y->p j y=false)
  (fun i a x hx hI=>by
   cases h:p i x
   ·refine .inl ⟨(),by simp,fun j y hj hy=>?_,by rw[h1 i x hx hI,h];simp⟩;rcases Nat.lt_or_ge j i with h2|h2
    ·exact hI j y h2 hy
    ·have:j=i:=by omega
     subst this;rw[hx] at hy;cases hy;exact h
   ·exact .inr ⟨bad,by simp,by rw[h1 i x hx hI,h];simp⟩) (fun a _=>h2) () (fun j y hj=>by omega) hl
 have e:(((0:Nat)):Int)=0:=rfl;simp only[e] at this;rw[this];have gen:∀(ys:List α)(i:Nat),bB (fun i x(_:Unit)=>if p i x then .inr bad else .inl ()) (fun _=>ok) i ys ()=if(ys.zipIdx i).any (fun q=>p q.2 q.1) then bad else ok:=by
  intro ys;induction ys with
  |nil=>intro i;rfl
  | cons y ys ih =>
    intro i;simp only[bB,List.zipIdx_cons,List.any_cons];by_cases h:p i y=true
    ·simp[h]
    ·simp only[Bool.not_eq_true] at h;simp only[h,Bool.false_eq_true,if_false,Bool.false_or];exact ih (i+1)
 rw[gen];rfl
def dA{α:Type}(p:Nat->α->Bool)(xs:List α):Option (Nat×α):=(xs.zipIdx.find? fun q=>p q.2 q.1).map fun q=>(q.2,q.1)
theorem dF{α B U:Type}{f:Int->Option (Int⊕(U⊕B))}(xs:List α)(p:Nat->α->Bool)(g:Nat->α->B)(u:U)
 (h1:∀(i:Nat) x,xs[i]?=some x->(∀j y,j<i->xs[j]?=some y->p j y=false)->f (i:Int)=some (if p i x then .inr (.inr (g i x)) else .inl ((i+1:Nat):Int)))
 (h2:f (xs.length:Int)=some (.inr (.inl u))) (hl:xs.length<18446744073709551615):bn f N0 0=some (match dA p xs with|some q=>.inr (g q.1 q.2)|none=>.inl u):=by
 have:=cb (f:=f) xs (fun i(_:Unit)=>(i:Int)) (fun i x _=>if p i x then .inr (.inr (g i x)) else .inl ()) (fun _=>.inl u) (fun i _=>∀j y,j<i->xs[j]?=some y->p j y=false)
  (fun i a x hx hI=>by
   cases h:p i x
   ·refine .inl ⟨(),by simp,fun j y hj hy=>?_,by rw[h1 i x hx hI,h];simp⟩;rcases Nat.lt_or_ge j i with h2|h2
    ·exact hI j y h2 hy
    ·have:j=i:=by omega
     subst this;rw[hx] at hy;cases hy;exact h
   ·exact .inr ⟨.inr (g i x),by simp,by rw[h1 i x hx hI,h];simp⟩) (fun a _=>h2) () (fun j y hj=>by omega) hl
 have e:(((0:Nat)):Int)=0:=rfl;simp only[e] at this;rw[this];have gen:∀(ys:List α)(i:Nat),bB (fun i x(_:Unit)=>if p i x then .inr (.inr (g i x)) else .inl ()) (fun _=>(.inl u:U⊕B)) i ys ()=
  match((ys.zipIdx i).find? fun q=>p q.2 q.1).map (fun q=>(q.2,q.1)) with|some q=>.inr (g q.1 q.2)|none=>.inl u:=by
  intro ys;induction ys with
  |nil=>intro i;rfl
  | cons y ys ih =>
    intro i;simp only[bB,List.zipIdx_cons,List.find?_cons];by_cases h:p i y=true
    ·simp[h]
    ·simp only[Bool.not_eq_true] at h;simp only[h,Bool.false_eq_true,if_false];exact ih (i+1)
 rw[gen];rfl
theorem dD{α:Type}{p:Nat->α->Bool}{xs:List α}{i:Nat}{x:α}:dA p xs=some (i,x)↔xs[i]?=some x/\p i x=true/\∀j y,j<i->xs[j]?=some y->p j y=false:=by
 have gen:∀(ys:List α)(k:Nat),((ys.zipIdx k).find? fun q=>p q.2 q.1).map (fun q=>(q.2,q.1))=some (i,x)↔k<=i/\ys[i-k]?=some x/\p i x=true/\∀j y,k<=j->j<i->ys[j-k]?=some y->p j y=false:=by
  intro ys;induction ys with
  |nil=>intro k;simp
  | cons y ys ih =>
    intro k;simp only[List.zipIdx_cons,List.find?_cons];cases h:p k y
    ·simp only[Bool.false_eq_true];rw[ih (k+1)];constructor
     ·rintro⟨h1,h2,h3,h4⟩;refine⟨by omega,?_,h3,fun j z hj hji hz=>?_⟩
      ·rw[show i-k=(i-(k+1))+1 by omega];simpa using h2
      ·rcases Nat.lt_or_ge k j with h5|h5
       ·exact h4 j z (by omega) hji (by rw[show j-k=(j-(k+1))+1 by omega] at hz;simpa using hz)
       ·have:j=k:=by omega
        subst this;simp at hz;subst hz;exact h
     ·rintro⟨h1,h2,h3,h4⟩;have hne:i≠k:=by
       rintro rfl;simp at h2;subst h2;rw[h] at h3;cases h3
      refine⟨by omega,?_,h3,fun j z hj hji hz=>h4 j z (by omega) hji ?_⟩
      ·rw[show i-k=(i-(k+1))+1 by omega] at h2;simpa using h2
      ·rw[show j-k=(j-(k+1))+1 by omega];simpa using hz
    ·simp only[Option.map_some,Option.some.injEq,Prod.mk.injEq];constructor
     ·rintro⟨rfl,rfl⟩;exact⟨Nat.le_refl _,by simp,h,fun j z hj hji=>by omega⟩
     ·rintro⟨h1,h2,h3,h4⟩;have:k=i:=by
       apply Decidable.byContradiction;intro hne;have:=h4 k y (Nat.le_refl _) (by omega) (by simp);rw[h] at this;cases this
      subst this;simp at h2;exact⟨rfl,h2⟩
 have:=gen xs 0;simp only[Nat.sub_zero,Nat.zero_le,true_and] at this;unfold dA;rw[this];exact⟨fun h=>⟨h.1,h.2.1,fun j y=>h.2.2 j y trivial⟩,fun h=>⟨h.1,h.2.1,fun j y _=>h.2.2 j y⟩⟩
theorem eh{α:Type}{p:Nat->α->Bool}{xs:List α}:dA p xs=none↔∀i x,xs[i]?=some x->p i x=false:=by
 unfold dA;rw[Option.map_eq_none_iff,List.find?_eq_none];constructor
 ·intro h i x hx;have:=h (x,i) (zu.2 hx);simpa using this
 ·rintro h ⟨x,i⟩ hx;have:=h i x (zu.1 hx);simp[this]
end Vs
namespace Vs
open Go
def cM{α A:Type}(g:Nat->α->A->A):Nat->List α->A->A
 |_,[],a=>a
 |i,x::xs,a=>cM g (i+1) xs (g i x a)
theorem fO{α A B S:Type}{f:S->Option (S⊕B)}(xs:List α)(st:Nat->A->S)(g:Nat->α->A->A)(fin:A->B)(I:Nat->A->Prop)
 (h1:∀i a x,xs[i]?=some x->I i a->I (i+1) (g i x a)/\f (st i a)=some (.inl (st (i+1) (g i x a))))
 (h2:∀a,I xs.length a->f (st xs.length a)=some (.inr (fin a))) (a0:A) (h0:I 0 a0) (hl:xs.length<18446744073709551615):
 bn f N0 (st 0 a0)=some (fin (cM g 0 xs a0)):=by
 rw[cb xs st (fun i x a=>.inl (g i x a)) fin I (fun i a x hx hI=>.inl ⟨g i x a,rfl,(h1 i a x hx hI).1,(h1 i a x hx hI).2⟩) h2 a0 h0 hl];have gen:∀(ys:List α)(i:Nat)(a:A),bB (fun i x a=>(.inl (g i x a):A⊕B)) fin i ys a=fin (cM g i ys a):=by
  intro ys;induction ys with
  |nil=>intro i a;rfl
  |cons y ys ih=>intro i a;exact ih (i+1) (g i y a)
 rw[gen]
theorem sU{n:Int}(h1:0<=n)(h2:n<18446744073709551616):IntKind.wrap .u64 n=n:=by
 rw[IntKind.wrap_u64];omega
end Vs









