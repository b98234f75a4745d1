/-
  Part of the proof that FnProtection returns true at every input.
-/
import Derived.Test.YtfmhphgpijjejaaGreatWb
import Derived.Lib.AppendZeros
set_option linter.defProp false
set_option linter.unusedSimpArgs false
set_option linter.unusedVariables false
open List renaming getElem?_eq_some_iff -> A0, getElem?_eq_getElem -> A3, mem_map -> A6, nodup_cons -> B1, mem_cons -> B2, getElem?_map -> B4, nodup_nil -> B5, eq_nil_iff_forall_not_mem -> B6, length_append -> B7, map_cons -> B8, length_replicate -> B9, getElem?_append_right -> C1, getD_eq_getElem?_getD -> C2, mem_cons_of_mem -> C3, getElem?_append_left -> C6, length_nil -> D0, replicate -> D4, mem_cons_self -> D6, mem_of_find?_eq_some -> D7, getElem_mem -> D9, getElem?_append -> F0, getElem_of_mem -> F4, getElem?_set -> F8, length_cons -> G0, not_mem_nil -> G1, range_succ -> G3, length_set -> G4, append_nil -> G5, length_map -> G6, find?_some -> G7
open Nat renaming mul_le_mul_right -> A1, lt_of_lt_of_le -> A7, add_mul -> A8, le_refl -> B0, le_trans -> C4, add_zero -> C7, one_mul -> C9, lt_or_ge -> D3, le_mul_of_pos_right -> D8, div_lt_of_lt_mul -> E9, zero_mul -> F6, zero_add -> G8
open Bool renaming and_eq_true -> A2
open Option renaming map_eq_some_iff -> A5, getD_some -> G2
open Array renaming getElem?_eq_some_iff -> A9, mem_of_getElem? -> B3, getElem?_append -> C0, getElem?_eq_getElem -> C5, toList_inj -> C8, getElem?_append_left -> D5, getElem?_toList -> E0, mem_iff_getElem -> E8, length_toList -> F3, getD -> F5, getElem_mem -> F7, size_append -> F9
namespace Vs
open Go Go.RowKit
variable{P:Program}{n:Nat}{w0:World}{S0:Fx}{σ:St}{a:Act}{w w':World}{tag tag':Nat->Tag}{β β':Nat->Option Own}
def li{b pos:Nat}{l:List Value}(hf:Free w b (pos+l.length))(h1:∀v∈l,v.oneCell'=true):
 ∃ w', (storeCells ⟨b, pos, none⟩ l).run P w = .ok () w' ∧ (∀ p, w'.cell? ⟨b, p, none⟩ = if pos ≤ p ∧ p < pos + l.length then l[p - pos]? else w.cell? ⟨b, p, none⟩) ∧
   (∀b',b'≠b->w'.heap[b']?=w.heap[b']?)/\(∀t,Free w b t->Free w' b t)/\(∀B,B<=b->Below B w w'):=by
 obtain⟨c,ty,hc,hle⟩:=hf;have hrun:=run_storeCells_at P b pos ty l 0 c w hc (by omega) h1;simp only[C7] at hrun;refine⟨_,hrun,?_,?_,?_,?_⟩
 ·intro p;have hh:=setRow_heap w b c ((c.toList.take pos++l++c.toList.drop (pos+l.length)).toArray) ty (0,0) hc;simp only[World.cell?,hh,hc]
  grind
 ·grind [setRow_other]
 ·intro t ⟨c',ty',hc',ht⟩;rw[hc] at hc';cases hc';refine⟨_,ty,setRow_heap w b c _ ty (0,0) hc,?_⟩;simp;omega
 ·intro B hB;refine⟨⟨rfl,rfl,rfl,?_,fun k hk=>setRow_other w b k _ (by omega)⟩,fun x _=>?_,by exact B0 _⟩
  ·simp[World.setRow]
  ·have hh:=setRow_heap w b c ((c.toList.take pos++l++c.toList.drop (pos+l.length)).toArray) ty (0,0) hc
   grind [setRow_other,World.frozen?]
def iz(v:Value)(vs:Array Value)(off:Nat)(h:off+v.cells.size<=vs.size):
 (v.cells.zipIdx.foldl (fun cs(p:Value×Nat)=>cs.setIfInBounds (off+p.2) p.1) vs).size=vs.size/\
  ∀c:Nat,(v.cells.zipIdx.foldl (fun cs(p:Value×Nat)=>cs.setIfInBounds (off+p.2) p.1) vs)[c]?=if off<=c/\c<off+v.cells.size then v.cells[c-off]? else vs[c]?:=by
 have e:v.cells.zipIdx.foldl (fun cs(p:Value×Nat)=>cs.setIfInBounds (off+p.2) p.1) vs=(v.cells.toList.zipIdx 0).foldl (fun cs(p:Value×Nat)=>cs.setIfInBounds (off+p.2) p.1) vs:=by
  rw[<-Array.foldl_toList];simp
 rw[e];have hsz:=fq off (v.cells.toList.zipIdx 0) vs;have hget:=fun j=>fO off j v.cells.toList 0 vs (by simp;omega);generalize (v.cells.toList.zipIdx 0).foldl (fun cs(p:Value×Nat)=>cs.setIfInBounds (off+p.2) p.1) vs=us at*
 refine⟨hsz,fun c=>?_⟩;have:=hget c;simp only[C7,F3] at this;by_cases hc:c<us.size
 ·have e1:us.getD c undef=us[c]:=by simp only[F5,hc,dite_true];rfl
  rw[e1] at this;rw[C5 hc,this];split
  ·grind
  ·have:c<vs.size:=by omega
   simp_all
 grind
def tf{y x z:AV}{off:Nat}(h:setPart y off x=some z)(hx:0<x.width)(hy:0<y.width):z.width=y.width:=by
 unfold setPart at h;by_cases hya:y.isAgg=true
 ·rw[u7 hya] at h;cases y<;>simp[AV.isAgg] at hya;rename_i cs;by_cases hxa:x.isAgg=true
  ·rw[u7 hxa] at h;by_cases h1:off=0/\x.width=(AV.agg cs).width
   ·simp_all
   ·rw[u6 h1] at h;by_cases h2:off+x.width<=(AV.agg cs).width
    ·rw[u7 h2] at h;cases h;simp only[AV.width,AV.cells] at h2⊢;rw[kI];rw[fL];exact h2
    simp_all
  ·rw[u6 hxa] at h;by_cases h2:off+1<=(AV.agg cs).width
   ·rw[u7 h2] at h;cases h;have:x.cells.length=1:=by rw[fL];cases x<;>simp_all [AV.width,AV.isAgg]
    simp_all [kI,AV.width,AV.cells]
   simp_all
 ·rw[u6 hya] at h;by_cases h1:off=0/\x.isAgg=false/\y.width=1
  ·rw[u7 h1] at h;cases h;rw[h1.2.2];have:=h1.2.1;cases x<;>simp_all [AV.width,AV.isAgg]
  simp_all
def CT(v0 v v1:Value)(off:Nat):Prop:=v1.cells.size=v0.cells.size/\off+v.cells.size<=v0.cells.size/\
 ∀c:Nat,v1.cells[c]?=if off<=c/\c<off+v.cells.size then v.cells[c-off]? else v0.cells[c]?
def AM{v:Value}{vs:Array Value}{off:Nat}(h:off+v.cells.size<=vs.size):CT (.agg vs) v (.agg (v.cells.zipIdx.foldl (fun cs(p:Value×Nat)=>cs.setIfInBounds (off+p.2) p.1) vs)) off:=by
 obtain⟨h1,h2⟩:=iz v vs off h;exact⟨by grind [Value.cells],by simpa[Value.cells] using h,by grind [Value.cells]⟩
theorem jS{v0 v:Value}(h:v.cells.size=v0.cells.size):CT v0 v v 0:=by
 refine⟨h,by omega,fun c=>?_⟩
 simp_all
def kO{y x z:AV}{off:Nat}(h:setPart y off x=some z)(hx:0<x.width):0<y.width:=by
 unfold setPart at h
 grind
theorem Rep.setPart{S:Nat->Prop}{B:Nat}{v0 v:Value}{y x z:AV}{off:Nat}(h0:Rep w S B β v0 y)(h:Rep w S B β v x)(hx:0<x.width)(hp:Vs.setPart y off x=some z):
 ∃v1,CT v0 v v1 off/\Rep w S B β v1 z/\∀r∈z.ments,r∈y.ments\/r∈x.ments:=by
 have hy:=kO hp hx;have hw0:=(h0.width hy).1;have hw:=(h.width hx).1;unfold Vs.setPart at hp;by_cases hya:y.isAgg=true
 ·rw[u7 hya] at hp;cases y<;>simp[AV.isAgg] at hya;rename_i cs;obtain⟨vs,rfl,h2,h3,h4⟩:=h0.agg_inv;have part:off+x.width<=cs.length->∃v1,CT (.agg vs) v v1 off/\Rep w S B β v1 (.agg (Vs.fill cs off x))/\∀r∈(AV.agg (Vs.fill cs off x)).ments,r∈(AV.agg cs).ments\/r∈x.ments:=by
   intro hle;have hc:=ww.fill (off:=off) ⟨h2,h3,h4⟩ h hx hle;refine⟨_,AM (by omega),.agg _ _ hc.1 hc.2.1 hc.2.2,?_⟩;intro r hr;simp only[AV.ments] at hr⊢;exact sI r hr
  by_cases hxa:x.isAgg=true
  ·rw[u7 hxa] at hp;by_cases h1:off=0/\x.width=(AV.agg cs).width
   ·rw[u7 h1] at hp;cases hp;obtain⟨rfl,h1⟩:=h1;exact⟨v,jS (by omega),h,fun r hr=>.inr hr⟩
   ·rw[u6 h1] at hp;by_cases h2:off+x.width<=(AV.agg cs).width
    ·rw[u7 h2] at hp;cases hp;exact part h2
    simp_all
  ·rw[u6 hxa] at hp;by_cases h2:off+1<=(AV.agg cs).width
   ·rw[u7 h2] at hp;cases hp;have:x.width=1:=by cases x<;>simp_all [AV.width,AV.isAgg]
    exact part (by rw[this];exact h2)
   simp_all
 ·rw[u6 hya] at hp;by_cases h1:off=0/\x.isAgg=false/\y.width=1
  ·rw[u7 h1] at hp;cases hp;obtain⟨rfl,h1,hy1⟩:=h1;have hx1:x.width=1:=by cases x<;>simp_all [AV.width,AV.isAgg]
   grind [jS]
  simp_all
def dz.laid{b pos off:Nat}{v0 v v1:Value}(h:dz w b pos v0)(hl:CT v0 v v1 off)(h1:∀c∈v.cells,c.oneCell'=true)
 (hw':∀p,w'.cell? ⟨b,p,none⟩=if pos+off<=p/\p<pos+off+v.cells.toList.length then v.cells.toList[p-(pos+off)]? else w.cell? ⟨b,p,none⟩):dz w' b pos v1:=by
 intro i x hx;rw[hl.2.2 i] at hx;rw[hw'];simp only[F3,E0];split at hx
 ·grind
 ·rw[u6 (by omega)];exact h i x hx
section ops
variable{o:Oper}{K:AV->List (Nat×Row)->Prop}(h:RR n w0 S0 σ a w tag β)(hod:o.dst=none)
include h hod
def tQ{t k:Nat}{x v:Operand}{x' v':X}{r off:Nat}{y z:AV}(hop:o.op=.store t x v)(hm:bd P (.store t x v) (.store k x' v')=true)
 (hw:(σ.gx v').width=k) (hx:σ.gx x'=.pt r 0 off) (hrow:σ.row r=some (.var y)) (hz:Vs.setPart y off (σ.gx v')=some z) (hk:K .top [(r,.var z)]):Snd P n w0 S0 σ o K a w:=by
 simp[bd] at hm;obtain⟨⟨⟨h1,h2⟩,h3⟩,h4⟩:=hm;obtain⟨hxr,_⟩:=h.gx h3;obtain⟨hvr,hvd⟩:=h.gx h4;rw[hx] at hxr;obtain⟨b,p,v0,hb,⟨t1,t2,t3⟩,hva,hr,hwd⟩:=h.var hrow;obtain⟨b',o',sz',cap',len',hb',hv⟩:=h.pt_inv (by rw[hrow];trivial) hxr;rw[hb] at hb';cases hb';simp only[F6,C7] at hv;have hvw:=hvr.width (by omega);obtain⟨v1,hl,hr1,hm1⟩:=hr.setPart hvr (by omega) hz;have hlen:(a.eval v).cells.toList.length=(a.eval v).cells.size:=by simp
 obtain⟨w',hrun,hcell,hoth,hfree,hbel⟩:=li (P:=P) (w:=w) (b:=b) (pos:=p+off) (l:=(a.eval v).cells.toList)
  (by obtain⟨c,ty,e1,e2⟩:=t3;exact⟨c,ty,e1,by have:=hl.2.1;omega⟩) (fun u hu=>hvw.2 u (by simpa using hu))
 have hne:∀b',Imm tag b'->b'≠b:=by rintro b' (e|⟨q,e⟩) rfl<;>rw[t1] at e<;>cases e
 have himm:∀b',Imm tag b'->Imm tag b'/\w'.heap[b']?=w.heap[b']?:=fun b' hb'=>⟨hb',hoth b' (hne b' hb')⟩;have hmove:=h.move (w':=w') (tag':=tag) (rs:=[]) (d:=r) (row:=.var z) (own:=β r) (by simp) (.inr ⟨rfl,by rw[show aB r σ.rows=σ.row r from rfl,hrow];trivial⟩) (hbel _ t2) himm
  (fun b' hb'=>A7 (h.lt b' hb') (hbel _ (B0 b)).size)
  (fun b' _ ht=>⟨rfl,hoth b' (by grind)⟩)
  (fun b' q _ hq hb'=>⟨hb',hoth b' (by grind)⟩)
  (fun b' q _ _ hb'=>hb')
  ⟨b,p,v1,by simp[hb,hl.1],⟨t1,t2,hfree _ (by rw[hl.1];exact t3)⟩,hva.laid hl hvw.2 hcell,
   by
    have e:(fun q=>if q=r then β r else if q∈([]:List Nat) then none else β q)=β:=by
     funext q;by_cases e:q=r<;>simp[e]
    rw[e];exact hr1.mono himm fun _ _=>.inl rfl,
   by rw[hl.1,hwd,tf hz (by omega) (kO hz (by omega))]⟩
  (fun y' hy' q hq=>by
   cases hy';rcases hm1 q hq with hq|hq
   ·exact h.wfr r y hrow q hq
   ·exact hvd q hq)
 intro next Q hn
 have hsz:(a.eval v).cells.size=k:=by rw[hvw.1,hw]
 have hr2:(execOp a.eval o).run P w=.ok .skip w':=by
  simp[execOp,hop,Instr.storeAt,hv,Instr.sureAddr,storeVar,qn h1,hsz,hrun]
 unfold Oper.wp;rw[hr2];refine hn _ _ _ _ hk ?_;rw[hod];exact⟨_,_,hmove⟩
end ops
end Vs

namespace Vs
open Go Go.RowKit
variable{P:Program}{n:Nat}{w0:World}{S0:Fx}{σ:St}{a:Act}{w w':World}{tag tag':Nat->Tag}{β β':Nat->Option Own}
variable{S:Nat->Prop}{B:Nat}{v:Value}{fp:List Nat}{x:AV}
def aX.agg_at{cs:List AV}(h:aX w S B v (.agg cs) fp):∃vs fps,v=.agg vs/\vs.size=cs.length/\(∀x∈vs,x.oneCell'=true)/\
 (∀(j:Nat)(x:AV),cs[j]?=some x->aX w S B (vs.getD j undef) x (fps j))/\fp=cz cs.length fps:=by
 cases h with
 |agg vs cs fps hs h1 hx=>grind
def aX.cells_at(h:aX w S B v x fp)(hw:0<x.width):∃fps,v.cells.size=x.cells.length/\(∀c∈v.cells,c.oneCell'=true)/\
 (∀(j:Nat)(c:AV),x.cells[j]?=some c->aX w S B (v.cells.getD j undef) c (fps j))/\fp=cz x.cells.length fps:=by
 cases hx:x.isAgg with
 | true =>
   cases x<;>simp[AV.isAgg] at hx;obtain⟨vs,fps,rfl,h2,h3,h4,h5⟩:=h.agg_at;exact⟨fps,h2,h3,h4,h5⟩
 | false =>
   have h3:x.width=1:=by cases x<;>simp_all [AV.width,AV.isAgg]
   have hc:x.cells=[x]:=by cases x<;>simp_all [AV.width,AV.isAgg,AV.cells]
   obtain⟨h4,h5⟩:=h.one hx h3;rw[h4,hc];refine⟨fun _=>fp,rfl,by simpa using h5,fun j y hj=>?_,by simp[cz,G3]⟩;cases j with
   |zero=>simp_all
   |succ j=>simp at hj
def aX.width(h:aX w S B v x fp)(hw:0<x.width):v.cells.size=x.width:=by
 obtain⟨_,h1,_⟩:=h.cells_at hw;rw[h1,fL]
theorem aX.setPart{v0:Value}{y z:AV}{off:Nat}{fp0 fpx:List Nat}(h0:aX w S B v0 y fp0)(h:aX w S B v x fpx)(hx:0<x.width)(hp:Vs.setPart y off x=some z)
 (n0:fp0.Nodup) (nx:fpx.Nodup) (hd:∀b∈fp0,b∉fpx):
 ∃v1 fp1,CT v0 v v1 off/\aX w S B v1 z fp1/\fp1.Nodup/\∀b∈fp1,b∈fp0\/b∈fpx:=by
 have hy:=kO hp hx;have hw0:=h0.width hy;have hw:=h.width hx;unfold Vs.setPart at hp;by_cases hya:y.isAgg=true
 ·rw[u7 hya] at hp;cases y<;>simp[AV.isAgg] at hya;rename_i cs;obtain⟨vs,fps,rfl,h2,h3,h4,rfl⟩:=h0.agg_at;have part:off+x.width<=cs.length->∃v1 fp1,CT (.agg vs) v v1 off/\aX w S B v1 (.agg (Vs.fill cs off x)) fp1/\fp1.Nodup/\∀b∈fp1,b∈cz cs.length fps\/b∈fpx:=by
   intro hle;obtain⟨fx,x1,x2,x3,rfl⟩:=h.cells_at hx;have hcl:x.cells.length=x.width:=fL;have hl:=AM (v:=v) (vs:=vs) (off:=off) (by omega);obtain⟨z1,z2⟩:=iz v vs off (by omega);generalize v.cells.zipIdx.foldl (fun cs(p:Value×Nat)=>cs.setIfInBounds (off+p.2) p.1) vs=us at*
   have flen:(Vs.fill cs off x).length=cs.length:=kI (by omega);have hget:∀j,j<us.size->us.getD j undef=if off<=j/\j<off+v.cells.size then v.cells.getD (j-off) undef else vs.getD j undef:=by
    intro j hj;have:=z2 j;simp only[Array.getD_eq_getD_getElem?,this];split<;>rfl
   have:=aX.agg (w:=w) (S:=S) (B:=B) us (Vs.fill cs off x) (fun j=>if off<=j/\j<off+x.cells.length then fx (j-off) else fps j) (by omega)
    (fun u hu=>by
     obtain⟨j,hj,rfl⟩:=E8.1 hu;have e:=hget j hj;have e1:us.getD j undef=us[j]:=by simp only[F5,hj,dite_true];rfl
     rw[e1] at e;rw[e];split
     ·rename_i hh;have hlt:j-off<v.cells.size:=by omega
      have:v.cells.getD (j-off) undef=v.cells[j-off]:=by simp only[F5,hlt,dite_true];rfl
      rw[this];exact x2 _ (F7 _)
     ·have hlt:j<vs.size:=by omega
      have:vs.getD j undef=vs[j]:=by simp only[F5,hlt,dite_true];rfl
      rw[this];exact h3 _ (F7 _))
    (fun j c hj=>by
     have hjl:j<us.size:=by have:=(A0.1 hj).1;omega
     rw[EU (by omega)] at hj;rw[hget j hjl];split at hj
     ·rename_i hh;rw[u7 (by omega),u7 hh];exact x3 _ _ hj
     ·rename_i hh;rw[u6 (by omega),u6 hh];exact h4 _ _ hj)
   obtain⟨i1,i2⟩:=bR n0;obtain⟨j1,j2⟩:=bR nx;refine⟨_,_,hl,this,?_,?_⟩
   ·rw[flen];refine dF (fun j hj=>?_) (fun i j hi hj hij b hb hb'=>?_)
    ·split
     ·exact j1 _ (by omega)
     ·exact i1 _ hj
    ·by_cases ci:off<=i/\i<off+x.cells.length
     ·rw[u7 ci] at hb;by_cases cj:off<=j/\j<off+x.cells.length
      ·rw[u7 cj] at hb';exact j2 _ _ (by omega) (by omega) (by omega) b hb hb'
      ·rw[u6 cj] at hb';exact hd b (be.2 ⟨j,hj,hb'⟩) (be.2 ⟨_,by omega,hb⟩)
     ·rw[u6 ci] at hb;by_cases cj:off<=j/\j<off+x.cells.length
      ·rw[u7 cj] at hb';exact hd b (be.2 ⟨i,hi,hb⟩) (be.2 ⟨_,by omega,hb'⟩)
      ·rw[u6 cj] at hb';exact i2 i j hi hj hij b hb hb'
   ·intro b hb;obtain⟨j,hj,hb⟩:=be.1 hb;split at hb
    ·exact .inr (be.2 ⟨_,by omega,hb⟩)
    ·exact .inl (be.2 ⟨j,by omega,hb⟩)
  by_cases hxa:x.isAgg=true
  ·rw[u7 hxa] at hp;by_cases h1:off=0/\x.width=(AV.agg cs).width
   ·rw[u7 h1] at hp;cases hp;obtain⟨rfl,h1⟩:=h1;exact⟨v,fpx,jS (by omega),h,nx,fun b hb=>.inr hb⟩
   ·rw[u6 h1] at hp;by_cases h2:off+x.width<=(AV.agg cs).width
    ·rw[u7 h2] at hp;cases hp;exact part h2
    ·rw[u6 h2] at hp;cases hp
  ·rw[u6 hxa] at hp;by_cases h2:off+1<=(AV.agg cs).width
   ·rw[u7 h2] at hp;cases hp;have:x.width=1:=by cases x<;>simp_all [AV.width,AV.isAgg]
    exact part (by rw[this];exact h2)
   ·rw[u6 h2] at hp;cases hp
 ·rw[u6 hya] at hp;by_cases h1:off=0/\x.isAgg=false/\y.width=1
  ·rw[u7 h1] at hp;cases hp;obtain⟨rfl,h1,hy1⟩:=h1;have hx1:x.width=1:=by cases x<;>simp_all [AV.width,AV.isAgg]
   exact⟨v,fpx,jS (by omega),h,nx,fun b hb=>.inr hb⟩
  ·rw[u6 h1] at hp;cases hp
section ops
variable{o:Oper}{K:AV->List (Nat×Row)->Prop}(h:RR n w0 S0 σ a w tag β)(hod:o.dst=none)
include h hod
def tt{t k q:Nat}{x v:Operand}{x' v':X}{r i off:Nat}{es:List AV}{y z:AV}(hop:o.op=.store t x v)(hm:bd P (.store t x v) (.store k x' v')=true)
 (hw:(σ.gx v').width=k) (hx:σ.gx x'=.pt r i off) (hrow:σ.row r=some (.arr q es)) (hy:es[i]?=some y) (hnr:r∉(σ.gx v').ments) (hnd:(σ.gx v').ments.Nodup)
 (hlw:(Vs.lift σ.row 2 (σ.gx v')).width=(σ.gx v').width) (hz:Vs.setPart y off (Vs.lift σ.row 2 (σ.gx v'))=some z) (hk:K .top (bP (σ.gx v').ments++[(r,.arr q (es.set i z))])):Snd P n w0 S0 σ o K a w:=by
 simp[bd] at hm;obtain⟨⟨⟨h1,h2⟩,h3⟩,h4⟩:=hm;obtain⟨hxr,_⟩:=h.gx h3;obtain⟨hvr,hvd⟩:=h.gx h4;rw[hx] at hxr;have hvw:=hvr.width (by omega);have hil:i<es.length:=(A0.1 hy).1;rcases h.arr hrow with⟨_,rfl⟩|⟨b,p,cap,vs,fps,hb,⟨t1,t2,t3⟩,hlc,hva,hxx,hnd',huq⟩
 ·simp at hy
 obtain⟨b',o',sz',cap',len',hb',hv⟩:=h.pt_inv (by rw[hrow];trivial) hxr;rw[hb] at hb';cases hb';obtain⟨fpx,l1,l2,l3⟩:=h.lift (rs:=(σ.gx v').ments) (d:=r) 2 (σ.gx v') (a.eval v) hvr hnd (fun _ h=>h);obtain⟨n1,n2⟩:=bR hnd';have himmh:∀c,Imm tag c->Imm (dD (σ.gx v').ments r tag) c/\w.heap[c]?=w.heap[c]?:=fun c hc=>⟨kQ hc,rfl⟩;have hdis:∀c∈fps i,c∉fpx:=by
  intro c hc hc';have e1:=huq c (be.2 ⟨i,hil,hc⟩);obtain⟨q',hq',e2|e2⟩:=l3 c hc'<;>rw[e1] at e2<;>cases e2;exact hnr hq'
 obtain⟨v1,fp1,hl,hr1,hn1,hsub⟩:=((hxx i y hy).mono himmh).setPart l1 (by omega) hz (n1 i hil) l2 hdis;have hyw:=hva i y hy;have hlen:(a.eval v).cells.toList.length=(a.eval v).cells.size:=by simp
 have hle:i*q+q<=cap*q:=by
  have:(i+1)*q<=cap*q:=A1 q (by omega);rw[A8,C9] at this;exact this
 have hb2:=hl.2.1;obtain⟨w',hrun,hcell,hoth,hfree,hbel⟩:=li (P:=P) (w:=w) (b:=b) (pos:=p+i*q+off) (l:=(a.eval v).cells.toList)
  (by obtain⟨c,ty,e1,e2⟩:=t3;exact⟨c,ty,e1,by omega⟩) (fun u hu=>hvw.2 u (by simpa using hu))
 have hne:∀b',Imm (dD (σ.gx v').ments r tag) b'->b'≠b:=by
  rintro b' hb' rfl;have:dD (σ.gx v').ments r tag b'=.own r:=by simp[dD,t1,hnr]
  rcases hb' with e|⟨q,e⟩<;>rw[this] at e<;>cases e
 have himm:∀b',Imm (dD (σ.gx v').ments r tag) b'->Imm (dD (σ.gx v').ments r tag) b'/\w'.heap[b']?=w.heap[b']?:=fun b' hb'=>⟨hb',hoth b' (hne b' hb')⟩;have hother:∀j x,j≠i->es[j]?=some x->dz w' b (p+j*q) (vs j):=by
  intro j x hji hj c u hu;rw[hcell];have hjw:=hva j x hj;have hcq:c<q:=by have:=(A9.1 hu).1;omega
  rw[u6]
  ·exact hjw.2 c u hu
  ·have hsz:(a.eval v).cells.toList.length<=q-off:=by omega
   rcases D3 j i with e|e
   ·have:(j+1)*q<=i*q:=A1 q (by omega)
    grind
   ·have:(i+1)*q<=j*q:=A1 q (by omega)
    grind
 have hmove:=h.move (w':=w') (tag':=dD (σ.gx v').ments r tag) (rs:=(σ.gx v').ments) (d:=r) (row:=.arr q (es.set i z)) (own:=β r) hnr (.inr ⟨rfl,by rw[show aB r σ.rows=σ.row r from rfl,hrow];trivial⟩) (hbel _ t2)
  (fun b' hb'=>himm b' (kQ hb'))
  (fun b' hb'=>A7 (h.lt b' (mT hb')) (hbel _ (B0 b)).size)
  (fun b' _ ht=>⟨yv ht,hoth b' (by grind)⟩)
  (fun b' q' hq hqr hb'=>⟨by simp[dD,hb',hq],hoth b' (by grind)⟩)
  (fun b' q' hq _ hb'=>by simp[dD,hb',hq])
  (.inr ⟨b, p, cap, fun j => if j = i then v1 else vs j, fun j => if j = i then fp1 else fps j, by simp [hb], ⟨by simp [dD, t1, hnr], t2, hfree _ t3⟩, by simpa using hlc,
    fun j x hj=>by
     rw[F8] at hj;by_cases e:i=j
     ·subst e;rw[u7 rfl,u7 hil] at hj;simp only[if_true];exact⟨by rw[hl.1];exact hyw.1,hyw.2.laid hl hvw.2 hcell⟩
     grind,
    fun j x hj=>by
     rw[F8] at hj;by_cases e:i=j
     ·subst e;rw[u7 rfl,u7 hil] at hj;simp only[if_true];cases hj;exact hr1.mono himm
     ·rw[u6 e] at hj;simp only[Ne.symm e,if_false];exact(hxx j x hj).mono fun c hc=>himm c (kQ hc),
    by
     rw[G4];refine dF (fun j hj=>?_) (fun j1 j2 hj1 hj2 hne c hc hc'=>?_)
     ·grind
     ·have hcross:∀j,j<es.length->j≠i->∀c∈fps j,c∉fp1:=by
       intro j hj hji c hc hc1;rcases hsub c hc1 with h9|h9
       ·grind
       ·have e1:=huq c (be.2 ⟨j,hj,hc⟩);obtain⟨q',hq',e2|e2⟩:=l3 c h9<;>rw[e1] at e2<;>cases e2;exact hnr hq'
      grind,
    fun c hc=>by
     rw[G4] at hc;obtain⟨j,hj,hc⟩:=be.1 hc;have fromfps:∀j,j<es.length->c∈fps j->dD (σ.gx v').ments r tag c=.uq r:=by
      intro j hj hc;have e1:=huq c (be.2 ⟨j,hj,hc⟩);simp[dD,e1,hnr]
     by_cases e:j=i
     ·simp only[e,if_true] at hc;rcases hsub c hc with h9|h9
      ·exact fromfps i hil h9
      ·exact(jG (l3 c h9)).2
     grind⟩)
  (fun y' hy'=>by cases hy')
 intro next Q hn
 have hsz:(a.eval v).cells.size=k:=by rw[hvw.1,hw]
 have hr2:(execOp a.eval o).run P w=.ok .skip w':=by
  simp[execOp,hop,Instr.storeAt,hv,Instr.sureAddr,storeVar,qn h1,hsz,hrun]
 unfold Oper.wp;rw[hr2];refine hn _ _ _ _ hk ?_;rw[hod];exact⟨_,_,hmove⟩
end ops
end Vs

namespace Vs
open Go Go.RowKit
variable{P:Program}{n:Nat}{w0:World}{S0:Fx}{σ:St}{a:Act}{w w':World}{tag tag':Nat->Tag}{β β':Nat->Option Own}
variable{k:Nat}{rs:List Nat}{us:Nat->Value}{b d l:Nat}
def cellsOf(us:Nat->Value)(l:Nat):List Value:=(List.range l).flatMap fun j=>(us j).cells.toList
theorem ec(us:Nat->Value)(l:Nat):cellsOf us (l+1)=cellsOf us l++(us l).cells.toList:=by simp[cellsOf,G3]
theorem cH(h:∀j,j<l->(us j).cells.size=k):(cellsOf us l).length=l*k:=by
 induction l with
 |zero=>simp[cellsOf]
 | succ l ih =>
   grind [ec,List.length_append,Nat.add_mul]
theorem hJ(h:∀j,j<l->(us j).cells.size=k){j c:Nat}(hj:j<l)(hc:c<k):(cellsOf us l)[j*k+c]?=(us j).cells[c]?:=by
 induction l with
 |zero=>omega
 | succ l ih =>
   rw[ec];have hlen:=cH (us:=us) (k:=k) (l:=l) fun j hj=>h j (by omega);by_cases e:j=l
   ·subst e;rw[C1 (by omega),hlen,E0];congr 1;omega
   ·have hjl:j<l:=by omega
    have:(j+1)*k<=l*k:=A1 k hjl;rw[A8,C9] at this;rw[C6 (by omega)];exact ih (fun j hj=>h j (by omega)) hjl
def ky(h:∀j,j<l->(us j).cells.size=k)(hk:0<k){i:Nat}{v:Value}(hi:(cellsOf us l)[i]?=some v):
 i/k<l/\(us (i/k)).cells[i%k]?=some v:=by
 have hlt:=(A0.1 hi).1;rw[cH h] at hlt;have h1:i/k<l:=E9 (by grind);refine⟨h1,?_⟩;rw[<-hJ h h1 (Nat.mod_lt i hk)]
 grind [Nat.mul_comm,Nat.div_add_mod]
structure Els(w:World)(tag:Nat->Tag)(B k:Nat)(rs:List Nat)(xs:List AV)(us:Nat->Value)(fps:Nat->List Nat):Prop where
 sz:∀j x,xs[j]?=some x->(us j).cells.size=k
 one:∀j x,xs[j]?=some x->∀c∈(us j).cells,c.oneCell'=true
 rep:∀j x,xs[j]?=some x->aX w (Imm tag) B (us j) x (fps j)
 nd:(cz xs.length fps).Nodup
 uq:∀c∈cz xs.length fps,∃q∈rs,tag c=.uq q
def ox{pos:Nat}{v:Value}(h:dz w b pos v):∀c∈v.cells,c.oneCell'=true:=by
 intro c hc;obtain⟨i,hi,rfl⟩:=E8.1 hc;exact(h i _ (C5 hi)).2
def Els.append{B:Nat}{rs':List Nat}{xs ys:List AV}{us':Nat->Value}{fps fps':Nat->List Nat}(h:Els w tag B k rs xs us fps)(h':Els w tag B k rs' ys us' fps')
 (hd:∀q∈rs,q∉rs'):Els w tag B k (rs++rs') (xs++ys) (fun j=>if j<xs.length then us j else us' (j-xs.length)) (fun j=>if j<xs.length then fps j else fps' (j-xs.length)):=by
 have split:∀(j:Nat)(x:AV),(xs++ys)[j]?=some x->(j<xs.length/\xs[j]?=some x)\/(¬j<xs.length/\ys[j-xs.length]?=some x):=by
  intro j x hj;by_cases e:j<xs.length
  ·rw[C6 e] at hj;exact .inl ⟨e,hj⟩
  ·rw[C1 (by omega)] at hj;exact .inr ⟨e,hj⟩
 obtain⟨i1,i2⟩:=bR h.nd;obtain⟨j1,j2⟩:=bR h'.nd;have hcross:∀i j,i<xs.length->j<ys.length->∀c∈fps i,c∉fps' j:=by
  intro i j hi hj c hc hc';obtain⟨q,hq,e1⟩:=h.uq c (be.2 ⟨i,hi,hc⟩);obtain⟨q',hq',e2⟩:=h'.uq c (be.2 ⟨j,hj,hc'⟩);rw[e1] at e2;cases e2;exact hd q hq hq'
 constructor
 ·intro j x hj;rcases split j x hj with⟨e,hj⟩|⟨e,hj⟩
  ·simp only[e,if_true];exact h.sz j x hj
  ·simp only[e,if_false];exact h'.sz _ x hj
 ·intro j x hj;rcases split j x hj with⟨e,hj⟩|⟨e,hj⟩
  ·simp only[e,if_true];exact h.one j x hj
  ·simp only[e,if_false];exact h'.one _ x hj
 ·intro j x hj;rcases split j x hj with⟨e,hj⟩|⟨e,hj⟩
  ·simp only[e,if_true];exact h.rep j x hj
  ·simp only[e,if_false];exact h'.rep _ x hj
 ·rw[B7];refine dF (fun j hj=>?_) (fun i j hi hj hij c hc hc'=>?_)
  ·grind
  grind
 ·intro c hc;rw[B7] at hc;obtain⟨j,hj,hc⟩:=be.1 hc;by_cases e:j<xs.length
  ·simp only[e,if_true] at hc;obtain⟨q,hq,e1⟩:=h.uq c (be.2 ⟨j,e,hc⟩)
   simp_all
  ·simp only[e,if_false] at hc;obtain⟨q,hq,e1⟩:=h'.uq c (be.2 ⟨_,by omega,hc⟩)
   simp_all
def ko(rs:List Nat)(d:Nat)(tag:Nat->Tag)(b:Nat):Tag:=match tag b with
 | .own r=>if r∈rs then .out else .own r
 | .uq r=>if r∈rs then .uq d else .uq r
 |t=>t
def zM(h:Imm tag b):Imm (ko rs d tag) b:=by
 grind [Imm,ko]
def AI(h:ko rs d tag b≠.out):tag b≠.out:=by
 grind [ko]
def zt(hb:tag b=.imm\/tag b=.out):ko rs d tag b=tag b:=by
 grind [ko]
def Ft(w:World)(b o k:Nat)(xs:List AV)(us:Nat->Value):Prop:=∀j x,xs[j]?=some x->dz w b (o+j*k) (us j)
def RR.take(h:RR n w0 S0 σ a w tag β)(hd:d<n)(hnone:σ.row d=none)(hdr:d∉rs){xs:List AV}{fps:Nat->List Nat}{o cap:Nat}{w':World}
 (he:Els w tag w0.heap.size k rs xs us fps) (hbelow:Below w0.heap.size w w') (hB:w0.heap.size<=b) (hb:w.heap.size<=b\/∃q∈rs,tag b=.own q) (hb':b<w'.heap.size)
 (hheap:∀c,c<w.heap.size->c≠b->w'.heap[c]?=w.heap[c]?) (hfree:Free w' b (o+cap*k)) (hcap:xs.length<=cap) (hlie:Ft w' b o k xs us):
 R n w0 S0 (σ.app (some d) (.sl d 0 xs.length) (bP rs++[(d,.arr k xs)])) (a.put (some d) (.slice (some ⟨b,o,none⟩) xs.length cap)) w':=by
 have hdn:aB d σ.rows=none:=hnone;have hltw:∀c,tag c≠.out->c<w.heap.size:=h.lt;have hbno:¬Imm tag b:=by
  intro hi;rcases hb with hb|⟨q,_,hb⟩
  ·have:=hltw b (by rcases hi with e|⟨r,e⟩<;>simp[e]);omega
  ·rcases hi with e|⟨r,e⟩<;>rw[hb] at e<;>cases e
 have himm:∀c,Imm tag c->Imm (fun c=>if c=b then Tag.own d else ko rs d tag c) c/\w'.heap[c]?=w.heap[c]?:=by
  intro c hc;have hne:c≠b:=fun e=>hbno (e▸hc);refine⟨?_,hheap c (hltw c (by rcases hc with e|⟨r,e⟩<;>simp[e])) hne⟩;have:=zM (rs:=rs) (d:=d) hc;unfold Imm at this⊢;simp only[if_neg hne];exact this
 have hmove:=h.move (w':=w') (tag':=fun c=>if c=b then Tag.own d else ko rs d tag c) (rs:=rs) (d:=d) (row:=.arr k xs) (own:=some (.blk b o k cap xs.length)) hdr (.inl ⟨hdn,by have:=h.nn;omega⟩) hbelow himm
  (fun c hc=>by
   by_cases e:c=b
   ·subst e;exact hb'
   ·rw[u6 e] at hc;exact A7 (hltw c (AI hc)) hbelow.size)
  (fun c hc ht=>by
   have hne:c≠b:=by
    rintro rfl;rcases hb with hb|⟨q,_,hb⟩
    ·omega
    ·rw[hb] at ht;rcases ht with e|e<;>cases e
   exact⟨by rw[u6 hne];exact zt ht,hheap c hc hne⟩)
  (fun c q hq hqd hc=>by
   have hne:c≠b:=by
    rintro rfl;rcases hb with hb|⟨q',hq',hb⟩
    ·have:=hltw c (by simp[hc]);omega
    ·rw[hc] at hb;cases hb;exact hq hq'
   refine⟨?_,hheap c (hltw c (by simp[hc])) hne⟩;rw[u6 hne];simp[ko,hc,hq])
  (fun c q hq hqd hc=>by
   have hne:c≠b:=fun e=>hbno (e▸.inr ⟨q,hc⟩);rw[u6 hne];simp[ko,hc,hq])
  (.inr ⟨b, o, cap, us, fps, u7 rfl, ⟨u7 rfl, hB, hfree⟩, hcap, fun j x hj => ⟨he.sz j x hj, hlie j x hj⟩, fun j x hj => (he.rep j x hj).mono himm, he.nd, fun c hc => by
    obtain⟨q,hq,e⟩:=he.uq c hc;have hne:c≠b:=fun e'=>hbno (e'▸.inr ⟨q,e⟩);show(if c=b then Tag.own d else ko rs d tag c)=.uq d;rw[u6 hne];simp[ko,e,hq]⟩)
  (fun y hy=>by cases hy)
 have hst:=hmove.step hd (v:=.slice (some ⟨b,o,none⟩) xs.length cap) (x:=.sl d 0 xs.length) (by
  have:=Rep.slB (w:=w') (S:=Imm fun c=>if c=b then Tag.own d else ko rs d tag c) (B:=w0.heap.size)
   (β:=fun r=>if r=d then some (Own.blk b o k cap xs.length) else if r∈rs then none else β r) d 0 xs.length b o k cap _ cap (u7 rfl) (by omega) (by omega) (by omega)
  simpa using this) (fun r hr=>by
  simp[AV.ments] at hr;subst hr;rw[cq,u7 rfl];rfl)
 exact⟨_,_,hst⟩
def RR.takeNil(h:RR n w0 S0 σ a w tag β)(hd:d<n)(hnone:σ.row d=none)(hdr:d∉rs):
 R n w0 S0 (σ.app (some d) (.sl d 0 0) (bP rs++[(d,.arr k [])])) (a.put (some d) (.slice none 0 0)) w:=by
 have hdn:aB d σ.rows=none:=hnone;have himm:∀c,Imm tag c->Imm (ko rs d tag) c/\w.heap[c]?=w.heap[c]?:=fun c hc=>⟨zM hc,rfl⟩;have hmove:=h.move (w':=w) (tag':=ko rs d tag) (rs:=rs) (d:=d) (row:=.arr k []) (own:=some .nil) hdr (.inl ⟨hdn,by have:=h.nn;omega⟩) (Below.refl _ _) himm
  (fun c hc=>h.lt c (AI hc)) (fun c _ ht=>⟨zt ht,rfl⟩)
  (fun c q hq hqd hc=>⟨by simp[ko,hc,hq],rfl⟩) (fun c q hq hqd hc=>by simp[ko,hc,hq])
  (.inl ⟨u7 rfl,rfl⟩) (fun y hy=>by cases hy)
 have hst:=hmove.step hd (v:=.slice none 0 0) (x:=.sl d 0 0) (.slN d (u7 rfl)) (fun r hr=>by
  simp[AV.ments] at hr;subst hr;rw[cq,u7 rfl];rfl)
 exact⟨_,_,hst⟩
end Vs

namespace Vs
open Go Go.RowKit
variable{P:Program}{n:Nat}{w0:World}{S0:Fx}{σ:St}{a:Act}{w w':World}{tag tag':Nat->Tag}{β β':Nat->Option Own}
variable{k:Nat}{v:Value}{us:Nat->Value}{ys xs:List AV}
def xP(w:World)(k:Nat)(ys:List AV)(us:Nat->Value)(v:Value):Prop:=
 (v=.slice none 0 0/\ys=[])\/∃b o c,v=.slice (some ⟨b,o,none⟩) ys.length c/\Ft w b o k ys us
def wE(w:World)(k:Nat)(ys:List AV)(us:Nat->Value)(v:Value):Prop:=xP w k ys us v\/∃ad c,v=.slice (some ad) 0 c/\ys=[]
def xn{B:Nat}{f:Fl}(h:aX w (Imm tag) B v (.lst f k ys) []):∃us fps,Els w tag B k [] ys us fps/\wE w k ys us v:=by
 rcases h.lst_inv with⟨ad,cap,rfl,rfl,had⟩|⟨b,o,cap,vs,rfl,hc,hf,hu,hva,hxx⟩
 ·refine⟨fun _=>undef,fun _=>[],⟨fun j x hj=>by simp at hj,fun j x hj=>by simp at hj,fun j x hj=>by simp at hj,by simp[cz],by simp[cz]⟩,?_⟩;cases ad with
  |some ad=>exact .inr ⟨ad,cap,rfl,rfl⟩
  |none=>rw[had.1 rfl];exact .inl (.inl ⟨rfl,rfl⟩)
 ·refine⟨vs,fun _=>[],⟨fun j x hj=>(hva j x hj).1,fun j x hj=>ox (hva j x hj).2,fun j x hj=>hxx j x hj,?_,?_⟩,.inl (.inr ⟨b,o,cap,rfl,fun j x hj=>(hva j x hj).2⟩)⟩
  ·rw[bj _ _ fun _ _=>rfl];exact B5
  ·rw[bj _ _ fun _ _=>rfl];intro c hc;cases hc
def RR.sl_els(h:RR n w0 S0 σ a w tag β){r i m:Nat}{es:List AV}(hr:σ.row r=some (.arr k es))(hv:Rep w (Imm tag) w0.heap.size β v (.sl r i m)):
 (sub es i m).length=m/\∃us fps,Els w tag w0.heap.size k [r] (sub es i m) us fps/\xP w k (sub es i m) us v:=by
 have triv:∀us,Els w tag w0.heap.size k [r] [] us (fun _=>[]):=fun us=>⟨fun j x hj=>by simp at hj,fun j x hj=>by simp at hj,fun j x hj=>by simp at hj,by simp[cz],by simp[cz]⟩;rcases h.sl_inv hr hv with⟨rfl,rfl,rfl,rfl,_⟩|⟨b,o,cap,c,hb,rfl,hic,hmc,hlm⟩|⟨b,o,cap,p,hb,rfl,rfl,hp⟩
 ·rw[nN];exact⟨rfl,fun _=>undef,fun _=>[],triv _,.inl ⟨rfl,rfl⟩⟩
 ·rcases h.arr hr with⟨e,_⟩|⟨b',o',cap',vs,fps,hb',⟨t1,t2,t3⟩,hlc,hva,hxx,hnd',huq⟩
  ·rw[hb] at e;cases e
  ·rw[hb] at hb';cases hb';obtain⟨n1,n2⟩:=bR hnd';refine⟨jL hlm,fun j=>vs (i+j),fun j=>fps (i+j),⟨fun j x hj=>(hva _ _ (jC hj).1).1,fun j x hj=>ox (hva _ _ (jC hj).1).2,fun j x hj=>hxx _ _ (jC hj).1,?_,?_⟩,.inr ⟨b,o+i*k,c,by rw[jL hlm],fun j x hj=>?_⟩⟩
   ·grind [jL,dF]
   ·grind [jL,be]
   ·have:=(hva _ _ (jC hj).1).2
    grind
 ·rw[sub_zero];exact⟨rfl,fun _=>undef,fun _=>[],triv _,.inr ⟨b,p,0,rfl,fun j x hj=>by simp at hj⟩⟩
def Els.als{B:Nat}{rs:List Nat}{fps:Nat->List Nat}(h:Els w tag B k rs xs us fps):Els w tag B k [] (dv xs) us (fun _=>[]):=by
 have at':∀(j:Nat)(x:AV),(dv xs)[j]?=some x->∃y,xs[j]?=some y/\x=y.als:=by
  intro j x hj;rw[jK] at hj;cases hk:xs[j]? with
  |none=>simp[hk] at hj
  |some y=>simp[hk] at hj;exact⟨y,rfl,hj.symm⟩
 constructor
 ·intro j x hj;obtain⟨y,hy,_⟩:=at' j x hj;exact h.sz j y hy
 ·intro j x hj;obtain⟨y,hy,_⟩:=at' j x hj;exact h.one j y hy
 ·intro j x hj;obtain⟨y,hy,rfl⟩:=at' j x hj;exact(h.rep j y hy).als
 ·rw[bj _ _ fun _ _=>rfl];exact B5
 ·rw[bj _ _ fun _ _=>rfl];intro c hc;cases hc
def xP.als(h:xP w k xs us v):xP w k (dv xs) us v:=by
 rcases h with⟨rfl,rfl⟩|⟨b,o,c,rfl,hl⟩
 ·exact .inl ⟨rfl,rfl⟩
 ·refine .inr ⟨b,o,c,by rw[ig],fun j x hj=>?_⟩;rw[jK] at hj;cases hk:xs[j]? with
  |none=>simp[hk] at hj
  |some y=>exact hl j y hk
def wE.als(h:wE w k xs us v):wE w k (dv xs) us v:=by
 rcases h with h|⟨ad,c,rfl,rfl⟩
 ·exact .inl h.als
 ·exact .inr ⟨ad,c,rfl,rfl⟩
def RR.src(h:RR n w0 S0 σ a w tag β){mv:Bool}{y:AV}{u:List (Nat×Row)}(hv:Rep w (Imm tag) w0.heap.size β v y)(hy:mh σ.row k mv y=some (ys,u)):
 ∃rs us fps,u=bP rs/\Els w tag w0.heap.size k rs ys us fps/\wE w k ys us v/\∀q∈rs,(aB q σ.rows).isSome:=by
 have cp:kt (dX k σ.row y)=some (ys,u)->∃rs us fps,u=bP rs/\Els w tag w0.heap.size k rs ys us fps/\wE w k ys us v/\∀q∈rs,(aB q σ.rows).isSome:=by
  intro hy;cases he:dX k σ.row y with
  |none=>rw[he] at hy;cases hy
  | some zs =>
    rw[he] at hy;simp only[kt,Option.some.injEq,Prod.mk.injEq] at hy;obtain⟨rfl,rfl⟩:=hy;have key:∃us fps,Els w tag w0.heap.size k [] zs us fps/\wE w k zs us v:=by
     cases y with
     | lst f q xs =>
       simp only[dX] at he;split at he
       ·rename_i e;subst e;cases he;exact xn hv.lst_inv
       ·cases he
     | tg f q xs =>
       simp only[dX] at he;split at he
       ·rename_i e;subst e;cases he;cases hv with
        |p v x hp=>cases hp
        |tg f q len ad xs hl hp=>exact xn hp
       ·cases he
     | sl r i m =>
       simp only[dX,nz] at he;cases hr:σ.row r with
       |none=>rw[hr] at he;cases he
       | some row => cases row with
         |var x=>rw[hr] at he;cases he
         |dead=>rw[hr] at he;cases he
         | arr q es =>
           rw[hr] at he;simp only at he;split at he
           ·rename_i e;subst e;cases he;obtain⟨_,us,fps,h1,h2⟩:=h.sl_els hr hv;exact⟨us,_,h1.als,.inl h2.als⟩
           ·cases he
     |_=>cases he
    obtain⟨us,fps,h1,h2⟩:=key;exact⟨[],us,fps,rfl,h1,h2,fun q hq=>by cases hq⟩
 cases mv with
 |false=>exact cp hy
 | true =>
   cases y with
   | sl r i m =>
     cases i with
     |succ i=>exact cp hy
     | zero =>
       simp only[mh,zd] at hy;cases hr:σ.row r with
       |none=>rw[hr] at hy;cases hy
       | some row => cases row with
         |var x=>rw[hr] at hy;cases hy
         |dead=>rw[hr] at hy;cases hy
         | arr q es =>
           rw[hr] at hy;simp only at hy;split at hy
           ·rename_i e;obtain⟨rfl,rfl⟩:=e;simp only[Option.some.injEq,Prod.mk.injEq] at hy;obtain⟨rfl,rfl⟩:=hy;obtain⟨_,us,fps,h1,h2⟩:=h.sl_els hr hv;have e:sub es 0 es.length=es:=by simp[sub]
            rw[e] at h1 h2;refine⟨[r],us,fps,rfl,h1,.inl h2,fun q hq=>?_⟩
            simp_all [St.row]
           ·cases hy
   |_=>exact cp hy
section run
variable{t e:TypeId}{inf:TypeInfo}{zv:Value}{k:Nat}(ht:P.underlying t=some (.slice e))(hi:P.info? e=some inf)(hz:inf.zero=some zv)(hsz:inf.size=k)(hk:0<k)
include ht hi hsz hk
omit ht hi hsz in
def jp{b o:Nat}(hsz':∀j x,ys[j]?=some x->(us j).cells.size=k)(hl:Ft w b o k ys us):
 (cellsOf us ys.length).length=ys.length*k/\(∀(j:Nat)(u:Value),(cellsOf us ys.length)[j]?=some u->w.cell? ((⟨b,o,none⟩:Addr).add j)=some u/\u.oneCell'=true):=by
 have hs:∀j,j<ys.length->(us j).cells.size=k:=fun j hj=>hsz' j ys[j] (by simp[hj]);refine⟨cH hs,fun j u hu=>?_⟩;obtain⟨h1,h2⟩:=ky hs hk hu;have:=hl (j/k) ys[j/k] (by simp[h1]) (j%k) u h2
 grind [Addr.add_lit,Nat.div_add_mod,Nat.mul_comm]
omit hk in
def yW{ty:TypeId}{b o m c:Nat}{xv:Value}{l:Nat}{news:List Value}{w':World}(hlen:(Builtin.lenOf xv).run P w=.ok l w)(hf:(Builtin.firstCells k l xv).run P w=.ok news.toArray w)(hroom:m+l<=c)
 (hst:(storeCells ⟨b,o+m*k,none⟩ news).run P w=.ok () w'):(Builtin.append_ #[t,t] ty #[.slice (some ⟨b,o,none⟩) m c,xv]).run P w=.ok (.slice (some ⟨b,o,none⟩) (m+l) c) w':=by
 simp[Builtin.append_,run_underlying ht,Go.sizeOf,typeInfo,hi,hsz,hlen,hroom,hf,Addr.add_lit,hst]
omit hk in
def wj{ty:TypeId}{xv:Value}(hlen:(Builtin.lenOf xv).run P w=.ok 0 w)(hf:(Builtin.firstCells k 0 xv).run P w=.ok #[] w):
 (Builtin.append_ #[t,t] ty #[.slice none 0 0,xv]).run P w=.ok (.slice none 0 0) w:=by
 simp[Builtin.append_,run_underlying ht,Go.sizeOf,typeInfo,hi,hsz,hlen,hf]
end run
end Vs

namespace Vs
open Go Go.RowKit
variable{P:Program}{n:Nat}{w0:World}{S0:Fx}{σ:St}{a:Act}{w w':World}{tag tag':Nat->Tag}{β β':Nat->Option Own}
def rj(us us':Nat->Value)(m l:Nat):cellsOf (fun j=>if j<m then us j else us' (j-m)) (m+l)=cellsOf us m++cellsOf us' l:=by
 induction l with
 | zero =>
   simp only[C7];have:∀q,q<=m->cellsOf (fun j=>if j<m then us j else us' (j-m)) q=cellsOf us q:=by
    intro q hq;induction q with
    |zero=>simp[cellsOf]
    |succ q ih=>rw[ec,ec,ih (by omega),u7 (by omega)]
   rw[this m (B0 _)];simp[cellsOf]
 | succ l ih =>
   have e:m+(l+1)=m+l+1:=by omega
   rw[e,ec,ih,ec,u6 (by omega),List.append_assoc];have:m+l-m=l:=by omega
   rw[this]
def RR.grown(h:RR n w0 S0 σ a w tag β){rs:List Nat}{d:Nat}(hd:d<n)(hnone:σ.row d=none)(hdr:d∉rs){xs:List AV}{us:Nat->Value}{fps:Nat->List Nat}{k ncap:Nat}{e:TypeId}
 (he:Els w tag w0.heap.size k rs xs us fps) (hcap:xs.length<=ncap) {cs:Array Value} (hsz:cs.size=ncap*k) (hcs:∀i,i<xs.length*k->cs[i]?=(cellsOf us xs.length)[i]?):
 R n w0 S0 (σ.app (some d) (.sl d 0 xs.length) (bP rs++[(d,.arr k xs)])) (a.put (some d) (.slice (some ⟨w.heap.size,0,none⟩) xs.length ncap)) (w.drew.alloc (.cells cs e)):=by
 refine h.take hd hnone hdr he (((Below.refl _ _).drew).alloc h.below.size _) h.below.size (.inl (B0 _)) (by simp) (fun c hc _=>by
  have:(w.drew.alloc (.cells cs e)).heap[c]?=w.drew.heap[c]?:=Below.heap_alloc w.drew _ c hc;exact this)
  ⟨cs,e,heap_alloc_new w.drew _,by omega⟩ hcap ?_
 intro j x hj i u hu;have hjl:j<xs.length:=(A0.1 hj).1;have hs:∀j,j<xs.length->(us j).cells.size=k:=fun j hj=>he.sz j xs[j] (by simp[hj]);have hik:i<k:=by have:=(A9.1 hu).1;rw[hs j hjl] at this;exact this
 refine⟨?_,he.one j x hj u (B3 hu)⟩;have:(j+1)*k<=xs.length*k:=A1 k hjl;rw[A8,C9] at this;have e1:(w.drew.alloc (.cells cs e)).cell? ⟨w.heap.size,0+j*k+i,none⟩=cs[0+j*k+i]?:=World.cell?_alloc_new (w:=w.drew) cs e (0+j*k+i);rw[e1,hcs _ (by omega),G8,hJ hs hjl hik];exact hu
section ops
variable{o:Oper}{K:AV->List (Nat×Row)->Prop}{d:Nat}(h:RR n w0 S0 σ a w tag β)(hod:o.dst=some d)(hd:d<n)
include h hod hd
def Wk{c:Call}{k bytes:Nat}{z:AV}{y l:X}(hop:o.op=.call c)(hm:bd P (.call c) (.apz k z bytes y l)=true)
 (hk:JY K (σ.row d) d k z bytes (σ.gx y) (σ.gx l)):Snd P n w0 S0 σ o K a w:=by
 simp only[bd,A2] at hm;obtain⟨⟨h1,h2⟩,h3⟩:=hm;have hcal:c.callee=.builtin .append:=by
  split at h1
  ·assumption
  ·cases h1
 obtain⟨x1,x2,hargs,hm1,hm2⟩:=nI h2;split at h3
 case h_2=>cases h3
 rename_i t u htt;simp only[A2] at h3;obtain⟨⟨⟨h4,h5⟩,h6⟩,h7⟩:=h3;have hat:c.argTypes=#[t,u]:=by
  have:c.argTypes.toList=#[t,u].toList:=by simpa using htt
  exact C8.1 this
 obtain⟨e,inf,he,hinf,hsz,hpos⟩:=dw h4;have hby:inf.bytes=bytes:=by
  unfold jF at h5;rw[he] at h5;simp[hinf] at h5;exact h5.1
 have hu:P.underlying u=some (.int .i64):=by
  unfold oU at h7;split at h7
  ·rename_i k' hk';simp at h7;rw[hk',h7]
  ·cases h7
 have⟨zv,hzv,hzok⟩:∃zv,inf.zero=some zv/\jD zv z=true:=by
  unfold nU km at h6;rw[he] at h6;simp only[hinf] at h6;split at h6
  ·rename_i v hv;exact⟨v,hv,h6⟩
  ·cases h6
 unfold JY at hk;split at hk
 ·rename_i q ll e1 e2;have hx:=(h.gx hm1).1;have hl:=(h.gx hm2).1;rw[e1] at hx;rw[e2] at hl;have hl:=hl.int_inv;obtain⟨hnone,rfl,hzw,rfl,h0,hbytes,hk⟩:=hk;have key:∀v fp,aX w (Imm tag) w0.heap.size v (.lst .u 1 []) fp->fp=[]->v=.slice none 0 0:=by
   intro v fp hp hfp;cases hp with
   |nil _ _ ad cap hn=>obtain rfl:=hn.2 rfl;obtain rfl:=hn.1 rfl;rfl
   |lst=>simp at hfp
  have hv:=key _ _ hx.lst_inv rfl;obtain⟨m,rfl⟩:∃m:Nat,ll=(m:Int):=⟨ll.toNat,by omega⟩;have hb2:m*inf.bytes<=281474976710656:=by
   rw[hby];have:((m*bytes:Nat):Int)<=140737488355328:=by rw[Int.natCast_mul];exact hbytes
   omega
  have hbp:0<bytes:=by
   unfold jF at h5;rw[he] at h5;simp[hinf] at h5;exact h5.2
  have h63:(m:Int)<=9223372036854775807:=by
   have h1:m<=m*bytes:=D8 _ hbp;rw[hby] at hb2;omega
  have hrun:=Go.Lib.run_append_nil_zeros (P:=P) w t u o.type e inf zv .i64 .i64 he hu hinf hzv m (by omega) (by omega) h63 hb2;obtain⟨z1,z2,z3,z4⟩:=ea hzok w (Imm tag) w0.heap.size;rw[hzw] at z2;have hE:Els w tag w0.heap.size 1 [] (D4 m z) (fun _=>zv) (fun _=>[]):=by
   refine⟨fun j x hj=>z2,fun j x hj=>z3,fun j x hj=>?_,?_,?_⟩
   ·have:x=z:=List.eq_of_mem_replicate (List.mem_of_getElem? hj);subst this;exact z1
   ·rw[bj _ _ fun _ _=>rfl];exact B5
   ·rw[bj _ _ fun _ _=>rfl];intro c hc;cases hc
  refine .value (v:=.slice (some ⟨w.heap.size,0,none⟩) m (grownCap w m 0 e)) (w':=_) (by simp[execOp,hop,resolve,hcal,hargs,invoke,builtin,hat,hv,hl,hrun];rfl) hk ?_;rw[hod];have hcap:=grownCap_ge w m 0 e;have:=h.grown (e:=e) hd hnone (by simp) hE (ncap:=grownCap w m 0 e) (by simpa using hcap) (cs:=Builtin.zeroCells zv.cells m++Builtin.zeroCells zv.cells (grownCap w m 0 e-m))
   (by rw[F9,size_zeroCells,size_zeroCells,z2];omega)
   (fun i hi=>by
    rw[B9,Nat.mul_one] at hi;have hz0:zv.cells=#[zv.cells[0]'(by omega)]:=by
     apply Array.ext
     ·simp[z2]
     ·intro j hj1 hj2;have:j=0:=by omega
      subst this;rfl
    rw[D5 (by rw[size_zeroCells,z2];omega)];have e1:(Builtin.zeroCells zv.cells m)[i]?=some (zv.cells[0]'(by omega)):=by
     simp only[Builtin.zeroCells,Array.getElem?_map,z2];rw[C5 (by simpa using hi)];simp[Nat.mod_one,z2]
    have e2:cellsOf (fun _=>zv) m=D4 m (zv.cells[0]'(by omega)):=by
     have:∀l,cellsOf (fun _=>zv) l=D4 l (zv.cells[0]'(by omega)):=by
      intro l;induction l with
      |zero=>rfl
      | succ l ih =>
        rw[ec,ih,List.replicate_succ'];congr 1;exact congrArg Array.toList hz0
     exact this m
    rw[B9,e1,e2,List.getElem?_replicate,u7 hi])
  rw[B9] at this;simpa[bP] using this
 ·exact hk.elim
def WI{c:Call}{k bytes:Nat}{mv:Bool}{y z:X}(hop:o.op=.call c)(hm:bd P (.call c) (.app k bytes mv y z)=true)
 (hk:vE K σ.row d k bytes mv (σ.gx y) (σ.gx z)):Snd P n w0 S0 σ o K a w:=by
 simp only[bd,A2] at hm;obtain⟨⟨h1,h2⟩,h3⟩:=hm;have hcal:c.callee=.builtin .append:=by
  split at h1
  ·assumption
  ·cases h1
 obtain⟨x1,x2,hargs,hm1,hm2⟩:=nI h2;split at h3
 case h_2=>cases h3
 rename_i t u htt;simp only[A2,beq_iff_eq] at h3;obtain⟨⟨⟨rfl,h4⟩,h5⟩,h6⟩:=h3;have hat:c.argTypes=#[t,t]:=by
  have:c.argTypes.toList=#[t,t].toList:=by simpa using htt
  exact C8.1 this
 obtain⟨e,inf,he,hinf,hsz,hpos⟩:=dw h4;have⟨hby,hbp⟩:inf.bytes=bytes/\0<bytes:=by
  unfold jF at h5;rw[he] at h5;simp[hinf] at h5;exact h5
 have⟨zv,hzv,hzs⟩:∃zv,inf.zero=some zv/\zv.cells.size=k:=by
  unfold yd at h6;rw[he] at h6;simp only[hinf] at h6;split at h6
  ·rename_i v hv;exact⟨v,hv,by simpa using h6⟩
  ·cases h6
 have hrunOp:∀v w',(Builtin.append_ #[t,t] o.type #[a.eval x1,a.eval x2]).run P w=.ok v w'->(execOp a.eval o).run P w=.ok (.value v) w':=by
  intro v w' hr;simp[execOp,hop,resolve,hcal,hargs,invoke,builtin,hat,hr]
 obtain⟨hb,hbd⟩:=h.gx hm1;obtain⟨hs,hsd⟩:=h.gx hm2
 -- growth:whatever the base,elements us there,us' new
 have grow:∀{xs ys:List AV}{us us':Nat->Value}{fps fps':Nat->List Nat}{rs1 rs2:List Nat},σ.row d=none->d∉rs1++rs2->Els w tag w0.heap.size k rs1 xs us fps->Els w tag w0.heap.size k rs2 ys us' fps'->
  (∀q∈rs1,q∉rs2)->wE w k ys us' (a.eval x2)->0<ys.length->(xs.length+ys.length)*bytes<=140737488355328->
  ((a.eval x1=.slice none 0 0/\xs=[]\/∃ad,a.eval x1=.slice (some ad) 0 0/\xs=[])\/∃b p cp,a.eval x1=.slice (some ⟨b,p,none⟩) xs.length cp/\Ft w b p k xs us/\cp<xs.length+ys.length)->
  K (.sl d 0 (xs.length+ys.length)) (bP (rs1++rs2)++[(d,.arr k (xs++ys))])->Snd P n w0 S0 σ o K a w:=by
  intro xs ys us us' fps fps' rs1 rs2 hnone hdr e1 e2 hdj hsrc hl hbytes hbase hk;have hE:=e1.append e2 hdj;have hlen:(xs++ys).length=xs.length+ys.length:=B7;have hs1:∀j,j<xs.length->(us j).cells.size=k:=fun j hj=>e1.sz j xs[j] (by simp[hj]);have hs2:∀j,j<ys.length->(us' j).cells.size=k:=fun j hj=>e2.sz j ys[j] (by simp[hj]);have hle63:xs.length+ys.length<=140737488355328:=C4 (D8 _ hbp) hbytes;rcases hsrc with(⟨_,rfl⟩|⟨b2,p2,c2,hv2,hl2⟩)|⟨_,_,_,rfl⟩
  ·simp at hl
  rotate_left
  ·simp at hl
  obtain⟨n1,n2⟩:=jp hpos e2.sz hl2;have fin:∀{ncap:Nat}{cs:Array Value},xs.length+ys.length<=ncap->cs=((cellsOf us xs.length).toArray++(cellsOf us' ys.length).toArray++Builtin.zeroCells zv.cells (ncap-(xs.length+ys.length)))->
   (Builtin.append_ #[t,t] o.type #[a.eval x1,a.eval x2]).run P w=.ok (.slice (some ⟨w.heap.size,0,none⟩) (xs.length+ys.length) ncap) (w.drew.alloc (.cells cs e))->Snd P n w0 S0 σ o K a w:=by
   intro ncap cs hnc hcs hrun;refine .value (hrunOp _ _ hrun) hk ?_;rw[hod];have:=h.grown (e:=e) hd hnone hdr hE (ncap:=ncap) (by rw[hlen];exact hnc) (cs:=cs)
    (by
     rw[hcs];simp only[F9,List.size_toArray,size_zeroCells,hzs,cH hs1,cH hs2];rw[<-A8,<-A8];congr 1;omega)
    (fun i hi=>by
     rw[hlen] at hi⊢;rw[rj,hcs];have hsum:(cellsOf us xs.length++cellsOf us' ys.length).length=(xs.length+ys.length)*k:=by rw[B7,cH hs1,cH hs2,A8]
     rw[D5 (by simp[cH hs1,cH hs2];rw[<-A8];exact hi)];simp)
   rw[hlen] at this;exact this
  rcases hbase with(⟨hv1,rfl⟩|⟨ad,hv1,rfl⟩)|⟨b,p,cp,hv1,hl1,hcp⟩
  ·have hrun:=run_append_nil (P:=P) w t o.type e inf zv he hinf hzv ⟨b2,p2,none⟩ ys.length c2 (cellsOf us' ys.length) (by rw[hsz];exact n1) (fun j v hv=>(n2 j v hv).1) hl (by simp at hle63;omega) (by rw[hby];simp at hbytes;omega);simp only[D0,G8] at fin⊢;refine fin (grownCap_ge w ys.length 0 e) ?_ (by rw[hv1,hv2];exact hrun);simp[cellsOf]
  ·have hrun:=run_append_grow (P:=P) w t o.type e inf zv he hinf hzv ad 0 0 [] (by simp) (fun j v hv=>by simp at hv)
    ⟨b2,p2,none⟩ ys.length c2 (cellsOf us' ys.length) (by rw[hsz];exact n1) (fun j v hv=>(n2 j v hv).1) (by simpa using hl) (by simp at hle63;omega) (growslice_fits (by simpa using hl) (by rw[hby];simpa using hbytes))
   refine fin (grownCap_ge w (0+ys.length) 0 e) ?_ (by rw[hv1,hv2];exact hrun);simp[cellsOf]
  ·obtain⟨m1,m2⟩:=jp hpos e1.sz hl1;have hrun:=run_append_grow (P:=P) w t o.type e inf zv he hinf hzv ⟨b,p,none⟩ xs.length cp (cellsOf us xs.length) (by rw[hsz];exact m1) (fun j v hv=>(m2 j v hv).1)
    ⟨b2,p2,none⟩ ys.length c2 (cellsOf us' ys.length) (by rw[hsz];exact n1) (fun j v hv=>(n2 j v hv).1) hcp (by omega) (growslice_fits hcp (by rw[hby];exact hbytes))
   exact fin (grownCap_ge w (xs.length+ys.length) cp e) rfl (by rw[hv1,hv2];exact hrun)
 have hlenf:∀{ys:List AV}{us':Nat->Value},(∀j x,ys[j]?=some x->(us' j).cells.size=k)->wE w k ys us' (a.eval x2)->
  (Builtin.lenOf (a.eval x2)).run P w=.ok ys.length w/\(Builtin.firstCells k ys.length (a.eval x2)).run P w=.ok (cellsOf us' ys.length).toArray w:=by
  intro ys us' hsz' hsrc;rcases hsrc with(⟨hv2,rfl⟩|⟨b2,p2,c2,hv2,hl2⟩)|⟨ad,c,hv2,rfl⟩;rotate_right
  ·rw[hv2];exact⟨by simp[Builtin.lenOf],run_firstCells_some w k 0 ad 0 c [] (by simp) (fun j v hv=>by simp at hv)⟩
  ·rw[hv2];exact⟨by simp[Builtin.lenOf],by simp[run_firstCells_none,cellsOf]⟩
  ·rw[hv2];obtain⟨n1,n2⟩:=jp hpos hsz' hl2;exact⟨by simp[Builtin.lenOf],run_firstCells_some w k ys.length ⟨b2,p2,none⟩ ys.length c2 (cellsOf us' ys.length) n1 (fun j v hv=>(n2 j v hv).1)⟩
 unfold vE at hk;split at hk
 ·rename_i r i m e1;rw[e1] at hb hbd;obtain⟨hnone,hko⟩:=hk;obtain⟨⟨ys,u⟩,hy,hk⟩:=eK hko;unfold qi at hk;split at hk
  ·rename_i w' es hr;obtain⟨rfl,hru,hbytes,hk⟩:=hk;obtain⟨rs2,us',fps',rfl,E2,hsrc,hdom⟩:=h.src hs hy;obtain⟨hsl,us,fps,E1,hsb⟩:=h.sl_els hr hb;have hr2:r∉rs2:=by
    intro hmem;apply hru;simp[bP];exact hmem
   have hdn:aB d σ.rows=none:=hnone;have hdr:d∉[r]++rs2:=by
    simp only[List.singleton_append,B2,not_or];refine⟨?_,fun hmem=>?_⟩
    ·rintro rfl;rw[hnone] at hr;cases hr
    ·have:=hdom d hmem;rw[hdn] at this;cases this
   have hdj:∀q∈[r],q∉rs2:=fun q hq=>by simp at hq;subst hq;exact hr2
   have hgone:(r,Row.dead)::bP rs2++[(d,.arr w' (sub es i m++ys))]=bP ([r]++rs2)++[(d,.arr w' (sub es i m++ys))]:=rfl;simp only[hgone] at hk;simp only at hbytes;have hk:K (.sl d 0 ((sub es i m).length+ys.length)) (bP ([r]++rs2)++[(d,.arr w' (sub es i m++ys))]):=by rw[hsl];exact hk
   have hbytes:((sub es i m).length+ys.length)*bytes<=140737488355328:=by rw[hsl];exact hbytes
   obtain⟨hlf1,hlf2⟩:=hlenf E2.sz hsrc;rcases hsb with⟨hv1,hnil⟩|⟨b,p,cp,hv1,hl1⟩
   ·by_cases hl:ys=[]
    ·subst hl;rw[hnil] at hk;refine .value (hrunOp _ _ (by rw[hv1];exact wj he hinf hsz hlf1 (by simpa[cellsOf] using hlf2))) hk ?_;rw[hod];simpa using h.takeNil (rs:=[r]++rs2) (k:=w') hd hnone hdr
    ·exact grow hnone hdr E1 E2 hdj hsrc (List.length_pos_iff.2 hl) hbytes (.inl (.inl ⟨hv1,hnil⟩)) hk
   ·by_cases hroom:(sub es i m).length+ys.length<=cp
    ·-- in place
     have⟨q1,q2,q3⟩:tag b=.own r/\w0.heap.size<=b/\Free w b (p+cp*w'):=by
      rcases h.sl_inv hr hb with⟨e,_⟩|⟨b',o',cap',c',hb',e,hic,hmc,hlm⟩|⟨b',o',cap',p',hb',e,hm0,hp⟩
      ·rw[hv1] at e;simp at e
      ·rw[hv1] at e;simp only[Value.slice.injEq,Option.some.injEq,Addr.mk.injEq] at e;obtain⟨⟨rfl,rfl,_⟩,_,rfl⟩:=e;rcases h.arr hr with⟨e,_⟩|⟨b'',o'',cap'',vs,fps,hb'',⟨t1,t2,t3⟩,_⟩
       ·rw[hb'] at e;cases e
       ·rw[hb'] at hb'';cases hb'';refine⟨t1,t2,?_⟩;obtain⟨cc,ty,g1,g2⟩:=t3;refine⟨cc,ty,g1,?_⟩;have:(i+cp)*w'<=cap'*w':=A1 w' (Nat.le_of_eq hic);rw[A8] at this;omega
      ·rw[hv1] at e;simp only[Value.slice.injEq,Option.some.injEq,Addr.mk.injEq] at e;obtain⟨⟨rfl,rfl,_⟩,_,rfl⟩:=e;rcases h.arr hr with⟨e,_⟩|⟨b'',o'',cap'',vs,fps,hb'',⟨t1,t2,t3⟩,_⟩
       ·rw[hb'] at e;cases e
       ·rw[hb'] at hb'';cases hb'';obtain⟨cc,ty,g1,g2⟩:=t3;exact⟨t1,t2,cc,ty,g1,by omega⟩
     have hs2:∀j,j<ys.length->(us' j).cells.size=w':=fun j hj=>E2.sz j ys[j] (by simp[hj]);have hone:∀v∈cellsOf us' ys.length,v.oneCell'=true:=by
      intro v hv;obtain⟨j,hj,rfl⟩:=F4 hv;obtain⟨g1,g2⟩:=ky hs2 hpos (A3 hj);exact E2.one (j/w') ys[j/w'] (by simp[g1]) _ (B3 g2)
     have hcl:=cH hs2;have hfit:(sub es i m).length*w'+ys.length*w'<=cp*w':=by rw[<-A8];exact A1 w' hroom
     obtain⟨w2,hst,hcell,hoth,hfree,hbel⟩:=li (P:=P) (w:=w) (b:=b) (pos:=p+(sub es i m).length*w') (l:=cellsOf us' ys.length)
      (by obtain⟨cc,ty,g1,g2⟩:=q3;exact⟨cc,ty,g1,by omega⟩) hone
     refine .value (hrunOp _ _ (by rw[hv1];exact yW he hinf hsz hlf1 hlf2 hroom hst)) hk ?_;rw[hod];have hlen:(sub es i m++ys).length=(sub es i m).length+ys.length:=B7;have hsub:∀j,j<(sub es i m).length->(us j).cells.size=w':=fun j hj=>E1.sz j (sub es i m)[j] (by simp[hj]);have:=h.take (w':=w2) (b:=b) (o:=p) (cap:=cp) hd hnone hdr (E1.append E2 hdj) (hbel _ q2) q2 (.inr ⟨r,by simp,q1⟩)
      (A7 (h.lt b (by simp[q1])) (hbel _ (B0 b)).size) (fun cc _ hne=>hoth cc hne) (hfree _ q3) (by rw[hlen];exact hroom)
      (fun j x hj ii uu hu=>by
       by_cases hjl:j<(sub es i m).length
       ·rw[C6 hjl] at hj;simp only[hjl,if_true] at hu;have hik:ii<w':=by have:=(A9.1 hu).1;rw[hsub j hjl] at this;exact this
        have:(j+1)*w'<=(sub es i m).length*w':=A1 w' hjl;rw[A8,C9] at this;rw[hcell,u6 (by omega)];exact hl1 j x hj ii uu hu
       ·rw[C1 (by omega)] at hj;simp only[hjl,if_false] at hu;have hjy:j-(sub es i m).length<ys.length:=(A0.1 hj).1;have hik:ii<w':=by have:=(A9.1 hu).1;rw[hs2 _ hjy] at this;exact this
        have e5:(j-(sub es i m).length+1)*w'<=ys.length*w':=A1 w' hjy;rw[A8,C9] at e5;have e6:j*w'=(sub es i m).length*w'+(j-(sub es i m).length)*w':=by rw[<-A8];congr 1;omega
        refine⟨?_,E2.one _ x hj uu (B3 hu)⟩;rw[hcell,u7 (by omega)];have e7:p+j*w'+ii-(p+(sub es i m).length*w')=(j-(sub es i m).length)*w'+ii:=by omega
        rw[e7,hJ hs2 hjy hik];exact hu)
     rw[hlen] at this;exact this
    ·have hl:0<ys.length:=by
      rcases Nat.eq_zero_or_pos ys.length with e|e
      ·exfalso;apply hroom;rcases h.sl_inv hr hb with⟨e',_⟩|⟨b',o',cap',c',hb',e',hic,hmc,hlm⟩|⟨b',o',cap',p',hb',e',hm0,hp⟩
       ·rw[hv1] at e';simp at e'
       ·rw[hv1] at e';simp only[Value.slice.injEq,Option.some.injEq,Addr.mk.injEq] at e';have:cp=c':=e'.2.2;have:(sub es i m).length=m:=hsl;omega
       ·have:(sub es i m).length=m:=hsl;omega
      ·exact e
     exact grow hnone hdr E1 E2 hdj hsrc hl hbytes (.inr ⟨b,p,cp,hv1,hl1,by omega⟩) hk
  ·exact hk.elim
 ·rename_i f w' es e1;rw[e1] at hb hbd;obtain⟨hnone,hko⟩:=hk;obtain⟨⟨ys,u⟩,hy,rfl,hl,hbytes,hk⟩:=eK hko;obtain⟨rs2,us',fps',rfl,E2,hsrc,hdom⟩:=h.src hs hy;have hdn:aB d σ.rows=none:=hnone;have hdr:d∉[]++rs2:=by
   intro hmem;have:=hdom d (by simpa using hmem);rw[hdn] at this;cases this
  have key:∃len ad,a.eval x1=.slice ad len len/\len=es.length/\aX w (Imm tag) w0.heap.size (.slice ad len len) (.lst f w' es) []:=by
   generalize hvv:a.eval x1=v at hb;cases hb with
   |p v x hp=>cases hp
   |tg f q len ad xs hl hp=>exact⟨len,ad,rfl,hl,hp⟩
  obtain⟨len,ad,hv1,hlen,hp⟩:=key;obtain⟨us,fps,E1,hsb⟩:=xn hp;have hal:(dv es).length=es.length:=ig;have hl:0<ys.length:=hl;simp only[<-hal] at hk hbytes;refine grow hnone hdr E1.als E2 (fun q hq=>by cases hq) hsrc hl hbytes ?_ hk;rcases hsb.als with(⟨e,e'⟩|⟨b,p,c',e,hl'⟩)|⟨ad',c',e,e'⟩;rotate_right
  ·simp only[Value.slice.injEq] at e;obtain⟨rfl,rfl,rfl⟩:=e;exact .inl (.inr ⟨ad',hv1,e'⟩)
  ·exact .inl (.inl ⟨by rw[hv1,e],e'⟩)
  ·refine .inr ⟨b,p,c',by rw[hv1,e],hl',?_⟩;have:c'=len:=by simp only[Value.slice.injEq] at e;exact e.2.2.symm
   omega
 ·exact hk.elim
end ops
end Vs

namespace Vs
open Go Go.RowKit
variable{P:Program}{n:Nat}{w0:World}{S0:Fx}{σ:St}{a:Act}{w w':World}{tag tag':Nat->Tag}{β β':Nat->Option Own}
variable{xs:List AV}{j:Nat}
theorem Yq:(hY xs)[j]?=(xs[j]?).map AV.nrm:=by
 induction xs generalizing j with
 |nil=>simp[hY]
 |cons x xs ih=>grind [hY]
def nP:(hY xs).length=xs.length:=by induction xs<;>simp_all [hY]
theorem TR:(gI xs)[j]?=(xs[j]?).map AV.fix:=by
 induction xs generalizing j with
 |nil=>simp[gI]
 |cons x xs ih=>grind [gI]
theorem eO:(gI xs).length=xs.length:=by induction xs<;>simp_all [gI]
theorem kV{x:AV}(h:(hY xs)[j]?=some x):∃y,xs[j]?=some y/\x=y.nrm:=by
 grind [Yq]
def aX.nrm{S S':Nat->Prop}{B B':Nat}{v:Value}{x:AV}{fp:List Nat}(h:aX w S B v x fp)(hs:∀b,S b->S' b/\b<B'):aX w S' B' v x.nrm []:=by
 induction h with
 |top v=>simp only[AV.nrm];exact .top v
 |sc v h=>simp only[AV.nrm];exact .sc v h
 |nil f n ad cap h=>simp only[AV.nrm,hY];exact .nil _ _ ad cap ⟨h.1,fun e=>by cases e⟩
 | lst f n b o len cap xs vs fps hl hc hf hu hv hx ih =>
   have:=aX.lst (w:=w) (S:=S') (B:=B') .o n b o len cap (hY xs) vs (fun _=>[]) (by rw[nP];exact hl) hc (hs b hf.S) (by intro e;cases e)
    (fun j x hj=>by grind [kV]) (fun j x hj=>by grind [kV])
   rw[bj _ _ fun _ _=>rfl,u6 (by intro e;cases e),G5] at this;simpa only[AV.nrm] using this
 | agg vs cs fps hs' h1 hx ih =>
   have:=aX.agg (w:=w) (S:=S') (B:=B') vs (hY cs) (fun _=>[]) (by rw[nP];exact hs') h1 (fun j x hj=>by grind [kV]);rw[bj _ _ fun _ _=>rfl] at this;simpa only[AV.nrm] using this
 |tup vs cs fps hs' hx ih=>simp only[AV.nrm];exact .top _
 | fn f vs cs fps hs' hx ih =>
   have:=aX.fn (w:=w) (S:=S') (B:=B') f vs (hY cs) (fun _=>[]) (by rw[nP];exact hs') (fun j x hj=>by grind [kV]);rw[bj _ _ fun _ _=>rfl] at this;simpa only[AV.nrm] using this
 |ub b=>simp only[AV.nrm];exact .top _
 |bp f b o off v x hb hv hx ih=>simp only[AV.nrm];exact .bp .o b o off v _ (hs b hb.S) hv ih
theorem RR.snp(h:RR n w0 S0 σ a w tag β){S:Nat->Prop}(hi:∀b,Imm tag b->S b):∀(k:Nat)(x:AV)(v:Value),Rep w (Imm tag) w0.heap.size β v x->(x.ments=[]\/∀b,tag b≠.out->S b)->
 aX w S w.heap.size v (snp σ.row k x) []
 |0,x,v,_,_=>by simp only[Vs.snp];exact .top v
 | k + 1, x, v, hr, hm => by
   have hS:∀b,Imm tag b->S b/\b<w.heap.size:=fun b hb=>⟨hi b hb,h.lt b (by rcases hb with e|⟨r,e⟩<;>simp[e])⟩;have comps:∀(cs:List AV)(vs:Array Value),(aP cs=[]\/∀b,tag b≠.out->S b)->(∀(j:Nat)(x:AV),cs[j]?=some x->Rep w (Imm tag) w0.heap.size β (vs.getD j undef) x)->
    ∀(j:Nat)(y:AV),(cs.map (Vs.snp σ.row k))[j]?=some y->aX w S w.heap.size (vs.getD j undef) y []:=by
    intro cs vs hmc hat j y hj;simp only[B4,A5] at hj;obtain⟨x,hx,rfl⟩:=hj;refine RR.snp h hi k x _ (hat j x hx) (hmc.imp_left fun e=>?_);apply B6.2;intro r hr;have:=bF hx hr;rw[e] at this;cases this
   have plain:∀y,aX w (Imm tag) w0.heap.size v y []->aX w S w.heap.size v y.nrm []:=fun y hy=>hy.nrm hS;cases x with
   |sc u=>simp only[Vs.snp];cases hr with|p v x hp=>exact plain _ hp
   |lst f q xs=>simp only[Vs.snp];cases hr with|p v x hp=>exact plain _ hp
   |bp f x off=>simp only[Vs.snp];cases hr with|p v x hp=>exact plain _ hp
   |top=>simp only[Vs.snp,AV.nrm];exact .top v
   |ub=>simp only[Vs.snp,AV.nrm];exact .top v
   |tup cs=>simp only[Vs.snp,AV.nrm];exact .top v
   | tg f q xs =>
     simp only[Vs.snp];cases hr with
     |p v x hp=>cases hp
     |tg f q len ad xs hl hp=>grind [AV.nrm]
   | agg cs =>
     simp only[Vs.snp];obtain⟨vs,rfl,h2,h3,h4⟩:=hr.agg_inv;simp only[AV.ments] at hm;have:=aX.agg (w:=w) (S:=S) (B:=w.heap.size) vs (cs.map (Vs.snp σ.row k)) (fun _=>[]) (by simpa using h2) h3 (comps cs vs hm h4);rwa[bj _ _ fun _ _=>rfl] at this
   | fn f cs =>
     simp only[Vs.snp];obtain⟨vs,rfl,h2,h4⟩:=hr.fn_inv;simp only[AV.ments] at hm;have:=aX.fn (w:=w) (S:=S) (B:=w.heap.size) f vs (cs.map (Vs.snp σ.row k)) (fun _=>[]) (by simpa using h2) (comps cs vs hm h4);rwa[bj _ _ fun _ _=>rfl] at this
   | sl r i m =>
     simp only[Vs.snp]
     have hS' : ∀ b, tag b ≠ .out → S b := by rcases hm with e | e; · simp [AV.ments] at e
                                              ·exact e
     cases hx:σ.row r with
     |none=>simp only[oT];exact .top v
     | some row => cases row with
       |var y=>simp only[oT];exact .top v
       |dead=>simp only[oT];exact .top v
       | arr q es =>
         simp only[oT];obtain⟨hsl,us,fps,h1,h2⟩:=h.sl_els hx hr;rcases h2 with⟨rfl,e⟩|⟨b,o,c,rfl,hl⟩
         ·rw[e];simp only[hY];exact .nil0 _ _
         ·have hb:tag b=.own r:=by
           rcases h.sl_inv hx hr with⟨e,_⟩|⟨b',o',cap',c',hb',e,hic,hmc,hlm⟩|⟨b',o',cap',p',hb',e,hm0,hp⟩
           ·simp at e
           ·simp only[Value.slice.injEq,Option.some.injEq,Addr.mk.injEq] at e;rcases h.arr hx with⟨e',_⟩|⟨b'',o'',cap'',vs,fps,hb'',⟨t1,t2,t3⟩,_⟩
            ·simp_all
            simp_all
           ·simp only[Value.slice.injEq,Option.some.injEq,Addr.mk.injEq] at e;rcases h.arr hx with⟨e',_⟩|⟨b'',o'',cap'',vs,fps,hb'',⟨t1,t2,t3⟩,_⟩
            ·simp_all
            simp_all
          have hcc:(sub es i m).length<=c:=by
           rcases h.sl_inv hx hr with⟨e,_⟩|⟨b',o',cap',c',hb',e,hic,hmc,hlm⟩|⟨b',o',cap',p',hb',e,hm0,hp⟩
           ·simp at e
           ·simp_all
           ·omega
          have:=aX.lst (w:=w) (S:=S) (B:=w.heap.size) .o q b o (sub es i m).length c (hY (sub es i m)) us (fun _=>[]) nP hcc ⟨hS' b (by simp[hb]),h.lt b (by simp[hb])⟩ (by intro e;cases e)
           (fun j x hj=>by obtain⟨y,hy,_⟩:=kV hj;exact⟨h1.sz j y hy,hl j y hy⟩) (fun j x hj=>by obtain⟨y,hy,rfl⟩:=kV hj;exact(h1.rep j y hy).nrm hS)
          rwa[bj _ _ fun _ _=>rfl,u6 (by intro e;cases e),G5] at this
   | pt r i off =>
     simp only[Vs.snp]
     have hS' : ∀ b, tag b ≠ .out → S b := by rcases hm with e | e; · simp [AV.ments] at e
                                              ·exact e
     cases hx:σ.row r with
     |none=>simp only[mD];exact .top v
     | some row => cases row with
       |dead=>simp only[mD];exact .top v
       | var y =>
         simp only[mD];obtain⟨b,o,v0,hb,⟨t1,t2,t3⟩,hva,hry,hwd⟩:=h.var hx;obtain⟨b',o',sz',cap',len',hb',rfl⟩:=h.pt_inv (by rw[hx];trivial) hr;rw[hb] at hb';cases hb';split
         ·rename_i e;subst e;rw[F6,C7];exact .bp .o b o off v0 _ ⟨hS' b (by simp[t1]),h.lt b (by simp[t1])⟩ hva (RR.snp h hi k y v0 hry (.inr hS'))
         ·exact .top _
       | arr q es =>
         simp only[mD];cases hy:es[i]? with
         |none=>exact .top v
         | some y =>
           rcases h.arr hx with⟨_,rfl⟩|⟨b,o,cap,vs,fps,hb,⟨t1,t2,t3⟩,_,hva,hxx,_⟩
           ·simp at hy
           ·obtain⟨b',o',sz',cap',len',hb',rfl⟩:=h.pt_inv (by rw[hx];trivial) hr;rw[hb] at hb';cases hb';exact .bp .o b (o+i*q) off (vs i) _ ⟨hS' b (by simp[t1]),h.lt b (by simp[t1])⟩ (hva i y hy).2 ((hxx i y hy).nrm hS)
end Vs

namespace Vs
open Go Go.RowKit
variable{P:Program}{n:Nat}{w0:World}{S0:Fx}{σ:St}{a:Act}{w w':World}{tag tag':Nat->Tag}{β β':Nat->Option Own}
variable{x:AV}{S:Nat->Prop}{B:Nat}{v:Value}{fp:List Nat}
theorem ju{xs:List AV}{j:Nat}(h:(gI xs)[j]?=some x):∃y,xs[j]?=some y/\x=y.fix:=by
 grind [TR]
theorem qh:∀{xs:List AV}{j:Nat}{x:AV},ouL xs->xs[j]?=some x->x.ou
 |[],j,x,_,h=>by simp at h
 |c::cs,0,x,h,hj=>by simp at hj;subst hj;exact h.1
 |c::cs,j+1,x,h,hj=>by simp at hj;exact qh h.2 hj
theorem nh:∀{xs:List AV}{j:Nat}{x:AV},kF xs->xs[j]?=some x->x.allU
 |[],j,x,_,h=>by simp at h
 |c::cs,0,x,h,hj=>by simp at hj;subst hj;exact h.1
 |c::cs,j+1,x,h,hj=>by simp at hj;exact nh h.2 hj
theorem pY:∀{xs:List AV}{j:Nat}{x:AV},CI xs->xs[j]?=some x->x.noU
 |[],j,x,_,h=>by simp at h
 |c::cs,0,x,h,hj=>by simp at hj;subst hj;exact h.1
 |c::cs,j+1,x,h,hj=>by simp at hj;exact pY h.2 hj
theorem xS:∀{xs:List AV}{j:Nat}{x:AV},oM xs->xs[j]?=some x->x.allO
 |[],j,x,_,h=>by simp at h
 |c::cs,0,x,h,hj=>by simp at hj;subst hj;exact h.1
 |c::cs,j+1,x,h,hj=>by simp at hj;exact xS h.2 hj
mutual
theorem FE:∀(x:AV),x.allO->x.ou
 | .sc _,_=>trivial
 | .lst _ _ _,h=>.inr ⟨h.1,h.2⟩
 | .agg cs,h=>nS cs h
 | .tup cs,h=>nS cs h
 | .tg _ _ _,h=>h.elim
 | .bp _ _ _,h=>h.elim
 | .sl _ _ _,h=>h.elim
 | .pt _ _ _,h=>h.elim
 | .fn _ _,h=>h.elim
 | .top,h=>h.elim
theorem nS:∀(xs:List AV),oM xs->ouL xs
 |[],_=>trivial
 |c::cs,h=>⟨FE c h.1,nS cs h.2⟩
end
mutual
theorem Sd:∀(x:AV),x.allO->x.noU
 | .sc _,_=>trivial
 | .lst _ _ xs,h=>⟨(by rw[h.1];intro e;cases e),iq xs h.2⟩
 | .agg cs,h=>iq cs h
 | .tup cs,h=>iq cs h
 | .tg _ _ _,h=>h.elim
 | .bp _ _ _,h=>h.elim
 | .sl _ _ _,h=>h.elim
 | .pt _ _ _,h=>h.elim
 | .fn _ _,h=>h.elim
 | .top,h=>h.elim
theorem iq:∀(xs:List AV),oM xs->CI xs
 |[],_=>trivial
 |c::cs,h=>⟨Sd c h.1,iq cs h.2⟩
end
mutual
theorem Fr:∀(x:AV),x.allU->x.ou
 | .sc _,_=>trivial
 | .lst _ _ xs,h=>.inl ⟨h.1,lh xs h.2⟩
 | .agg cs,h=>lh cs h
 | .tup cs,h=>lh cs h
 | .tg _ _ _,h=>h.elim
 | .bp _ _ _,h=>h.elim
 | .sl _ _ _,h=>h.elim
 | .pt _ _ _,h=>h.elim
 | .fn _ _,h=>h.elim
 | .top,h=>h.elim
theorem lh:∀(xs:List AV),kF xs->ouL xs
 |[],_=>trivial
 |c::cs,h=>⟨Fr c h.1,lh cs h.2⟩
end
def aX.restrict(h:aX w S B v x fp)(hx:x.allU):aX w (fun b=>S b/\B<=b) B v x fp:=by
 induction h with
 |top v=>exact hx.elim
 |sc v h=>exact .sc v h
 |nil f n ad cap h=>exact .nil f n ad cap h
 | lst f n b o len cap xs vs fps hl hc hf hu hv hxx ih =>
   obtain⟨rfl,hxs⟩:=hx;exact .lst .u n b o len cap xs vs fps hl hc ⟨⟨hf.1,hf.2⟩,hf.2⟩ hu hv (fun j x hj=>ih j x hj (nh hxs hj))
 |agg vs cs fps hs h1 hxx ih=>exact .agg vs cs fps hs h1 (fun j x hj=>ih j x hj (nh hx hj))
 |tup vs cs fps hs hxx ih=>exact .tup vs cs fps hs (fun j x hj=>ih j x hj (nh hx hj))
 |fn f vs cs fps hs hxx ih=>exact hx.elim
 |ub b=>exact hx.elim
 |bp f b o off v x hb hv hxx ih=>exact hx.elim
def aX.noU_nil(h:aX w S B v x fp)(hx:x.noU):fp=[]:=by
 induction h with
 |top v=>rfl
 |sc v h=>rfl
 |nil f n ad cap h=>rfl
 | lst f n b o len cap xs vs fps hl hc hf hu hv hxx ih =>
   obtain⟨h1,hxs⟩:=hx;rw[u6 h1,bj _ _ fun j hj=>ih j xs[j] (by simp[hl▸hj]) (allL_at' hxs hj hl)];rfl
 |agg vs cs fps hs h1 hxx ih=>exact bj _ _ fun j hj=>ih j cs[j] (A3 hj) (pY hx (A3 hj))
 |tup vs cs fps hs hxx ih=>exact bj _ _ fun j hj=>ih j cs[j] (A3 hj) (pY hx (A3 hj))
 |fn f vs cs fps hs hxx ih=>exact hx.elim
 |ub b=>rfl
 |bp f b o off v x hb hv hxx ih=>rfl
where
 allL_at' {xs:List AV} {j len:Nat} (h:CI xs) (hj:j<len) (hl:xs.length=len):(xs[j]'(by omega)).noU:=pY h (A3 (by omega))
def aX.uB(h:aX w S B v x fp):∀b∈fp,B<=b/\S b:=by
 induction h with
 |top v=>intro b hb;cases hb
 |sc v h=>intro b hb;cases hb
 |nil f n ad cap h=>intro b hb;cases hb
 | lst f n b o len cap xs vs fps hl hc hf hu hv hxx ih =>
   intro c hc';rw[List.mem_append] at hc';rcases hc' with hc'|hc'
   ·by_cases e:f=.u
    ·subst e;simp at hc';subst hc';exact⟨hf.2,hf.1⟩
    simp_all
   ·obtain⟨j,hj,hc'⟩:=be.1 hc';exact ih j xs[j] (by simp[hl▸hj]) c hc'
 | agg vs cs fps hs h1 hxx ih =>
   intro c hc';obtain⟨j,hj,hc'⟩:=be.1 hc';exact ih j cs[j] (by simp[hj]) c hc'
 | tup vs cs fps hs hxx ih =>
   intro c hc';obtain⟨j,hj,hc'⟩:=be.1 hc';exact ih j cs[j] (by simp[hj]) c hc'
 | fn f vs cs fps hs hxx ih =>
   intro c hc';obtain⟨j,hj,hc'⟩:=be.1 hc';exact ih j cs[j] (by simp[hj]) c hc'
 |ub b=>intro b hb;cases hb
 |bp f b o off v x hb hv hxx ih=>intro b hb;cases hb
def aX.fix{S':Nat->Prop}{B':Nat}{fpT:List Nat}(h:aX w S B' v x fp)(hB:B<=B')(hT:∀b∈fpT,B'<=b)(hc:x.ou\/fpT=[])
 (hS:∀b,S b->b∉fpT->S' b) (hu:∀b∈fp,S' b):aX w S' B v x.fix fp:=by
 induction h with
 |top v=>simp only[AV.fix];exact .top v
 |sc v h=>simp only[AV.fix];exact .sc v h
 |nil f n ad cap h=>simp only[AV.fix,gI];exact .nil _ _ ad cap ⟨h.1,fun e=>h.2 (by grind [Fl.fix])⟩
 | lst f n b o len cap xs vs fps hl hcc hf hu' hv hx ih =>
   have hcx:∀(j:Nat)(x:AV),xs[j]?=some x->x.ou\/fpT=[]:=fun j x hj=>hc.imp (fun h=>h.elim (fun h=>qh h.2 hj) (fun h=>FE _ (xS h.2 hj))) id;have hfix:f.fix=.u↔f=.u:=by cases f<;>simp[Fl.fix]
   have hok:f.fix.ok S' B b:=by
    cases f with
    | u =>
      have:=hu b (by simp);exact⟨this,C4 hB hf.2⟩
    | o =>
      refine hS b hf.1 ?_;intro hb;have:=hT b hb;have:=hf.2;omega
    | s =>
      rcases hc with hc|hc
      ·rcases hc with⟨e,_⟩|⟨e,_⟩<;>cases e
      ·exact hS b hf (by rw[hc];simp)
    | m =>
      rcases hc with hc|hc
      ·rcases hc with⟨e,_⟩|⟨e,_⟩<;>cases e
      ·exact⟨hS b hf.1 (by rw[hc];simp),C4 hB hf.2⟩
   have:=aX.lst (w:=w) (S:=S') (B:=B) f.fix n b o len cap (gI xs) vs fps (by rw[eO];exact hl) hcc hok (fun e=>hu' (hfix.1 e))
    (fun j x hj=>by grind [ju])
    (fun j x hj=>by
     grind [ju,List.mem_append_right,be,List.getElem?_eq_some_iff])
   simp_all [if_pos,if_neg,AV.fix]
 | agg vs cs fps hs' h1 hx ih =>
   have:=aX.agg (w:=w) (S:=S') (B:=B) vs (gI cs) fps (by rw[eO];exact hs') h1
    (fun j x hj=>by
     obtain⟨y,hy,rfl⟩:=ju hj;exact ih j y hy (hc.imp (fun h=>qh h hy) id) fun c hc'=>hu c (be.2 ⟨j,(A0.1 hy).1,hc'⟩))
   simp_all [eO,AV.fix]
 | tup vs cs fps hs' hx ih =>
   have:=aX.tup (w:=w) (S:=S') (B:=B) vs (gI cs) fps (by rw[eO];exact hs')
    (fun j x hj=>by
     obtain⟨y,hy,rfl⟩:=ju hj;exact ih j y hy (hc.imp (fun h=>qh h hy) id) fun c hc'=>hu c (be.2 ⟨j,(A0.1 hy).1,hc'⟩))
   simp_all [eO,AV.fix]
 | fn f vs cs fps hs' hx ih =>
   have:=aX.fn (w:=w) (S:=S') (B:=B) f vs (gI cs) fps (by rw[eO];exact hs')
    (fun j x hj=>by
     obtain⟨y,hy,rfl⟩:=ju hj;exact ih j y hy (hc.imp (fun h=>h.elim) id) fun c hc'=>hu c (be.2 ⟨j,(A0.1 hy).1,hc'⟩))
   simp_all [eO,AV.fix]
 |ub b=>simp only[AV.fix];exact .top _
 |bp f b o off v x hb hv hx ih=>simp only[AV.fix];exact .top _
def CU(m:Nat)(fps:Nat->List Nat):cz (m+1) fps=fps 0++cz m (fun j=>fps (j+1)):=by
 simp[cz,List.range_succ_eq_map,List.flatMap_map]
def nM(w:World)(S:Nat->Prop)(B c c':Nat)(fp fpT:List Nat)(u:List (Nat×Row))(ms:List Nat)(reads:(Nat->Tag)->(Nat->Option Own)->Prop):Prop:=
 c ≤ c' ∧ (∀ p ∈ u, c ≤ p.1 ∧ p.1 < c') ∧ (u.map (·.1)).Nodup ∧ (∀ q ∈ ms, q ∈ u.map (·.1)) ∧ (∀ p ∈ u, ∃ k es, p.2 = .arr k es) ∧
   ∃ (tg : Nat → Tag) (ow : Nat → Own), (∀ b ∈ fp, tg b = .imm ∨ ∃ q ∈ u.map (·.1), tg b = .own q ∨ tg b = .uq q) ∧
     ∀ tag'' β'', (∀ b ∈ fp, tag'' b = tg b) → (∀ b, S b → b ∉ fpT → Imm tag'' b) → (∀ p ∈ u, β'' p.1 = some (ow p.1)) →
       reads tag'' β''/\∀p∈u,cJ w tag'' B β'' p.1 (some p.2)
theorem AW{B':Nat}{fpT:List Nat}(hB:B<=B')(hT:∀b∈fpT,B'<=b):∀(k c:Nat)(x:AV)(v:Value)(fp:List Nat),aX w S B' v x fp->fp.Nodup->(∀b∈fp,b∈fpT)->(x.ou\/fpT=[])->
 nM w S B c (adopt k c x).2.2 fp fpT (adopt k c x).2.1 (adopt k c x).1.ments (fun tag'' β''=>Rep w (Imm tag'') B β'' v (adopt k c x).1)
 | 0, c, x, v, fp, h, hnd, hsub, hc => by
   simp only[adopt];exact⟨B0 _,fun p hp=>(by cases hp),B5,fun q hq=>(by simp[AV.ments] at hq),fun p hp=>(by cases hp),fun _=>.imm,fun _=>.nil,fun b _=>.inl rfl,
    fun tag'' β'' _ _ _=>⟨.p _ _ (.top v),fun p hp=>(by cases hp)⟩⟩
 | k + 1, c, x, v, fp, h, hnd, hsub, hc => by
   have go:∀(xs:List AV)(c:Nat)(vs:Nat->Value)(fps:Nat->List Nat),(∀(j:Nat)(x:AV),xs[j]?=some x->aX w S B' (vs j) x (fps j))->(cz xs.length fps).Nodup->(∀b∈cz xs.length fps,b∈fpT)->(ouL xs\/fpT=[])->
    (adopt.go k c xs).1.length=xs.length/\
    nM w S B c (adopt.go k c xs).2.2 (cz xs.length fps) fpT (adopt.go k c xs).2.1 (aP (adopt.go k c xs).1) (fun tag'' β''=>∀(j:Nat)(y:AV),(adopt.go k c xs).1[j]?=some y->Rep w (Imm tag'') B β'' (vs j) y):=by
    intro xs;induction xs with
    | nil =>
      intro c vs fps _ _ _ _;simp only[adopt.go];exact⟨trivial,B0 _,fun p hp=>(by cases hp),B5,fun q hq=>(by simp[aP] at hq),fun p hp=>(by cases hp),fun _=>.imm,fun _=>.nil,fun b hb=>(by simp[cz] at hb),
       fun tag'' β'' _ _ _=>⟨fun j y hj=>by simp at hj,fun p hp=>(by cases hp)⟩⟩
    | cons x xs ih =>
      intro c vs fps hat hnd hsub hc;rw[G0,CU] at hnd hsub⊢;rw[List.nodup_append] at hnd;obtain⟨d1,d2,d3⟩:=hnd;obtain⟨a1,a2,a3,a4,a5,tg0,ow0,a6,a7⟩:=AW hB hT k c x (vs 0) (fps 0) (hat 0 x rfl) d1 (fun b hb=>hsub b (by simp[hb])) (hc.imp (fun h=>h.1) id);obtain⟨l0,b1,b2,b3,b4,b5,tg1,ow1,b6,b7⟩:=ih (adopt k c x).2.2 (fun j=>vs (j+1)) (fun j=>fps (j+1)) (fun j y hj=>hat (j+1) y (by simpa using hj)) d2 (fun b hb=>hsub b (by simp[hb])) (hc.imp (fun h=>h.2) id);simp only[adopt.go];have hdisj:∀q,q∈(adopt k c x).2.1.map (·.1)->q∈(adopt.go k (adopt k c x).2.2 xs).2.1.map (·.1)->False:=by
       intro q hq hq';simp only[A6] at hq hq';obtain⟨p,hp,rfl⟩:=hq;obtain⟨p',hp',e⟩:=hq';have:=(a2 p hp).2;have:=(b2 p' hp').1;omega
      refine⟨by simp[l0],C4 a1 b1,?_,?_,?_,?_,fun b=>if b∈fps 0 then tg0 b else tg1 b,fun q=>if q∈(adopt k c x).2.1.map (·.1) then ow0 q else ow1 q,?_,?_⟩
      ·grind
      ·grind
      ·grind [aP]
      ·grind
      ·grind
      ·intro tag'' β'' h1 h2 h3;obtain⟨r1,r2⟩:=a7 tag'' β'' (fun b hb=>by grind) h2
        (fun p hp=>by
         grind)
       obtain⟨s1,s2⟩:=b7 tag'' β'' (fun b hb=>by
        grind) h2
        (fun p hp=>by
         grind)
       grind
   -- what is handed on as it is
   have plain:fp=[]->∀y,(∀tag'':Nat->Tag,(∀b,S b->b∉fpT->Imm tag'' b)->aX w (Imm tag'') B v y [])->y.ments=[]->nM w S B c c fp fpT [] y.ments (fun tag'' β''=>Rep w (Imm tag'') B β'' v y):=by
    intro hfp y hy hm;refine⟨B0 _,fun p hp=>(by cases hp),B5,fun q hq=>(by rw[hm] at hq;cases hq),fun p hp=>(by cases hp),fun _=>.imm,fun _=>.nil,fun b _=>.inl rfl,
     fun tag'' β'' _ h2 _=>⟨.p _ _ (hy tag'' h2),fun p hp=>(by cases hp)⟩⟩
   have fixd:fp=[]->nM w S B c c fp fpT [] x.fix.ments (fun tag'' β''=>Rep w (Imm tag'') B β'' v x.fix):=by
    intro hfp;subst hfp;have hf:∀tag'':Nat->Tag,(∀b,S b->b∉fpT->Imm tag'' b)->aX w (Imm tag'') B v x.fix []:=fun tag'' h2=>h.fix hB hT hc h2 (fun b hb=>(by cases hb));exact plain rfl x.fix hf (hf (fun _=>.imm) (fun b _ _=>.inl rfl)).ments_nil
   have nilT:fpT=[]->fp=[]:=fun e=>B6.2 fun b hb=>by simp_all
   cases x with
   |sc u=>simp only[adopt];cases h;exact fixd rfl
   |top=>simp only[adopt];cases h;exact fixd rfl
   |ub=>simp only[adopt];cases h;exact fixd rfl
   |tg f q xs=>cases h
   |sl r i m=>cases h
   |pt r i off=>cases h
   |bp f y off=>simp only[adopt];cases h;exact fixd rfl
   |fn f cs=>simp only[adopt];exact fixd (nilT (hc.resolve_left fun h=>h))
   | agg cs =>
     simp only[adopt];obtain⟨vs,fps,rfl,h2,h3,h4,rfl⟩:=h.agg_at;obtain⟨l0,b1,b2,b3,b4,b5,tg1,ow1,b6,b7⟩:=go cs c (fun j=>vs.getD j undef) fps h4 hnd hsub hc;refine⟨b1,b2,b3,fun q hq=>b4 q (by simp_all [AV.ments]),b5,tg1,ow1,b6,fun tag'' β'' h1 h2' h3'=>?_⟩;obtain⟨s1,s2⟩:=b7 tag'' β'' h1 h2' h3';exact⟨.agg vs _ (by rw[l0];exact h2) h3 s1,s2⟩
   | tup cs =>
     simp only[adopt];have key:∃(vs:Array Value)(fps:Nat->List Nat),v=.tuple vs/\vs.size=cs.length/\(∀(j:Nat)(x:AV),cs[j]?=some x->aX w S B' (vs.getD j undef) x (fps j))/\fp=cz cs.length fps:=by
      cases h with
      |tup vs cs fps hs hx=>grind
     obtain⟨vs,fps,rfl,h2,h4,rfl⟩:=key;obtain⟨l0,b1,b2,b3,b4,b5,tg1,ow1,b6,b7⟩:=go cs c (fun j=>vs.getD j undef) fps h4 hnd hsub hc;refine⟨b1,b2,b3,fun q hq=>b4 q (by simp_all [AV.ments]),b5,tg1,ow1,b6,fun tag'' β'' h1 h2' h3'=>?_⟩;obtain⟨s1,s2⟩:=b7 tag'' β'' h1 h2' h3';exact⟨.tup vs _ (by rw[l0];exact h2) s1,s2⟩
   | lst f q es =>
     cases f with
     | o =>
       simp only[adopt];refine fixd ?_;rcases hc with hc|hc
       ·rcases hc with⟨e,_⟩|⟨_,ho⟩
        ·cases e
        ·exact h.noU_nil ⟨(by intro e;cases e),iq _ ho⟩
       ·exact nilT hc
     |s=>simp only[adopt];exact fixd (nilT (hc.resolve_left fun h=>by rcases h with⟨e,_⟩|⟨e,_⟩<;>cases e))
     |m=>simp only[adopt];exact fixd (nilT (hc.resolve_left fun h=>by rcases h with⟨e,_⟩|⟨e,_⟩<;>cases e))
     | u =>
       simp only[adopt];have hcx:∀(j:Nat)(x:AV),es[j]?=some x->x.ou\/fpT=[]:=fun j x hj=>hc.imp (fun h=>h.elim (fun h=>qh h.2 hj) (fun h=>by cases h.1)) id;have hms:∀q'∈(AV.sl c 0 es.length).ments,q'∈[(c,Row.arr q (gI es))].map (·.1):=fun q' hq'=>by grind [AV.ments]
       have base:∀(own:Own)(tg:Nat->Tag),(∀b∈fp,tg b=.own c\/tg b=.uq c)->(∀tag'' β'',(∀b∈fp,tag'' b=tg b)->(∀b,S b->b∉fpT->Imm tag'' b)->β'' c=some own->
        Rep w (Imm tag'') B β'' v (.sl c 0 es.length)/\cJ w tag'' B β'' c (some (.arr q (gI es))))->
        nM w S B c (c+1000) fp fpT [(c,.arr q (gI es))] (AV.sl c 0 es.length).ments (fun tag'' β''=>Rep w (Imm tag'') B β'' v (.sl c 0 es.length)):=by
        intro own tg h1 h2;refine⟨by omega,fun p hp=>(by simp_all),by simp,hms,fun p hp=>(by simp_all),tg,fun _=>own,
         fun b hb=>.inr ⟨c,by simp,h1 b hb⟩,fun tag'' β'' g1 g2 g3=>?_⟩
        obtain⟨r1,r2⟩:=h2 tag'' β'' g1 g2 (g3 (c,.arr q (gI es)) (by simp));exact⟨r1,fun p hp=>by simp_all⟩
       have key:(v=.slice none 0 0/\es=[]/\fp=[])\/∃(b o cap:Nat)(vs:Nat->Value)(fps:Nat->List Nat),v=.slice (some ⟨b,o,none⟩) es.length cap/\es.length<=cap/\B'<=b/\Free w b (o+cap*q)/\
        (∀j x,es[j]?=some x->(vs j).cells.size=q/\dz w b (o+j*q) (vs j))/\(∀j x,es[j]?=some x->aX w S B' (vs j) x (fps j))/\fp=b::cz es.length fps:=by
        cases h with
        |nil _ _ ad cap hn=>simp_all
        |lst f q b o len cap xs vs fps hl hcc hf hu hv hx=>subst hl;exact .inr ⟨b,o,cap,vs,fps,rfl,hcc,hf.2,hu rfl,hv,hx,by simp⟩
       rcases key with⟨rfl,rfl,rfl⟩|⟨b,o,cap,vs,fps,rfl,hcc,hbB,hfree,hva,hxx,rfl⟩
       ·refine base .nil (fun _=>.imm) (fun b hb=>(by cases hb)) fun tag'' β'' _ _ h3=>⟨.slN c h3,.inl ⟨h3,rfl⟩⟩
       ·rw[B1] at hnd;refine base (.blk b o q cap es.length) (fun b'=>if b'=b then .own c else .uq c) (fun b' _=>by grind) fun tag'' β'' h1 h2 h3=>?_;have hb:tag'' b=.own c:=by have:=h1 b (by simp);simpa using this
        have hn:∀b'∈cz es.length fps,tag'' b'=.uq c:=by
         intro b' hb';have:=h1 b' (by simp[hb']);have hne:b'≠b:=by rintro rfl;exact hnd.1 hb'
         simpa[hne] using this
        refine⟨?_,.inr ⟨b,o,cap,vs,fps,by rw[eO];exact h3,⟨hb,C4 hB hbB,hfree⟩,by rw[eO];exact hcc,?_,?_,?_,?_⟩⟩
        ·have:=Rep.slB (w:=w) (S:=Imm tag'') (B:=B) (β:=β'') c 0 es.length b o q cap es.length cap h3 (by omega) hcc (by omega);simpa using this
        ·grind [ju]
        ·intro j x hj;obtain⟨y,hy,rfl⟩:=ju hj;exact(hxx j y hy).fix hB hT (hcx j y hy) h2 fun b' hb'=>.inr ⟨c,hn b' (be.2 ⟨j,(A0.1 hy).1,hb'⟩)⟩
        ·grind [eO]
        grind [eO]
end Vs

namespace Vs
open Go Go.RowKit
variable{P:Program}{n:Nat}{w0:World}{S0:Fx}{σ:St}{a:Act}{w w':World}{tag tag':Nat->Tag}{β β':Nat->Option Own}{H:World->Prop}[HS S0 H]
theorem cS(r:Nat):∀(u:List (Nat×Row))(rows:List (Nat×Row)),r∉u.map (·.1)->aB r (bg u rows)=aB r rows
 |[],rows,_=>rfl
 | p :: u, rows, h => by
   simp only[B8,B2,not_or] at h;have e:bg (p::u) rows=bg u (put p.1 p.2 rows):=rfl;rw[e,cS r u _ h.2,aQ,u6 h.1]
theorem eJ(p:Nat×Row):∀(u:List (Nat×Row))(rows:List (Nat×Row)),(u.map (·.1)).Nodup->p∈u->aB p.1 (bg u rows)=some p.2
 |[],rows,_,h=>by cases h
 | q :: u, rows, hn, h => by
   have e:bg (q::u) rows=bg u (put q.1 q.2 rows):=rfl;rw[B8,B1] at hn;rw[e];cases h with
   |head=>rw[cS _ u _ hn.1,aQ,u7 rfl]
   |tail _ h=>exact eJ p u _ hn.2 h
theorem RR.adopt(h:RR n w0 S0 σ a w tag β){d:Nat}(hd:d<n){res:AV}{v:Value}{fp:List Nat}{S':Nat->Prop}(hbelow:Below w.heap.size w w')(hnd:fp.Nodup)
 (hS:∀b,S' b->b<w'.heap.size/\(b<w.heap.size->Imm tag b)) (hr:aX w' S' w.heap.size v res fp) (hc:res.ou\/fp=[])
 (hnew':∀p∈(Vs.adopt 4 d res).2.1,σ.row p.1=none/\p.1<1000000000):R n w0 S0 (σ.app (some d) (Vs.adopt 4 d res).1 (Vs.adopt 4 d res).2.1) (a.put (some d) v) w':=by
 classical
 have hnew:∀p∈(Vs.adopt 4 d res).2.1,σ.row p.1=none:=fun p hp=>(hnew' p hp).1;have hB:w0.heap.size<=w.heap.size:=h.below.size;have huB:=hr.uB;obtain⟨_,_,a3,a4,a5,tg,ow,_,a7⟩:=AW hB (fun b hb=>(huB b hb).1) 4 d res v fp hr hnd (fun b hb=>hb) hc;let tag'':Nat->Tag:=fun b=>if b<w.heap.size then tag b else if b∈fp then tg b else if S' b then .imm else .out
 let β'':Nat->Option Own:=fun r=>if r∈(Vs.adopt 4 d res).2.1.map (·.1) then some (ow r) else β r
 obtain⟨r1,r2⟩:=a7 tag'' β''
  (fun b hb=>by
   have:=(huB b hb).1;simp only[tag'',if_neg (show¬b<w.heap.size by omega),if_pos hb])
  (fun b hb hbf=>by
   by_cases e:b<w.heap.size
   ·have:=(hS b hb).2 e;unfold Imm at this⊢;simp only[tag'',if_pos e];exact this
   ·left;simp only[tag'',if_neg e,if_neg hbf,if_pos hb])
  (fun p hp=>by
   have:p.1∈(Vs.adopt 4 d res).2.1.map (·.1):=A6.2 ⟨p,hp,rfl⟩;simp only[β'',if_pos this])
 have htag:∀b,tag b≠.out->tag'' b=tag b/\w'.heap[b]?=w.heap[b]?:=by
  intro b hb;have hlt:=h.lt b hb;exact⟨by simp only[tag'',if_pos hlt],hbelow.block b hlt⟩
 have himm:∀b,Imm tag b->Imm tag'' b/\w'.heap[b]?=w.heap[b]?:=by
  intro b hb;have:=htag b (by rcases hb with e|⟨r,e⟩<;>simp[e]);refine⟨?_,this.2⟩;unfold Imm at hb⊢;rw[this.1];exact hb
 have hnot:∀r,(aB r σ.rows).isSome->r∉(Vs.adopt 4 d res).2.1.map (·.1):=by
  intro r hr hm;obtain⟨p,hp,rfl⟩:=A6.1 hm;have:=hnew p hp;unfold St.row at this;rw[this] at hr;cases hr
 have hdom:∀r,(aB r σ.rows).isSome->(aB r (bg (Vs.adopt 4 d res).2.1 σ.rows)).isSome:=by
  intro r hr;rw[cS r _ _ (hnot r hr)];exact hr
 have hch:=h.change (w':=w') (tag':=tag'') (β':=β'') (rows':=bg (Vs.adopt 4 d res).2.1 σ.rows) (hbelow.mono hB) himm
  (fun b hb=>by
   simp only[tag''] at hb;split at hb
   ·exact A7 (h.lt b hb) hbelow.size
   ·split at hb
    ·rename_i e;exact(hS b (huB b e).2).1
    ·split at hb
     ·rename_i e;exact(hS b e).1
     ·exact(hb rfl).elim)
  (fun b hb _=>⟨by simp only[tag'',if_pos hb],hbelow.block b hb⟩)
  (fun r hr hl=>by
   have hm:r∉(Vs.adopt 4 d res).2.1.map (·.1):=by
    intro hm;obtain⟨p,hp,rfl⟩:=A6.1 hm;have:=(hnew' p hp).2;omega
   rw[cS r _ _ hm] at hl;exact⟨hl,by simp only[β'',if_neg hm]⟩)
  (fun r hr=>.inl (by simp only[β'',if_neg (hnot r hr)]))
  hdom
  (fun r=>by
   by_cases hm:r∈(Vs.adopt 4 d res).2.1.map (·.1)
   ·obtain⟨p,hp,rfl⟩:=A6.1 hm;rw[eJ p _ _ a3 hp];exact r2 p hp
   ·rw[cS r _ _ hm];refine(h.rows r).mono himm (fun b hb=>?_) (fun b hb=>?_) (by simp only[β'',if_neg hm]) (fun x hx q hq=>.inl ?_)
    ·have:=htag b (by simp[hb]);exact⟨this.1.trans hb,this.2⟩
    ·exact(htag b (by simp[hb])).1.trans hb
    ·simp only[β'',if_neg (hnot q (h.wfr r x hx q hq))])
  (fun r x hr q hq=>by
   by_cases hm:r∈(Vs.adopt 4 d res).2.1.map (·.1)
   ·obtain⟨p,hp,rfl⟩:=A6.1 hm;rw[eJ p _ _ a3 hp] at hr;obtain⟨k,es,e⟩:=a5 p hp;rw[e] at hr;cases hr
   ·rw[cS r _ _ hm] at hr;exact hdom q (h.wfr r x hr q hq))
 refine⟨tag'',β'',hch.step hd r1 fun q hq=>?_⟩;obtain⟨p,hp,rfl⟩:=A6.1 (a4 q hq);show(aB p.1 (bg _ _)).isSome;rw[eJ p _ _ a3 hp];rfl
def Cg{ρ:Nat->Option Row}{k:Nat}{args:List AV}{j:Nat}{x:AV}(h:(args.map (snp ρ k))[j]?=some x):∃y,args[j]?=some y/\x=snp ρ k y:=by
 grind
def vq{o:Oper}{K:AV->List (Nat×Row)->Prop}{d:Nat}(h:RR n w0 S0 σ a w tag β)(hod:o.dst=some d)(hd:d<n){f:Nat}{args:List AV}{vs:Array Value}
 (hsz:vs.size=args.length) (hat:∀(j:Nat)(x:AV),args[j]?=some x->Rep w (Imm tag) w0.heap.size β (vs.getD j undef) x)
 (hrun:∀fn,P.funcs[f]?=some fn->fn.body.isNone=false->(fn.name== "runtime.NumGoroutine")=false->(execOp a.eval o).run P w=.ok (.enter f vs) w)
 (hk:gC (OkT H P) σ.row d f args K):Snd P n w0 S0 σ o K a w:=by
 intro next Q hn
 obtain⟨res,hok,hcond,hnew,hK⟩:=hk;obtain⟨⟨fn,h1,h2,h3⟩,hcall⟩:=hok;unfold Oper.wp;rw[hrun fn h1 h2 h3,Oper.upon_enter];have key:Calls P f vs w fun e w'=>∃v fp S',e=.returned v/\Below w.heap.size w w'/\fp.Nodup/\
  (∀b,S' b->b<w'.heap.size/\(b<w.heap.size->Imm tag b))/\aX w' S' w.heap.size v res fp/\(res.ou\/fp=[]):=by
  rcases hcond with hu|⟨hm,hc⟩
  ·refine(hcall w (fun b=>tag b≠.out) vs (fun b hb=>h.lt b hb) (by simpa using hsz) (fun j x hj=>?_) fun W hW=>h.hyp fun b hb=>hW b (by rcases hb with e|⟨r,e⟩<;>simp[e])).mono ?_
   ·obtain⟨y,hy,rfl⟩:=Cg hj;exact h.snp (S:=fun b=>tag b≠.out) (fun b hb=>by rcases hb with e|⟨r,e⟩<;>simp[e]) 4 y _ (hat j y hy) (.inr fun b hb=>hb)
   ·rintro e w' ⟨v,fp,S',he,hbel,hnd,hS,hr⟩;exact⟨v,fp,_,he,hbel,hnd,fun b hb=>⟨(hS b hb.1).1,fun hlt=>absurd hb.2 (by omega)⟩,hr.restrict hu,.inl (Fr res hu)⟩
  ·refine(hcall w (Imm tag) vs (fun b hb=>h.lt b (by rcases hb with e|⟨r,e⟩<;>simp[e])) (by simpa using hsz) (fun j x hj=>?_) fun W hW=>h.hyp hW).mono ?_
   ·obtain⟨y,hy,rfl⟩:=Cg hj;refine h.snp (S:=Imm tag) (fun b hb=>hb) 4 y _ (hat j y hy) (.inl ?_);apply B6.2;intro r hr;have:=bF hy hr
    simp_all
   ·rintro e w' ⟨v,fp,S',he,hbel,hnd,hS,hr⟩;exact⟨v,fp,S',he,hbel,hnd,hS,hr,hc.imp id fun e=>hr.noU_nil e⟩
 refine key.mono ?_;rintro e w' ⟨v,fp,S',rfl,hbel,hnd,hS,hr,hc⟩;exact hn _ _ _ _ hK (by rw[hod];exact h.adopt hd hbel hnd hS hr hc hnew)
section ops
variable{o:Oper}{K:AV->List (Nat×Row)->Prop}{d:Nat}(h:RR n w0 S0 σ a w tag β)(hod:o.dst=some d)(hd:d<n)
include h hod hd
def QP{c:Call}{f:Nat}{ys:List X}(hop:o.op=.call c)(hm:bd P (.call c) (.call f ys)=true)(hk:gC (OkT H P) σ.row d f (ys.map σ.gx) K):Snd P n w0 S0 σ o K a w:=by
 simp only[bd,A2] at hm;obtain⟨h1,h2⟩:=hm;split at h1
 ·rename_i g hg;simp at h1;subst h1;obtain⟨hl,hat⟩:=ey h2;refine vq h hod hd (vs:=c.args.map a.eval) (by simpa using hl) (fun j x hj=>?_) (fun fn e1 e2 e3=>?_) hk
  ·simp only[B4,A5] at hj;obtain⟨y,hy,rfl⟩:=hj;obtain⟨z,hz,hc⟩:=hat j y hy;have:(c.args.map a.eval).getD j undef=a.eval z:=by
    obtain⟨hlt,he⟩:=A0.1 hz;simp at hlt he;simp[hlt,he]
   rw[this];exact(h.gx hc).1
  ·have e2':¬fn.body=none:=fun e=>by rw[e] at e2;cases e2
   have e3':¬fn.name= "runtime.NumGoroutine":=by simpa using e3
   simp[execOp,hop,resolve,hg,Deferred.ofValue,Act.eval,invoke,callFunc,e1,e2',e3']
 ·cases h1
def TD{c:Call}{x:X}{ys:List X}(hop:o.op=.call c)(hm:bd P (.call c) (.dyn x ys)=true)(hk:xA (OkT H P) σ.row d (σ.gx x) (ys.map σ.gx) K):Snd P n w0 S0 σ o K a w:=by
 simp only[bd,A2] at hm;obtain⟨h1,h2⟩:=hm;split at h1
 ·rename_i g hg;obtain⟨hr,hdx⟩:=h.gx h1;obtain⟨hl,hat⟩:=ey h2;unfold xA at hk;split at hk
  ·rename_i f cs e;rw[e] at hr;obtain⟨us,hv,hus,hx⟩:=hr.fn_inv;have hls:c.args.size=ys.length:=by simpa using hl
   refine vq h hod hd (vs:=c.args.map a.eval++us) (by simp[hls,hus]) (fun j x hj=>?_) (fun fn e1 e2 e3=>?_) hk
   ·rw[F0] at hj;split at hj
    ·rename_i hlt;simp only[B4,A5] at hj;obtain⟨y,hy,rfl⟩:=hj;obtain⟨z,hz,hc⟩:=hat j y hy;have:(c.args.map a.eval++us).getD j undef=a.eval z:=by
      obtain⟨hlt,he⟩:=A0.1 hz;simp at hlt he;simp[C0,hlt,he]
     rw[this];exact(h.gx hc).1
    ·rename_i hge;simp only[G6] at hj hge;have:=hx _ _ hj;have e2:(c.args.map a.eval++us).getD j undef=us.getD (j-ys.length) undef:=by
      simp[C0,hls,show¬j<ys.length by omega]
     rw[e2];exact this
   ·have e2':¬fn.body=none:=fun e=>by rw[e] at e2;cases e2
    have e3':¬fn.name= "runtime.NumGoroutine":=by simpa using e3
    simp[execOp,hop,resolve,hg,Deferred.ofValue,hv,invoke,callFunc,e1,e2',e3']
  ·exact hk.elim
 ·cases h1
end ops
end Vs

namespace Vs
open Go Go.RowKit
variable{P:Program}{n:Nat}{w0:World}{S0:Fx}{σ:St}{a:Act}{w w':World}{tag tag':Nat->Tag}{β β':Nat->Option Own}{H:World->Prop}[HS S0 H]
variable{rs:List Nat}{r:Nat}{α:Type}
mutual
theorem YQ(h:Nat->Nat):∀(x:AV),x.ments=[]->x.rg h=x
 | .sl q i m,e=>by simp[AV.ments] at e
 | .pt q i m,e=>by simp[AV.ments] at e
 | .agg cs,e=>by simp only[AV.ments] at e;simp only[AV.rg,vG h cs e]
 | .fn f cs,e=>by simp only[AV.ments] at e;simp only[AV.rg,vG h cs e]
 | .tup cs,e=>by simp only[AV.ments] at e;simp only[AV.rg,vG h cs e]
 | .sc v,_=>by simp only[AV.rg]
 | .lst _ _ _,_=>by simp only[AV.rg]
 | .tg _ _ _,_=>by simp only[AV.rg]
 | .bp _ _ _,_=>by simp only[AV.rg]
 | .top,_=>by simp only[AV.rg]
 | .ub,_=>by simp only[AV.rg]
theorem vG(h:Nat->Nat):∀(xs:List AV),aP xs=[]->rgL h xs=xs
 |[],_=>by simp only[rgL]
 | x :: xs, e => by
   simp only[aP,List.append_eq_nil_iff] at e;simp only[rgL,YQ h x e.1,vG h xs e.2]
end
theorem xk(h:Nat->Nat):∀(xs:List AV)(j:Nat),(rgL h xs)[j]?=(xs[j]?).map (AV.rg h)
 |[],j=>by simp[rgL]
 |x::xs,0=>by simp[rgL]
 |x::xs,j+1=>by simp[rgL,xk h xs j]
theorem mR(h:Nat->Nat):∀(xs:List AV),(rgL h xs).length=xs.length
 |[]=>rfl
 |x::xs=>by simp[rgL,mR h xs]
mutual
theorem kv(h:Nat->Nat):∀(x:AV),(x.rg h).ments=x.ments.map h
 | .sl p i m=>by simp[AV.rg,AV.ments]
 | .pt p i m=>by simp[AV.rg,AV.ments]
 | .agg cs=>by simp only[AV.rg,AV.ments];exact kR h cs
 | .fn f cs=>by simp only[AV.rg,AV.ments];exact kR h cs
 | .tup cs=>by simp only[AV.rg,AV.ments];exact kR h cs
 | .sc v=>by simp[AV.rg,AV.ments]
 | .lst _ _ _=>by simp[AV.rg,AV.ments]
 | .tg _ _ _=>by simp[AV.rg,AV.ments]
 | .bp _ _ _=>by simp[AV.rg,AV.ments]
 | .top=>by simp[AV.rg,AV.ments]
 | .ub=>by simp[AV.rg,AV.ments]
theorem kR(h:Nat->Nat):∀(xs:List AV),aP (rgL h xs)=(aP xs).map h
 |[]=>by simp[rgL,aP]
 |x::xs=>by simp only[rgL,aP,List.map_append,kv h x,kR h xs]
end
def Ln(h:Nat->Nat)(x:AV):(x.rg h).width=x.width:=by
 cases x<;>simp[AV.rg,AV.width,mR]
def Rep.rg{S S':Nat->Prop}{B:Nat}{v:Value}{x:AV}(h:Rep w S B β v x)(g:Nat->Nat)(hS:∀b,S b->S' b)(hb:∀q∈x.ments,β' (g q)=β q):Rep w S' B β' v (x.rg g):=by
 induction h with
 |p v x h=>rw[YQ g x h.ments_nil];exact .p _ _ (h.mono fun b hb=>⟨hS b hb,rfl⟩)
 |slB q i n b o sz cap len c h hc hn hl=>simp only[AV.rg];exact .slB _ i n b o sz cap len c ((hb q (by simp[AV.ments])).trans h) hc hn hl
 |slE q i b o sz cap len p h hp=>simp only[AV.rg];exact .slE _ i b o sz cap len p ((hb q (by simp[AV.ments])).trans h) hp
 |slN q h=>simp only[AV.rg];exact .slN _ ((hb q (by simp[AV.ments])).trans h)
 |slD q i n v h h1=>simp only[AV.rg];exact .slD _ i n v ((hb q (by simp[AV.ments])).trans h) h1
 |ptB q i off b o sz cap len h=>simp only[AV.rg];exact .ptB _ i off b o sz cap len ((hb q (by simp[AV.ments])).trans h)
 |ptD q i off v h h1=>simp only[AV.rg];exact .ptD _ i off v ((hb q (by simp[AV.ments])).trans h) h1
 |tg f n len a xs hl h=>simp only[AV.rg];exact .tg f n len a xs hl (h.mono fun b hb=>⟨hS b hb,rfl⟩)
 | agg vs cs hsz h1 hx ih =>
   simp only[AV.rg];refine .agg vs _ (by rw[mR];exact hsz) h1 fun j x hj=>?_;rw[xk,A5] at hj;obtain⟨y,hy,rfl⟩:=hj;exact ih j y hy fun q hq=>hb q (by simp only[AV.ments];exact bF hy hq)
 | tup vs cs hsz hx ih =>
   simp only[AV.rg];refine .tup vs _ (by rw[mR];exact hsz) fun j x hj=>?_;rw[xk,A5] at hj;obtain⟨y,hy,rfl⟩:=hj;exact ih j y hy fun q hq=>hb q (by simp only[AV.ments];exact bF hy hq)
 | fn f vs cs hsz hx ih =>
   simp only[AV.rg];refine .fn f vs _ (by rw[mR];exact hsz) fun j x hj=>?_;rw[xk,A5] at hj;obtain⟨y,hy,rfl⟩:=hj;exact ih j y hy fun q hq=>hb q (by simp only[AV.ments];exact bF hy hq)
def cJ.rg{B:Nat}{row:Option Row}(h:cJ w tag B β r row)(g:Nat->Nat)(himm:∀b,Imm tag b->Imm tag' b)(hown:∀b,tag b=.own r->tag' b=.own (g r))
 (huq:∀b,tag b=.uq r->tag' b=.uq (g r)) (hr:β' (g r)=β r) (hβ:∀x,row=some (.var x)->∀q∈x.ments,β' (g q)=β q):cJ w tag' B β' (g r) (row.map (Row.rg g)):=by
 cases row with
 |none=>exact hr.trans h
 | some row => cases row with
   |dead=>exact hr.trans h
   | var x =>
     obtain⟨b,o,v,h1,⟨h2,h3,h4⟩,h5,h6,h7⟩:=h;exact⟨b,o,v,hr.trans h1,⟨hown b h2,h3,h4⟩,h5,h6.rg g himm (hβ x rfl),by rw[Ln];exact h7⟩
   | arr k es =>
     rcases h with⟨h1,h2⟩|⟨b,o,cap,vs,fps,h1,⟨h2,h3,h4⟩,h5,h6,h7,h8,h9⟩
     ·exact .inl ⟨hr.trans h1,h2⟩
     ·exact .inr ⟨b,o,cap,vs,fps,hr.trans h1,⟨hown b h2,h3,h4⟩,h5,h6,fun j x hj=>(h7 j x hj).mono fun b hb=>⟨himm b hb,rfl⟩,h8,fun c hc=>huq c (h9 c hc)⟩
theorem ML:∀{rs:List Nat},r∈rs->pos r rs<rs.length
 | x :: xs, h => by
   simp only[pos];by_cases e:x=r
   ·simp[e]
   ·rw[u6 e];have:=ML (rs:=xs) ((B2.1 h).resolve_left fun e'=>e e'.symm);simp;omega
theorem pU:∀{rs:List Nat},r∈rs->rs.getD (pos r rs) 0=r
 | x :: xs, h => by
   simp only[pos];by_cases e:x=r
   ·simp[e]
   ·rw[u6 e];have:=pU (rs:=xs) ((B2.1 h).resolve_left fun e'=>e e'.symm);simpa using this
def Lj(hn:rs.Nodup):∀{j:Nat},j<rs.length->pos (rs.getD j 0) rs=j:=by
 induction rs with
 |nil=>intro j h;simp at h
 | cons x xs ih =>
   intro j h;rw[B1] at hn;cases j with
   |zero=>simp[pos]
   | succ j =>
     simp only[G0] at h;have hj:j<xs.length:=by omega
     have e:(x::xs).getD (j+1) 0=xs.getD j 0:=by simp
     have hm:xs.getD j 0∈xs:=by
      rw[C2,A3 hj];exact D9 _
     rw[e,pos,u6 (show¬x=xs.getD j 0 from fun e'=>hn.1 (by rw[e'];exact hm)),ih hn.2 hj]
def VX{q:Nat}(hr:r∈rs)(hq:q∈rs)(h:cnm rs r=cnm rs q):r=q:=by
 unfold cnm at h;have:pos r rs=pos q rs:=by omega
 rw[<-pU hr,this,pU hq]
theorem kg{k:Nat}{x:α}:∀{l:List (Nat×α)},aB k l=some x->(k,x)∈l
 |[],h=>by cases h
 | (j, y) :: l, h => by
   simp only[aB] at h;split at h
   ·rename_i e;cases h;subst e;exact D6
   ·exact C3 _ (kg h)
theorem iH{p:Nat×α}:∀{l:List (Nat×α)},(l.map (·.1)).Nodup->p∈l->aB p.1 l=some p.2
 | q :: l, hn, h => by
   rw[B8,B1] at hn;obtain⟨j,y⟩:=q;simp only[aB];rcases B2.1 h with e|h'
   ·subst e;simp
   ·rw[u6,iH hn.2 h'];intro e;exact hn.1 (A6.2 ⟨p,h',e.symm⟩)
theorem mW{β:Type}{f:α->β}:∀{l:List α},(l.map f).Nodup->l.Nodup
 |[],_=>B5
 | y :: l, h => by
   rw[B8,B1] at h;rw[B1];exact⟨fun hx=>h.1 (A6.2 ⟨y,hx,rfl⟩),mW h.2⟩
theorem qO{β:Type}{f:α->β}:∀{l:List α},(l.map f).Nodup->∀{x y:α},x∈l->y∈l->f x=f y->x=y
 | z :: l, h, x, y, hx, hy, e => by
   rw[B8,B1] at h;rcases B2.1 hx with e1|hx'<;>rcases B2.1 hy with e2|hy'
   ·rw[e1,e2]
   ·exact(h.1 (A6.2 ⟨y,hy',by rw[<-e,e1]⟩)).elim
   ·exact(h.1 (A6.2 ⟨x,hx',by rw[e,e2]⟩)).elim
   ·exact qO h.2 hx' hy' e
theorem jZ{us:List (Nat×Row)}(hn:(us.map (·.1)).Nodup):∀(rs:List Nat)(rows:List (Nat×Row)),
 aB r (bg (bP rs++us) rows)=match aB r us with|some x=>some x|none=>if r∈rs then some .dead else aB r rows
 | [], rows => by
   simp only[bP,List.map_nil,List.nil_append,G1,if_false];cases e:aB r us with
   | some x =>
     have:=eJ (r,x) us rows hn (kg e);simpa using this
   | none =>
     have hm:r∉us.map (·.1):=by
      intro hm;obtain⟨p,hp,rfl⟩:=A6.1 hm;rw[iH hn hp] at e;cases e
     exact cS r us rows hm
 | q :: rs, rows => by
   have e:bg (bP (q::rs)++us) rows=bg (bP rs++us) (put q .dead rows):=rfl;rw[e,jZ hn rs (put q .dead rows)];cases aB r us with
   |some x=>rfl
   | none =>
     simp only[aQ,B2];by_cases h1:r∈rs
     ·simp[h1]
     ·by_cases h2:r=q<;>simp[h1,h2]
def js(rs:List Nat)(tag:Nat->Tag)(b:Nat):Tag:=match tag b with
 | .own r=>if r∈rs then .own (cnm rs r) else .out
 | .uq r=>if r∈rs then .uq (cnm rs r) else .imm
 |t=>t
def Mc(rs:List Nat)(β:Nat->Option Own)(q:Nat):Option Own:=if 1000000000<=q/\q-1000000000<rs.length then β (rs.getD (q-1000000000) 0) else none
def jh(hr:r∈rs):Mc rs β (cnm rs r)=β r:=by
 unfold Mc cnm;rw[u7 ⟨by omega,by have:=ML hr;omega⟩,Nat.add_sub_cancel_left,pU hr]
def ny{b:Nat}(h:Imm tag b):Imm (js rs tag) b:=by
 unfold Imm js;rcases h with e|⟨r,e⟩
 ·simp[e]
 ·rw[e];simp only;split<;>simp
def KA{ρ:Nat->Option Row}(hn:rs.Nodup):(∀r∈rs,aB (cnm rs r) (rs.map (gV ρ rs))=some (((ρ r).getD .dead).rg (cnm rs)))/\
 ∀q,(∀r∈rs,cnm rs r≠q)->aB q (rs.map (gV ρ rs))=none:=by
 have key:∀(l:List Nat),(∀r∈l,r∈rs)->l.Nodup->(∀r∈l,aB (cnm rs r) (l.map (gV ρ rs))=some (((ρ r).getD .dead).rg (cnm rs)))/\
  ∀q,(∀r∈l,cnm rs r≠q)->aB q (l.map (gV ρ rs))=none:=by
  intro l;induction l with
  |nil=>intro _ _;exact⟨fun r h=>(G1 h).elim,fun q _=>rfl⟩
  | cons x l ih =>
    intro hl hnd;rw[B1] at hnd;obtain⟨i1,i2⟩:=ih (fun r hr=>hl r (C3 _ hr)) hnd.2;constructor
    ·intro r hr;simp only[B8,gV,aB];rcases B2.1 hr with rfl|hr
     ·simp
     ·rw[u6]
      ·exact i1 r hr
      ·intro e;have:=VX (hl x D6) (hl r (C3 _ hr)) e;subst this;exact hnd.1 hr
    ·intro q hq;simp only[B8,gV,aB];rw[u6 (hq x D6)];exact i2 q fun r hr=>hq r (C3 _ hr)
 exact key rs (fun r h=>h) hn
def uk{o:Oper}{K:AV->List (Nat×Row)->Prop}{d:Nat}(h:RR n w0 S0 σ a w tag β)(hod:o.dst=some d)(hd:d<n){f:Nat}{args:List AV}{vs:Array Value}
 (hsz:vs.size=args.length) (hat:∀(j:Nat)(x:AV),args[j]?=some x->Rep w (Imm tag) w0.heap.size β (vs.getD j undef) x/\σ.dom x)
 (hrun:∀fn,P.funcs[f]?=some fn->fn.body.isNone=false->(fn.name== "runtime.NumGoroutine")=false->(execOp a.eval o).run P w=.ok (.enter f vs) w)
 (hk:callM (OkT H P) σ.row d f args rs K):Snd P n w0 S0 σ o K a w:=by
 classical
 intro next Q hnx
 obtain⟨res,outs,hok,⟨hnd,hlive,hcl,hma⟩,⟨hnb,hcn,hfr⟩,hK⟩:=hk;obtain⟨⟨fn,f1,f2,f3⟩,hcall⟩:=hok;unfold Oper.wp;rw[hrun fn f1 f2 f3,Oper.upon_enter];obtain⟨li1,li2⟩:=KA (ρ:=σ.row) hnd;have hrowsome:∀r∈rs,∃row,aB r σ.rows=some row:=by
  intro r hr;have:=hlive r hr;unfold St.row at this;cases e:aB r σ.rows with
  |none=>rw[e] at this;exact this.elim
  |some row=>exact⟨row,rfl⟩
 have hC:∀b,tag b=.imm\/tag b=.out->js rs tag b=tag b:=by
  intro b hb;rcases hb with e|e<;>simp[js,e]
 have hprot:∀b,(js rs tag b=.imm\/js rs tag b=.out)->tag b=.imm\/tag b=.out\/∃r,r∉rs/\(tag b=.own r\/tag b=.uq r):=by
  intro b hb;unfold js at hb;cases e:tag b with
  |imm=>exact .inl rfl
  |out=>exact .inr (.inl rfl)
  | own r =>
    rw[e] at hb;simp only at hb;by_cases hr:r∈rs
    ·rw[u7 hr] at hb;rcases hb with hb|hb<;>cases hb
    ·exact .inr (.inr ⟨r,hr,.inl rfl⟩)
  | uq r =>
    rw[e] at hb;simp only at hb;by_cases hr:r∈rs
    ·rw[u7 hr] at hb;rcases hb with hb|hb<;>cases hb
    ·exact .inr (.inr ⟨r,hr,.inr rfl⟩)
 refine(hcall w0 w (js rs tag) (Mc rs β) vs h.below (fun b hb=>by rw[hC b (h.old b hb).2];exact(h.old b hb).2) (fun b hb=>h.lt b fun e=>hb (by simp[js,e])) (fun q=>?_) ?_ (by simpa using hsz) (fun j x hj=>?_) fun W hW=>h.hyp fun b hb=>hW b (ny hb)).mono ?_
 ·by_cases hq:∃r∈rs,cnm rs r=q
  ·obtain⟨r,hr,rfl⟩:=hq;obtain⟨row,hrow⟩:=hrowsome r hr;rw[li1 r hr,show σ.row r=some row from hrow];have h0:=h.rows r;rw[hrow] at h0;exact h0.rg (cnm rs) (fun b hb=>ny hb) (fun b hb=>by simp[js,hb,hr]) (fun b hb=>by simp[js,hb,hr]) (jh hr) (fun x hx p hp=>jh (hcl r hr p (by
    rw[show σ.row r=some row from hrow];cases hx;exact hp)))
  ·have hq':∀r∈rs,cnm rs r≠q:=fun r hr e=>hq ⟨r,hr,e⟩;rw[li2 q hq'];show Mc rs β q=none;unfold Mc;rw[u6];rintro⟨h1,h2⟩;refine hq' (rs.getD (q-1000000000) 0) ?_ ?_
   ·rw[C2,A3 h2];exact D9 _
   ·unfold cnm;rw[Lj hnd h2];omega
 ·intro q x hx p hp;by_cases hq:∃r∈rs,cnm rs r=q
  ·obtain⟨r,hr,rfl⟩:=hq;obtain⟨row,hrow⟩:=hrowsome r hr;rw[li1 r hr,show σ.row r=some row from hrow] at hx;simp only[G2,Option.some.injEq] at hx;cases row with
   | var y =>
     simp only[Row.rg,Row.var.injEq] at hx;subst hx;rw[kv] at hp;obtain⟨z,hz,rfl⟩:=A6.1 hp;have hzr:=hcl r hr z (by rw[show σ.row r=some (.var y) from hrow];exact hz);rw[li1 z hzr];rfl
   |arr k es=>simp[Row.rg] at hx
   |dead=>simp[Row.rg] at hx
  ·rw[li2 q fun r hr e=>hq ⟨r,hr,e⟩] at hx;cases hx
 ·rw[B4,A5] at hj;obtain⟨y,hy,rfl⟩:=hj;obtain⟨r1,r2⟩:=hat j y hy;have hsub:∀q∈y.ments,q∈rs:=fun q hq=>hma q (bF hy hq);refine⟨r1.rg (cnm rs) (fun b hb=>ny hb) (fun q hq=>jh (hsub q hq)),fun q hq=>?_⟩;rw[kv] at hq;obtain⟨z,hz,rfl⟩:=A6.1 hq;rw[li1 z (hsub z hz)];rfl
 ·rintro e w' ⟨v,tag1,β1,rfl,hb0,hkp,hki,hlt1,hro,hwf,hbk1,hrep,hdr⟩
  -- what the caller makes of it
  let bk:=bkn d rs;let prot:Nat->Prop:=fun b=>b<w.heap.size/\(js rs tag b=.imm\/js rs tag b=.out);let tag2:Nat->Tag:=fun b=>if prot b then tag b else match tag1 b with| .own q=>.own (bk q)| .uq q=>.uq (bk q)|t=>t
  let β2:Nat->Option Own:=fun r=>match outs.find? (fun p=>bk p.1==r) with|some p=>β1 p.1|none=>if r∈rs then none else β r
  have hnd1:(outs.map (·.1)).Nodup:=by
   have:(outs.map fun p=>bkn d rs p.1)=(outs.map (·.1)).map (bkn d rs):=by simp[Function.comp_def]
   rw[this] at hnb;exact mW hnb
  have hβ2:∀p∈outs,β2 (bk p.1)=β1 p.1:=by
   intro p hp;simp only[β2];cases e:outs.find? (fun q=>bk q.1==bk p.1) with
   | none =>
     have:=List.find?_eq_none.1 e p hp;simp at this
   | some q =>
     have h1:=G7 e;have h2:=D7 e;simp only[beq_iff_eq] at h1;have:q=p:=qO hnb h2 hp h1;subst this;rfl
  have hβn:∀r,(∀p∈outs,bk p.1≠r)->β2 r=if r∈rs then none else β r:=by
   intro r hr;simp only[β2];cases e:outs.find? (fun q=>bk q.1==r) with
   |none=>rfl
   | some q =>
     have h1:=G7 e;have h2:=D7 e;simp only[beq_iff_eq] at h1;exact(hr q h2 h1).elim
  have hcan:∀p∈outs,1000000000<=p.1->bk p.1∈rs/\p.1=cnm rs (bk p.1):=by
   intro p hp hge;have h1:=hcn p hp hge;have e:bk p.1=rs.getD (p.1-1000000000) 0:=by simp only[bk,bkn,if_pos hge]
   rw[e];refine⟨?_,?_⟩
   ·rw[C2,A3 h1];exact D9 _
   ·unfold cnm;rw[Lj hnd h1];omega
  have himm:∀b,Imm tag b->Imm tag2 b/\w'.heap[b]?=w.heap[b]?:=by
   intro b hb;obtain⟨k1,k2⟩:=hki b (ny hb);refine⟨?_,k2⟩;unfold Imm;simp only[tag2];by_cases hp:prot b
   ·rw[u7 hp];exact hb
   ·rw[u6 hp];rcases k1 with e|⟨q,e⟩
    ·rw[e];exact .inl rfl
    ·rw[e];exact .inr ⟨bk q,rfl⟩
  have hpk:∀b,prot b->tag1 b=js rs tag b/\w'.heap[b]?=w.heap[b]?:=fun b hb=>hkp b hb.1 hb.2;have hnp:∀b q,tag1 b=.own q\/tag1 b=.uq q->¬prot b:=by
   intro b q hq hp;have:=(hpk b hp).1;rcases hp.2 with e|e<;>rw[e] at this<;>rw[this] at hq<;>rcases hq with e|e<;>cases e
  have himm1:∀b,Imm tag1 b->Imm tag2 b:=by
   intro b hb;unfold Imm;simp only[tag2];by_cases hp:prot b
   ·rw[u7 hp];have e1:=(hpk b hp).1;have e2:js rs tag b=.imm:=by
     rcases hp.2 with e|e
     ·exact e
     ·rw[e] at e1;rcases hb with hb|⟨q,hb⟩<;>rw[hb] at e1<;>cases e1
    rcases hprot b (.inl e2) with e|e|⟨r,hr,e|e⟩
    ·exact .inl e
    ·rw[hC b (.inr e),e] at e2;cases e2
    ·have:js rs tag b=.out:=by simp[js,e,hr]
     rw[this] at e2;cases e2
    ·exact .inr ⟨r,e⟩
   ·rw[u6 hp];rcases hb with e|⟨q,e⟩
    ·rw[e];exact .inl rfl
    ·rw[e];exact .inr ⟨bk q,rfl⟩
  have hus:((outs.map (fS d rs)).map (·.1)).Nodup:=by simpa[fS,Function.comp_def] using hnb
  have hlk:∀r,aB r (bg (bP rs++outs.map (fS d rs)) σ.rows)=match aB r (outs.map (fS d rs)) with|some x=>some x|none=>if r∈rs then some .dead else aB r σ.rows:=fun r=>jZ hus rs σ.rows
  have hin:∀p∈outs,aB (bk p.1) (outs.map (fS d rs))=some (p.2.rg bk):=by
   intro p hp;exact iH (p:=fS d rs p) hus (A6.2 ⟨p,hp,rfl⟩)
  have hout:∀r,(∀p∈outs,bk p.1≠r)->aB r (outs.map (fS d rs))=none:=by
   intro r hr;cases e:aB r (outs.map (fS d rs)) with
   |none=>rfl
   | some x =>
     obtain⟨p,hp,e'⟩:=A6.1 (kg e);have:=congrArg Prod.fst e';exact(hr p hp this).elim
  have hcase:∀r,(∃p∈outs,bk p.1=r)\/∀p∈outs,bk p.1≠r:=by
   intro r;by_cases e:∃p∈outs,bk p.1=r
   ·exact .inl e
   ·exact .inr fun p hp he=>e ⟨p,hp,he⟩
  have hlko:∀p∈outs,aB p.1 outs=some p.2:=fun p hp=>iH hnd1 hp;have hdomo:∀q,(aB q outs).isSome->∃p∈outs,p.1=q:=by
   intro q hq;obtain⟨x,hx⟩:=Option.isSome_iff_exists.1 hq;exact⟨(q,x),kg hx,rfl⟩
  have hβq:∀q,(aB q outs).isSome->β2 (bk q)=β1 q:=by
   intro q hq;obtain⟨p,hp,rfl⟩:=hdomo q hq;exact hβ2 p hp
  have hlive2:∀p∈outs,1000000000<=p.1->β1 p.1=β (bk p.1)\/β1 p.1=none:=by
   intro p hp hge;obtain⟨c1,c2⟩:=hcan p hp hge;have hr:=hro p.1;rw[hlko p hp] at hr;cases hrow:p.2 with
   |dead=>rw[hrow] at hr;exact .inr hr
   |var x=>left;rw[hbk1 p.1 hge (by rw[hlko p hp,hrow];trivial),c2,jh c1,<-c2]
   |arr k es=>left;rw[hbk1 p.1 hge (by rw[hlko p hp,hrow];trivial),c2,jh c1,<-c2]
  have hbelow:Below w0.heap.size w0 w':=by
   refine⟨⟨?_,?_,?_,?_,?_⟩,fun x hx=>?_,C4 h.below.drawn hb0.drawn⟩
   ·rw[hb0.bel.os,h.below.bel.os]
   ·rw[hb0.bel.tape,h.below.bel.tape]
   ·rw[hb0.bel.output,h.below.bel.output]
   ·exact C4 h.below.size hb0.size
   ·intro k hk;have ho:=(h.old k hk).2;have hp:prot k:=⟨A7 hk h.below.size,by rw[hC k ho];exact ho⟩;rw[(hpk k hp).2,h.below.block k hk]
   ·rw[hb0.frz x (A7 hx h.below.size),h.below.frz x hx]
  have hbelow':Below w0.heap.size w w':=by
   refine⟨⟨hb0.bel.os,hb0.bel.tape,hb0.bel.output,hb0.size,fun k hk=>?_⟩,hb0.frz,hb0.drawn⟩;have ho:=(h.old k hk).2;exact(hpk k ⟨A7 hk h.below.size,by rw[hC k ho];exact ho⟩).2
  have hdom:∀r,(aB r σ.rows).isSome->(aB r (bg (bP rs++outs.map (fS d rs)) σ.rows)).isSome:=by
   intro r hr;rw[hlk];cases aB r (outs.map (fS d rs)) with
   |some x=>rfl
   | none =>
     simp only;split
     ·rfl
     ·exact hr
  have hdomb:∀q,(aB q outs).isSome->(aB (bk q) (bg (bP rs++outs.map (fS d rs)) σ.rows)).isSome:=by
   intro q hq;obtain⟨p,hp,rfl⟩:=hdomo q hq;rw[hlk,hin p hp];rfl
  have hch:=h.change (w':=w') (tag':=tag2) (β':=β2) (rows':=bg (bP rs++outs.map (fS d rs)) σ.rows) hbelow' himm
   (fun b hb=>by
    simp only[tag2] at hb;by_cases hp:prot b
    ·exact A7 hp.1 hb0.size
    ·rw[u6 hp] at hb;exact hlt1 b fun e=>hb (by rw[e]))
   (fun b hb ht=>by
    have hp:prot b:=⟨hb,by rw[hC b ht];exact ht⟩;exact⟨by simp only[tag2,if_pos hp],(hpk b hp).2⟩)
   (fun r hr hl=>by
    rw[hlk] at hl;rcases hcase r with⟨p,hp,rfl⟩|hno
    ·rcases D3 p.1 1000000000 with hlt|hge
     ·have:=(hfr p hp hlt).2;simp only[bk] at hr;omega
     ·obtain⟨c1,c2⟩:=hcan p hp hge;refine⟨by have:=hlive _ c1;exact this,?_⟩;rw[hβ2 p hp];rw[hin p hp] at hl;simp only at hl;have hl':cR (aB p.1 outs):=by
       rw[hlko p hp];cases hrow:p.2 with
       |dead=>rw[hrow] at hl;exact hl
       |var x=>trivial
       |arr k es=>trivial
      rw[hbk1 p.1 hge hl',c2,jh c1,<-c2]
    ·rw[hout r hno] at hl;simp only at hl;by_cases hrs:r∈rs
     ·rw[u7 hrs] at hl;exact hl.elim
     ·rw[u6 hrs] at hl;exact⟨hl,by rw[hβn r hno,u6 hrs]⟩)
   (fun r hr=>by
    rcases hcase r with⟨p,hp,rfl⟩|hno
    ·rw[hβ2 p hp];rcases D3 p.1 1000000000 with hlt|hge
     ·have:=(hfr p hp hlt).1;unfold St.row at this;simp only[bk] at hr;rw[this] at hr;cases hr
     ·exact hlive2 p hp hge
    ·rw[hβn r hno];split
     ·exact .inr rfl
     ·exact .inl rfl)
   hdom
   (fun r=>by
    rw[hlk];rcases hcase r with⟨p,hp,rfl⟩|hno
    ·rw[hin p hp];have h0:=hro p.1;rw[hlko p hp] at h0;exact h0.rg bk himm1 (fun b hb=>by simp only[tag2,if_neg (hnp b p.1 (.inl hb)),hb]) (fun b hb=>by simp only[tag2,if_neg (hnp b p.1 (.inr hb)),hb]) (hβ2 p hp)
      (fun x hx q hq=>hβq q (hwf p.1 x (by rw[hlko p hp];exact hx) q hq))
    ·rw[hout r hno];simp only;by_cases hrs:r∈rs
     ·rw[u7 hrs];show β2 r=none;rw[hβn r hno,u7 hrs]
     ·rw[u6 hrs];refine(h.rows r).mono himm (fun b hb=>?_) (fun b hb=>?_) (by rw[hβn r hno,u6 hrs]) (fun x hx q hq=>?_)
      ·have hp:prot b:=⟨h.lt b (by simp[hb]),.inr (by simp[js,hb,hrs])⟩;exact⟨by simp only[tag2,if_pos hp,hb],(hpk b hp).2⟩
      ·have hp:prot b:=⟨h.lt b (by simp[hb]),.inl (by simp[js,hb,hrs])⟩;simp only[tag2,if_pos hp,hb]
      ·have hqs:=h.wfr r x hx q hq;rcases hcase q with⟨p,hp,rfl⟩|hno
       ·rw[hβ2 p hp];rcases D3 p.1 1000000000 with hlt|hge
        ·have:=(hfr p hp hlt).1;unfold St.row at this;simp only[bk] at hqs;rw[this] at hqs;cases hqs
        ·exact hlive2 p hp hge
       ·rw[hβn q hno];split
        ·exact .inr rfl
        ·exact .inl rfl)
   (fun r x hr q hq=>by
    rw[hlk] at hr;rcases hcase r with⟨p,hp,rfl⟩|hno
    ·rw[hin p hp] at hr;simp only[Option.some.injEq] at hr;cases hrow:p.2 with
     |dead=>rw[hrow] at hr;cases hr
     |arr k es=>rw[hrow] at hr;cases hr
     | var y =>
       rw[hrow] at hr;simp only[Row.rg,Row.var.injEq] at hr;subst hr;rw[kv] at hq;obtain⟨z,hz,rfl⟩:=A6.1 hq;exact hdomb z (hwf p.1 y (by rw[hlko p hp,hrow]) z hz)
    ·rw[hout r hno] at hr;simp only at hr;by_cases hrs:r∈rs
     ·rw[u7 hrs] at hr;cases hr
     ·rw[u6 hrs] at hr;exact hdom q (h.wfr r x hr q hq))
  refine hnx _ _ _ _ hK ?_;rw[hod];exact⟨tag2,β2,hch.step hd (hrep.rg bk himm1 fun q hq=>hβq q (hdr q hq)) fun q hq=>by
   rw[kv] at hq;obtain⟨z,hz,rfl⟩:=A6.1 hq;exact hdomb z (hdr z hz)⟩
section ops
variable{o:Oper}{K:AV->List (Nat×Row)->Prop}{d:Nat}(h:RR n w0 S0 σ a w tag β)(hod:o.dst=some d)(hd:d<n)
include h hod hd
def BU{c:Call}{f:Nat}{ys:List X}(hop:o.op=.call c)(hm:bd P (.call c) (.callM f ys rs)=true)(hk:callM (OkT H P) σ.row d f (ys.map σ.gx) rs K):Snd P n w0 S0 σ o K a w:=by
 simp only[bd,A2] at hm;obtain⟨h1,h2⟩:=hm;split at h1
 ·rename_i g hg;simp at h1;subst h1;obtain⟨hl,hat⟩:=ey h2;refine uk h hod hd (vs:=c.args.map a.eval) (by simpa using hl) (fun j x hj=>?_) (fun fn e1 e2 e3=>?_) hk
  ·simp only[B4,A5] at hj;obtain⟨y,hy,rfl⟩:=hj;obtain⟨z,hz,hc⟩:=hat j y hy;have:(c.args.map a.eval).getD j undef=a.eval z:=by
    obtain⟨hlt,he⟩:=A0.1 hz;simp at hlt he;simp[hlt,he]
   rw[this];exact h.gx hc
  ·have e2':¬fn.body=none:=fun e=>by rw[e] at e2;cases e2
   have e3':¬fn.name= "runtime.NumGoroutine":=by simpa using e3
   simp[execOp,hop,resolve,hg,Deferred.ofValue,Act.eval,invoke,callFunc,e1,e2',e3']
 ·cases h1
def Lw{c:Call}{x:X}{ys:List X}(hop:o.op=.call c)(hm:bd P (.call c) (.dynM x ys rs)=true)(hk:rQ (OkT H P) σ.row d (σ.gx x) (ys.map σ.gx) rs K):Snd P n w0 S0 σ o K a w:=by
 simp only[bd,A2] at hm;obtain⟨h1,h2⟩:=hm;split at h1
 ·rename_i g hg;obtain⟨hr,hdx⟩:=h.gx h1;obtain⟨hl,hat⟩:=ey h2;unfold rQ at hk;split at hk
  ·rename_i f cs e;rw[e] at hr;obtain⟨us,hv,hus,hx⟩:=hr.fn_inv;have hls:c.args.size=ys.length:=by simpa using hl
   refine uk h hod hd (vs:=c.args.map a.eval++us) (by simp[hls,hus]) (fun j x hj=>?_) (fun fn e1 e2 e3=>?_) hk
   ·rw[F0] at hj;split at hj
    ·rename_i hlt;simp only[B4,A5] at hj;obtain⟨y,hy,rfl⟩:=hj;obtain⟨z,hz,hc⟩:=hat j y hy;have:(c.args.map a.eval++us).getD j undef=a.eval z:=by
      obtain⟨hlt,he⟩:=A0.1 hz;simp at hlt he;simp[C0,hlt,he]
     rw[this];exact h.gx hc
    ·rename_i hge;simp only[G6] at hj hge;have:=hx _ _ hj;have e2:(c.args.map a.eval++us).getD j undef=us.getD (j-ys.length) undef:=by
      simp[C0,hls,show¬j<ys.length by omega]
     rw[e2];exact⟨this,fun q hq=>hdx q (by rw[e];simp only[AV.ments];exact bF (by assumption) hq)⟩
   ·have e2':¬fn.body=none:=fun e=>by rw[e] at e2;cases e2
    have e3':¬fn.name= "runtime.NumGoroutine":=by simpa using e3
    simp[execOp,hop,resolve,hg,Deferred.ofValue,hv,invoke,callFunc,e1,e2',e3']
  ·exact hk.elim
 ·cases h1
end ops
end Vs

namespace Vs
open Go Go.RowKit
variable{P:Program}{n:Nat}{w0:World}{S0:Fx}{σ:St}{a:Act}{w w':World}{tag tag':Nat->Tag}{β β':Nat->Option Own}
variable{k:Nat}{es:List AV}{x':X}{i:Nat}{ys:List AV}{r:Nat}{c:Call}{t:Nat}{x:Operand}
def NH(h:i+ys.length<=es.length):(dg es i ys).length=es.length:=by
 unfold dg;rw[u7 h];simp;omega
def FP{j:Nat}(h:i+ys.length<=es.length):(dg es i ys)[j]?=if i<=j/\j<i+ys.length then ys[j-i]? else es[j]?:=by
 unfold dg;rw[u7 h];have hl:(es.take i).length=i:=by simp;omega
 grind
theorem je:dg es i []=es:=by simp_all [dg]
def RR.wrote'(h:RR n w0 S0 σ a w tag β){b o cap:Nat}{us:Nat->Value}(hr:σ.row r=some (.arr k es))(hb:β r=some (.blk b o k cap es.length))(hk:0<k)(hi:i+ys.length<=es.length)
 (hus:∀j y,ys[j]?=some y->(us j).cells.size=k/\(∀c∈(us j).cells,c.oneCell'=true)/\aX w (Imm tag) w0.heap.size (us j) y []):
 ∃w' tag' β',(storeCells ⟨b,o+i*k,none⟩ (cellsOf us ys.length)).run P w=.ok () w'/\RR n w0 S0 ⟨σ.env,bg [(r,.arr k (dg es i ys))] σ.rows⟩ a w' tag' β'/\β' r=β r:=by
 rcases h.arr hr with⟨e,_⟩|⟨b',o',cap',vs,fps,hb',⟨t1,t2,t3⟩,hlc,hva,hxx,hnd',huq⟩
 ·rw[hb] at e;cases e
 rw[hb] at hb';cases hb';have hs:∀j,j<ys.length->(us j).cells.size=k:=fun j hj=>(hus j ys[j] (by simp[hj])).1;have hone:∀v∈cellsOf us ys.length,v.oneCell'=true:=by
  intro v hv;obtain⟨j,hj,rfl⟩:=F4 hv;obtain⟨g1,g2⟩:=ky hs hk (A3 hj);exact(hus (j/k) ys[j/k] (by simp[g1])).2.1 _ (B3 g2)
 have hcl:=cH hs;have hle:(i+ys.length)*k<=cap*k:=A1 k (by omega);rw[A8] at hle;obtain⟨w',hrun,hcell,hoth,hfree,hbel⟩:=li (P:=P) (w:=w) (b:=b) (pos:=o+i*k) (l:=cellsOf us ys.length)
  (by obtain⟨c,ty,e1,e2⟩:=t3;exact⟨c,ty,e1,by omega⟩) hone
 have hne:∀b',Imm tag b'->b'≠b:=by
  rintro b' hb' rfl;rcases hb' with e|⟨q,e⟩<;>rw[t1] at e<;>cases e
 have himm:∀b',Imm tag b'->Imm tag b'/\w'.heap[b']?=w.heap[b']?:=fun b' hb'=>⟨hb',hoth b' (hne b' hb')⟩;obtain⟨n1,n2⟩:=bR hnd';have hlen:=NH (es:=es) (ys:=ys) (i:=i) hi;have hmove:=h.move (w':=w') (tag':=tag) (rs:=[]) (d:=r) (row:=.arr k (dg es i ys)) (own:=β r) (by simp) (.inr ⟨rfl,by rw[show aB r σ.rows=σ.row r from rfl,hr];trivial⟩) (hbel _ t2) himm
  (fun b' hb'=>A7 (h.lt b' hb') (hbel _ (B0 b)).size)
  (fun b' _ ht=>⟨rfl,hoth b' (by grind)⟩)
  (fun b' q' hq hqr hb'=>⟨hb',hoth b' (by grind)⟩)
  (fun b' q' hq _ hb'=>hb')
  (.inr ⟨b, o, cap, fun j => if i ≤ j ∧ j < i + ys.length then us (j - i) else vs j, fun j => if i ≤ j ∧ j < i + ys.length then [] else fps j, by simp [hb, hlen], ⟨t1, t2, hfree _ t3⟩, by rw [hlen]; exact hlc,
    fun j x hj=>by
     rw[FP hi] at hj;by_cases e:i<=j/\j<i+ys.length
     ·rw[u7 e] at hj;simp only[if_pos e];refine⟨(hus _ x hj).1,fun c u hu=>⟨?_,(hus _ x hj).2.1 u (B3 hu)⟩⟩;have hck:c<k:=by have:=(A9.1 hu).1;have:=(hus _ x hj).1;omega
      have e5:(j-i+1)*k<=ys.length*k:=A1 k (by omega);rw[A8,C9] at e5;have e6:j*k=i*k+(j-i)*k:=by rw[<-A8];congr 1;omega
      rw[hcell,u7 (by omega)];have e7:o+j*k+c-(o+i*k)=(j-i)*k+c:=by omega
      grind [hJ]
     ·rw[u6 e] at hj;simp only[if_neg e];refine⟨(hva j x hj).1,fun c u hu=>⟨?_,((hva j x hj).2 c u hu).2⟩⟩;have hck:c<k:=by have:=(A9.1 hu).1;have:=(hva j x hj).1;omega
      rw[hcell,u6]
      ·exact((hva j x hj).2 c u hu).1
      ·rw[hcl];rcases D3 j i with e1|e1
       ·have:(j+1)*k<=i*k:=A1 k (by omega)
        grind
       ·have:(i+ys.length)*k<=j*k:=A1 k (by omega)
        grind,
    fun j x hj=>by
     rw[FP hi] at hj;by_cases e:i<=j/\j<i+ys.length
     ·rw[u7 e] at hj;simp only[if_pos e];exact(hus _ x hj).2.2.mono himm
     ·rw[u6 e] at hj;simp only[if_neg e];exact(hxx j x hj).mono himm,
    by
     grind [dF,List.nodup_nil],
    by
     grind [be]⟩) (fun y hy=>by cases hy)
 exact⟨w',tag,_,hrun,hmove,by simp⟩
def RR.wrote(h:RR n w0 S0 σ a w tag β){b o cap:Nat}{us:Nat->Value}(hr:σ.row r=some (.arr k es))(hb:β r=some (.blk b o k cap es.length))(hk:0<k)(hi:i+ys.length<=es.length)
 (hus:∀j y,ys[j]?=some y->(us j).cells.size=k/\(∀c∈(us j).cells,c.oneCell'=true)/\aX w (Imm tag) w0.heap.size (us j) y []):
 ∃w' tag' β',(storeCells ⟨b,o+i*k,none⟩ (cellsOf us ys.length)).run P w=.ok () w'/\RR n w0 S0 ⟨σ.env,bg [(r,.arr k (dg es i ys))] σ.rows⟩ a w' tag' β':=by
 obtain⟨w',tag',β',h1,h2,_⟩:=h.wrote' (P:=P) hr hb hk hi hus
 grind
def RR.again(h:RR n w0 S0 σ a w tag β)(hr:σ.row r=some (.arr k es)):∃tag' β',RR n w0 S0 ⟨σ.env,bg [(r,.arr k es)] σ.rows⟩ a w tag' β':=by
 have hmove:=h.move (w':=w) (tag':=tag) (rs:=[]) (d:=r) (row:=.arr k es) (own:=β r) (by simp) (.inr ⟨rfl,by rw[show aB r σ.rows=σ.row r from rfl,hr];trivial⟩) (.refl _ _) (fun b hb=>⟨hb,rfl⟩) h.lt
  (fun b _ _=>⟨rfl,rfl⟩) (fun b q' _ _ hb=>⟨hb,rfl⟩) (fun b q' _ _ hb=>hb) (by
   have:=h.arr hr;rcases this with⟨e1,e2⟩|⟨b,o,cap,vs,fps,hb,h2⟩
   ·exact .inl ⟨by simp[e1],e2⟩
   ·exact .inr ⟨b,o,cap,vs,fps,by simp[hb],h2⟩) (fun y hy=>by cases hy)
 exact⟨_,_,hmove⟩
def we{o:Oper}(hod:o.dst=none\/∃d,o.dst=some d/\d<n){rows:List (Nat×Row)}{w:World}{v:Value}{x:AV}(hRR:RR n w0 S0 ⟨σ.env,rows⟩ a w tag' β')(hv:Rep w (Imm tag') w0.heap.size β' v x)(hx:∀r∈x.ments,(aB r rows).isSome):R n w0 S0 ((⟨σ.env,rows⟩:St).app o.dst x []) (a.put o.dst v) w:=by
 rcases hod with e|⟨d,e,hd⟩
 ·rw[e];exact⟨_,_,hRR⟩
 ·rw[e];exact⟨_,_,hRR.step hd hv hx⟩
section ops0
variable{o:Oper}{K:AV->List (Nat×Row)->Prop}(h:RR n w0 S0 σ a w tag β)(hod:o.dst=none\/∃d,o.dst=some d/\d<n)
include h hod
def DX{z:AV}(hop:o.op=.call c)(hm:bd P (.call c) (.clr k z x')=true)
 (hk:Hv K σ.row k z (σ.gx x')):Snd P n w0 S0 σ o K a w:=by
 simp only[bd,A2] at hm;obtain⟨⟨h1,h2⟩,h3⟩:=hm;have hcal:c.callee=.builtin .clear:=by
  split at h1
  ·assumption
  ·cases h1
 obtain⟨hl,hat⟩:=ey h2;obtain⟨x,hx0,hxm⟩:=hat 0 x' rfl;have hargs:c.args=#[x]:=by
  have:c.args.toList=[x]:=by
   match hh:c.args.toList,hl,hx0 with
   |[y],_,h=>simp at h;rw[h]
  exact C8.1 (by simpa using this)
 split at h3
 case h_2=>cases h3
 rename_i t ht;simp only[A2] at h3;obtain⟨e,inf,he,hinf,hsz,hpos⟩:=dw h3.1;have⟨zv,hzv,hzok⟩:∃zv,inf.zero=some zv/\jD zv z=true:=by
  grind [nU,km]
 obtain⟨hx,hxd⟩:=h.gx hxm;unfold Hv at hk;split at hk
 case h_2=>exact hk.elim
 rename_i r i m e1;rw[e1] at hx hxd;unfold xC at hk;split at hk
 case h_2=>exact hk.elim
 rename_i q es hr;obtain⟨rfl,hzw,hk⟩:=hk;obtain⟨z1,z2,z3,z4⟩:=ea hzok w (Imm tag) w0.heap.size;have zq:zv.cells.size=q:=by rw[z2];exact hzw
 have trivl:∀ad cp,a.eval x=.slice ad 0 cp->K (.tup []) [(r,.arr q es)]->Snd P n w0 S0 σ o K a w:=by
  intro ad cp hv hk;have hrun:(execOp a.eval o).run P w=.ok (.value (.tuple #[])) w:=by
   cases ad<;>simp_all [run_underlying,execOp,resolve,invoke,builtin,Builtin.clear_]
  refine .value hrun hk ?_;obtain⟨tag',β',hRR⟩:=h.again hr;exact we hod hRR (v:=.tuple #[]) (x:=.tup []) (.p _ _ (.tup #[] [] (fun _=>[]) rfl (by simp))) (by simp[AV.ments,aP])
 rcases h.sl_inv hr hx with⟨hv,rfl,rfl,rfl,_⟩|⟨b,o',cap,cp,hb,hv,hic,hmc,hlm⟩|⟨b,o',cap,p,hb,hv,rfl,hp⟩
 ·grind [je]
 ·by_cases hm0:m=0
  ·grind [je]
  ·obtain⟨w',tag',β',hrun2,hRR⟩:=h.wrote (P:=P) (i:=i) (ys:=D4 m z) (us:=fun _=>zv) hr hb hpos (by simpa using hlm) (fun j y hj=>by
    grind)
   have hzc:(Builtin.zeroCells zv.cells m).toList=cellsOf (fun _=>zv) m:=by
    apply List.ext_getElem?;intro j;by_cases hj:j<m*q
    ·have hjq:j/q<m:=E9 (by grind);have hmod:=Nat.mod_lt j hpos;have e9:j=j/q*q+j%q:=by have:=Nat.div_add_mod j q;rw[Nat.mul_comm] at this;omega
     grind [hJ,size_zeroCells,Array.getElem?_eq_getElem,cellsOf,Builtin.zeroCells]
    ·grind [List.getElem?_eq_none,size_zeroCells,cH]
   have hrun:(execOp a.eval o).run P w=.ok (.value (.tuple #[])) w':=by
    have hz0:(zeroValue e).run P w=.ok zv w:=by simp[zeroValue,typeInfo,hinf,hzv]
    have hmm:m≠0:=hm0;rw[B9,<-hzc] at hrun2;cases m with
    |zero=>exact(hmm rfl).elim
    |succ m=>simp[execOp,hop,resolve,hcal,hargs,hv,invoke,builtin,Builtin.clear_,ht,run_underlying he,hz0,hrun2]
   refine .value hrun hk ?_;exact we hod hRR (v:=.tuple #[]) (x:=.tup []) (.p _ _ (.tup #[] [] (fun _=>[]) rfl (by simp))) (by simp[AV.ments,aP])
 grind [je]
def DF{y':X}(hop:o.op=.call c)(hm:bd P (.call c) (.cpy k x' y')=true)
 (hk:Ia K σ.row k (σ.gx x') (σ.gx y')):Snd P n w0 S0 σ o K a w:=by
 simp only[bd,A2] at hm;obtain⟨⟨h1,h2⟩,h3⟩:=hm;have hcal:c.callee=.builtin .copy:=by
  split at h1
  ·assumption
  ·cases h1
 obtain⟨x1,x2,hargs,hm1,hm2⟩:=nI h2;split at h3
 case h_2=>cases h3
 rename_i t u htt;obtain⟨e,inf,he,hinf,hsz,hpos⟩:=dw h3;have hat:c.argTypes[0]?=some t:=by
  have:c.argTypes.toList[0]?=some t:=by rw[htt];rfl
  simpa using this
 obtain⟨hb,hbd⟩:=h.gx hm1;obtain⟨hs,hsd⟩:=h.gx hm2;unfold Ia at hk;split at hk
 case h_2=>exact hk.elim
 rename_i r i m e1;rw[e1] at hb hbd;obtain⟨ys,hy,hk2⟩:=eK hk;unfold zX at hk2;split at hk2
 case h_2=>exact hk2.elim
 rename_i q es hr;obtain⟨rfl,hk3⟩:=hk2;obtain⟨rs2,us,fps,hu,E,hsrc,_⟩:=h.src (mv:=false) (ys:=ys) (u:=[]) hs (by
  have:mh σ.row q false (σ.gx y')=kt (dX q σ.row (σ.gx y')):=rfl;rw[this,hy];rfl)
 have hrs:rs2=[]:=by
  cases rs2 with
  |nil=>rfl
  |cons q qs=>simp[bP] at hu
 subst hrs;have hfp:∀j,j<ys.length->fps j=[]:=by
  intro j hj;cases hf:fps j with
  |nil=>rfl
  | cons c cs =>
    obtain⟨q,hq,_⟩:=E.uq c (be.2 ⟨j,hj,by rw[hf];simp⟩);cases hq
 have hlf:(Builtin.lenOf (a.eval x2)).run P w=.ok ys.length w/\∀l,l<=ys.length->(Builtin.firstCells q l (a.eval x2)).run P w=.ok (cellsOf us l).toArray w:=by
  rcases hsrc with(⟨hv2,rfl⟩|⟨b2,p2,c2,hv2,hl2⟩)|⟨ad,c,hv2,rfl⟩
  ·simp_all [run_firstCells_none,Builtin.lenOf,cellsOf]
  ·refine⟨by simp[hv2,Builtin.lenOf],fun l hl=>?_⟩;obtain⟨n1,n2⟩:=jp (ys:=ys.take l) (us:=us) hpos (fun j x hj=>E.sz j x (by grind)) (fun j x hj=>hl2 j x (by grind))
   grind [run_firstCells_some]
  ·refine⟨by simp[hv2,Builtin.lenOf],fun l hl=>?_⟩;have:l=0:=by simpa using hl
   subst this;rw[hv2];exact run_firstCells_some w q 0 ad 0 c [] (by simp) (fun j v hv=>by simp at hv)
 have hrunOp:∀v w',(Builtin.copy_ c.argTypes o.type #[a.eval x1,a.eval x2]).run P w=.ok v w'->(execOp a.eval o).run P w=.ok (.value v) w':=by
  intro v w' hr;simp[execOp,hop,resolve,hcal,hargs,invoke,builtin,hr]
 have hso:(Go.sizeOf e).run P w=.ok q w:=by simp[Go.sizeOf,typeInfo,hinf,hsz]
 have trivl:∀ad cp,a.eval x1=.slice ad 0 cp->(∀aa,ad=some aa->(storeCells aa []).run P w=.ok () w)->K (.i ((0:Nat):Int)) [(r,.arr q es)]->Snd P n w0 S0 σ o K a w:=by
  intro ad cp hv hst hk;have hf0:=hlf.2 0 (by omega);have hrun:(Builtin.copy_ c.argTypes o.type #[a.eval x1,a.eval x2]).run P w=.ok (.int .i64 ((0:Nat):Int)) w:=by
   cases ad with
   |none=>simp_all [run_underlying,Builtin.copy_,goInt]
   | some aa =>
     have:=hst aa rfl;simp[Builtin.copy_,hat,run_underlying he,hv,hlf.1,hso,hf0,goInt,cellsOf,this]
  refine .value (hrunOp _ _ hrun) hk ?_;obtain⟨tag',β',hRR⟩:=h.again hr;exact we hod hRR (v:=.int .i64 ((0:Nat):Int)) (x:=.i ((0:Nat):Int)) (.int_mk _ _) (by simp[AV.ments])
 rcases h.sl_inv hr hb with⟨hv,rfl,rfl,rfl,_⟩|⟨b,o',cap,cp,hb',hv,hic,hmc,hlm⟩|⟨b,o',cap,p,hb',hv,rfl,hp⟩
 ·grind [je]
 ·have hml:min ys.length m<=ys.length:=Nat.min_le_left _ _;have hlen:(ys.take (min ys.length m)).length=min ys.length m:=by simp
  obtain⟨w',tag',β',hrun2,hRR⟩:=h.wrote (P:=P) (i:=i) (ys:=ys.take (min ys.length m)) (us:=us) hr hb' hpos (by rw[hlen];omega) (fun j y hj=>by
   have hj':ys[j]?=some y:=by
    rw[List.getElem?_take] at hj;split at hj
    ·exact hj
    ·cases hj
   have:=E.rep j y hj';rw[hfp j ((A0.1 hj').1)] at this;exact⟨E.sz j y hj',E.one j y hj',this⟩)
  rw[hlen] at hrun2;have hrun:(Builtin.copy_ c.argTypes o.type #[a.eval x1,a.eval x2]).run P w=.ok (.int .i64 ((min ys.length m:Nat):Int)) w':=by
   have hf:=hlf.2 _ hml;have e5:Nat.min ys.length m=min ys.length m:=rfl;simp[Builtin.copy_,hat,run_underlying he,hv,hlf.1,hso,goInt,e5,hf,hrun2]
  refine .value (hrunOp _ _ hrun) hk3 ?_;exact we hod hRR (v:=.int .i64 ((min ys.length m:Nat):Int)) (x:=.i ((min ys.length m:Nat):Int)) (.int_mk _ _) (by simp[AV.ments])
 simp_all [Sem.run_pure,je,storeCells]
end ops0
section ops
variable{o:Oper}{K:AV->List (Nat×Row)->Prop}{d:Nat}(h:RR n w0 S0 σ a w tag β)(hod:o.dst=some d)(hd:d<n)
include h hod hd
def TT{op:BinOp}{u:Nat}{y:Operand}{neg:Bool}(hop:o.op=.binOp op t x y u)(hm:bd P (.binOp op t x y u) (.isn neg x')=true)
 (hk:yn K σ.row neg (σ.gx x')):Snd P n w0 S0 σ o K a w:=by
 simp only[bd,A2,decide_eq_true_eq] at hm;obtain⟨⟨⟨h1,h2⟩,h3⟩,h4⟩:=hm;obtain⟨e,ht⟩:=vP h1;have hy:y=.const (.slice none 0 0):=by
  split at h4
  ·rfl
  ·cases h4
 subst hy;obtain⟨hx,hxd⟩:=h.gx h3;have hg:∀op a b c,eqGuard op t x (.const (.slice none 0 0)) (.slice a b c) (.slice none 0 0)=pure ():=by intro op a b c;cases op<;>simp[eqGuard]<;>rfl
 subst h2;have hrun:∀ad l c,a.eval x=.slice ad l c->(execOp a.eval o).run P w=.ok (.value (.bool (if neg then !ad.isNone else ad.isNone))) w:=by
  intro ad l c hv;have he:(Op.equal t (.slice ad l c) (.slice none 0 0)).run P w=.ok ad.isNone w:=by
   show(Op.equalIn (9999+1) t (.slice ad l c) (.slice none 0 0)).run P w=_;unfold Op.equalIn;simp only[Sem.run_bind,run_underlying ht,Result.andThen_ok];cases ad<;>rfl
  have hev:a.eval (.const (.slice none 0 0))=.slice none 0 0:=rfl;cases neg<;>simp_all [execOp,binOp]
 have fin:∀ad l c(em:Bool),a.eval x=.slice ad l c->(em=false->ad.isNone=false)->tq K neg em->Snd P n w0 S0 σ o K a w:=by
  intro ad l c em hv hem hk;unfold tq at hk;cases em with
  |true=>simp only[cond_true] at hk;exact .val h hod hd (hrun _ _ _ hv) hk (.p _ _ (.ub _)) (by simp[St.dom,AV.ments])
  | false =>
    simp only[cond_false] at hk;have e1:(if neg=true then !ad.isNone else ad.isNone)=neg:=by rw[hem rfl];cases neg<;>rfl
    have:=hrun _ _ _ hv;rw[e1] at this;exact .val h hod hd this hk (.bool_mk _) (cy _)
 unfold yn at hk;split at hk
 ·rename_i f k xs e';rw[e'] at hx;rcases hx.lst_inv.lst_inv with⟨_,_,hv,rfl,_⟩|⟨b,p,cap,vs,hv,_⟩
  ·simp_all
  grind
 ·rename_i f k xs e';rw[e'] at hx;generalize hy:AV.tg f k xs=y at hx;generalize hv:a.eval x=v at hx;cases hx with
  |p v x hp=>subst hy;cases hp
  | tg f k len ad xs hl hp =>
    cases hy;rcases hp.lst_inv with⟨_,_,hv',rfl,_⟩|⟨b,p,cap,vs,hv',_⟩
    ·simp_all
    grind
  |_=>cases hy
 ·rename_i r i m e';rw[e'] at hx;obtain⟨⟨k,es,hes⟩,hk⟩:=hk;rcases h.sl_inv hes hx with⟨hv,_,rfl,_⟩|⟨b,o',cap,c',hb,hv,hic,hmc,_⟩|⟨_,_,_,_,_,hv,rfl,_⟩
  ·simp_all
  ·grind
  simp_all
 ·exact hk.elim
def Ym{lo hi mx:Option Operand}{lo' hi':Option X}(hop:o.op=.slice t x lo hi mx)(hm:bd P (.slice t x lo hi mx) (.slx k x' lo' hi')=true)
 (hk:AG K σ.row k (σ.gx x') (lo'.map σ.gx) (hi'.map σ.gx)):Snd P n w0 S0 σ o K a w:=by
 simp[bd] at hm;obtain⟨⟨⟨⟨h1,h2⟩,h3⟩,h4⟩,h5⟩:=hm;subst h5;obtain⟨e,inf,he,hinf,hsz,hpos⟩:=dw h1;obtain⟨hx,hxd⟩:=h.gx h2;have hrun:∀ad len cap l hh m,a.eval x=.slice ad len cap->(Instr.sliceBounds true len cap (lo.map a.eval) (hi.map a.eval) none).run P w=.ok (l,hh,m) w->
  (execOp a.eval o).run P w=.ok (.value (.slice (if m=l then ad else ad.map (·.add (l*k))) (hh-l) (m-l))) w:=by
  intro ad len cap l hh m hv hb;simp[execOp,hop,Instr.sliceAt,Instr.slice,run_underlying he,hv,hb,Go.sizeOf,typeInfo,hinf,hsz]
 unfold AG at hk;split at hk
 case h_2=>exact hk.elim
 rename_i r i m e1;rw[e1] at hx hxd;unfold uU at hk;split at hk
 case h_2=>exact hk.elim
 rename_i q es hes;obtain⟨rfl,hb1,hb2,hle,hle2,hk⟩:=hk;have hl:(lo.map a.eval=none/\bV (lo'.map σ.gx) 0=0)\/∃k j,lo.map a.eval=some (.int k j)/\0<=j/\bV (lo'.map σ.gx) 0=j.toNat:=
  (h.bnd h3 hb1).imp (fun e=>⟨e.1,e.2 0⟩) (fun⟨k,j,e1,e2,e3⟩=>⟨k,j,e1,e2,e3 0⟩)
 have hh:(hi.map a.eval=none/\bV (hi'.map σ.gx) m=m)\/∃k j,hi.map a.eval=some (.int k j)/\0<=j/\bV (hi'.map σ.gx) m=j.toNat:=
  (h.bnd h4 hb2).imp (fun e=>⟨e.1,e.2 _⟩) (fun⟨k,j,e1,e2,e3⟩=>⟨k,j,e1,e2,e3 _⟩)
 generalize bV (lo'.map σ.gx) 0=l at*
 generalize bV (hi'.map σ.gx) m=u at*
 have hdm:σ.dom (.sl r (i+l) (u-l)):=by simpa[St.dom,AV.ments] using hxd
 rcases h.sl_inv hes hx with⟨hv,rfl,rfl,rfl,hb⟩|⟨b,p,cap,c,hb,hv,hic,hmc,hlm⟩|⟨b,p,cap,q',hb,hv,rfl,hq,hic⟩
 ·simp only[D0] at hle2;have hu0:u=0:=by omega
  subst hu0;have hl0:l=0:=by omega
  subst hl0;have:=hrun none 0 0 0 0 0 hv (ed (P:=P) (w:=w) (isSlice:=true) hl hh hle (B0 0));simp at this;exact .val h hod hd this hk (.slN r hb) hdm
 ·have hlc:es.length<=cap:=by
   rcases h.arr hes with⟨e,_⟩|⟨b',o',cap',vs,fps,hb',_,hlc,_⟩
   ·rw[hb] at e;cases e
   ·simp_all
  have:=hrun _ _ _ l u c hv (ed (P:=P) (w:=w) (isSlice:=true) hl hh hle (by omega));by_cases hcl:c=l
  ·have hul:u-l=0:=by omega
   have hcc:c-l=0:=by omega
   rw[u7 hcl,hul,hcc] at this;rw[hul] at hk hdm;refine .val h hod hd this hk (.slE r (i+l) b p q cap _ (p+i*q) hb ?_) hdm;have:=A1 q (show i<=cap by omega);omega
  ·rw[u6 hcl] at this;simp only[Option.map_some,Addr.add_lit] at this;have e:p+i*q+l*q=p+(i+l)*q:=by rw[A8];omega
   rw[e] at this;exact .val h hod hd this hk (.slB r (i+l) (u-l) b p q cap _ (c-l) hb (by omega) (by omega) (by omega)) hdm
 ·have hlc:es.length<=cap:=by
   rcases h.arr hes with⟨e,_⟩|⟨b',o',cap',vs,fps,hb',_,hlc,_⟩
   ·rw[hb] at e;cases e
   ·simp_all
  have hu0:u=0:=by omega
  subst hu0;have hl0:l=0:=by omega
  subst hl0;have:=hrun _ _ _ 0 0 0 hv (ed (P:=P) (w:=w) (isSlice:=true) hl hh hle (B0 0));simp at this;exact .val h hod hd this hk (.slE r i b p q cap _ q' hb ⟨hq,hic⟩) (by simpa using hdm)
def Tq{lo hi mx:Option Operand}{lo' hi' mx':X}(hop:o.op=.slice t x lo hi mx)(hm:bd P (.slice t x lo hi mx) (.slm k x' lo' hi' mx')=true)
 (hk:HM K σ.row k (σ.gx x') (σ.gx lo') (σ.gx hi') (σ.gx mx')):Snd P n w0 S0 σ o K a w:=by
 simp[bd] at hm;obtain⟨⟨⟨⟨h1,h2⟩,h3⟩,h4⟩,h5⟩:=hm;obtain⟨e,inf,he,hinf,hsz,hpos⟩:=dw h1;obtain⟨hx,hxd⟩:=h.gx h2;unfold HM at hk;split at hk
 case h_2=>exact hk.elim
 rename_i r i m e1;rw[e1] at hx hxd;unfold zg at hk;split at hk
 case h_2=>exact hk.elim
 rename_i q es kl l kh hh kq u hes el eh eq;obtain⟨rfl,b1,b2,b3,b4,hk⟩:=hk;have get:∀{y:Option Operand}{y':X}{kk:IntKind}{j:Int},eM y (some y')=true->σ.gx y'=.sc (.int kk j)->y.map a.eval=some (.int kk j):=by
  intro y y' kk j hy hj;cases y with
  |none=>simp[eM] at hy
  | some z =>
    simp only[eM] at hy;have:=(h.gx hy).1;rw[hj] at this;simp[this.int_inv]
 have g1:=get h3 el;have g2:=get h4 eh;have g3:=get h5 eq;have hlen:∃ad c,a.eval x=.slice ad m c/\m<=c:=by
  rcases h.sl_inv hes hx with⟨hv,rfl,rfl,rfl,hb⟩|⟨b,p,cap,c,hb,hv,hic,hmc,hlm⟩|⟨b,p,cap,q',hb,hv,rfl,hq,hic⟩
  ·simp_all
  ·grind
  ·simp_all
 obtain⟨ad,c,hv,hmc⟩:=hlen;have hb:=oK (P:=P) (w:=w) (len:=m) (cap:=c) (l:=l.toNat) (hh:=hh.toNat) (m:=u.toNat) (lo:=some (.int kl l)) (hi:=some (.int kh hh)) (k'':=kq) (j'':=u) (.inr ⟨kl,l,rfl,b1,rfl⟩) ⟨kh,hh,rfl,by omega,rfl⟩ ⟨by omega,rfl⟩ (by omega) (by omega) (by omega);have hrun:(execOp a.eval o).run P w=.ok (.value (.slice (if u.toNat=l.toNat then ad else ad.map (·.add (l.toNat*q))) (hh.toNat-l.toNat) (u.toNat-l.toNat))) w:=by
  simp[execOp,hop,Instr.sliceAt,Instr.slice,run_underlying he,hv,g1,g2,g3,hb,Go.sizeOf,typeInfo,hinf,hsz]
 exact .val h hod hd hrun hk (.p _ _ (.top _)) (by simp[St.dom,AV.ments])
def VL{y':X}(hop:o.op=.call c)(hm:bd P (.call c) (.apq k x' y')=true)
 (hk:Ki K σ.row k (σ.gx x') (σ.gx y')):Snd P n w0 S0 σ o K a w:=by
 simp only[bd,A2] at hm;obtain⟨⟨h1,h2⟩,h3⟩:=hm;have hcal:c.callee=.builtin .append:=by
  split at h1
  ·assumption
  ·cases h1
 obtain⟨x1,x2,hargs,hm1,hm2⟩:=nI h2;split at h3
 case h_2=>cases h3
 rename_i t u htt;simp only[A2,beq_iff_eq] at h3;obtain⟨rfl,h4⟩:=h3;have hat:c.argTypes=#[t,t]:=by
  have:c.argTypes.toList=#[t,t].toList:=by simpa using htt
  exact C8.1 this
 obtain⟨e,inf,he,hinf,hsz,hpos⟩:=dw h4;have hrunOp:∀v w',(Builtin.append_ #[t,t] o.type #[a.eval x1,a.eval x2]).run P w=.ok v w'->(execOp a.eval o).run P w=.ok (.value v) w':=by
  intro v w' hr;simp[execOp,hop,resolve,hcal,hargs,invoke,builtin,hat,hr]
 obtain⟨hb,hbd⟩:=h.gx hm1;obtain⟨hs,hsd⟩:=h.gx hm2;unfold Ki at hk;split at hk
 case h_2=>exact hk.elim
 rename_i r i m e1;rw[e1] at hb hbd;obtain⟨ys,hy,hk2⟩:=eK hk;unfold Pv at hk2;split at hk2
 case h_2=>exact hk2.elim
 rename_i q es hr;obtain⟨rfl,hfit,hk3⟩:=hk2;obtain⟨rs2,us,fps,hu,E,hsrc,_⟩:=h.src (mv:=false) (ys:=ys) (u:=[]) hs (by
  have:mh σ.row q false (σ.gx y')=kt (dX q σ.row (σ.gx y')):=rfl;rw[this,hy];rfl)
 have hrs:rs2=[]:=by
  cases rs2 with
  |nil=>rfl
  |cons q qs=>simp[bP] at hu
 subst hrs;have hfp:∀j,j<ys.length->fps j=[]:=by
  intro j hj;cases hf:fps j with
  |nil=>rfl
  | cons c cs =>
    obtain⟨q,hq,_⟩:=E.uq c (be.2 ⟨j,hj,by rw[hf];simp⟩);cases hq
 have hlf:(Builtin.lenOf (a.eval x2)).run P w=.ok ys.length w/\(Builtin.firstCells q ys.length (a.eval x2)).run P w=.ok (cellsOf us ys.length).toArray w:=by
  rcases hsrc with(⟨hv2,rfl⟩|⟨b2,p2,c2,hv2,hl2⟩)|⟨ad,c,hv2,rfl⟩
  ·simp_all [run_firstCells_none,Builtin.lenOf,cellsOf]
  ·obtain⟨n1,n2⟩:=jp hpos E.sz hl2;rw[hv2];exact⟨by simp[Builtin.lenOf],run_firstCells_some w q ys.length ⟨b2,p2,none⟩ ys.length c2 (cellsOf us ys.length) n1 (fun j v hv=>(n2 j v hv).1)⟩
  ·rw[hv2];exact⟨by simp[Builtin.lenOf],run_firstCells_some w q 0 ad 0 c [] (by simp) (fun j v hv=>by simp at hv)⟩
 have empty:ys=[]->∀ad cp,a.eval x1=.slice ad 0 cp->(∀aa,ad=some aa->(storeCells (aa.add (0*q)) []).run P w=.ok () w)->i<=i->m=0->Rep w (Imm tag) w0.heap.size β (.slice ad 0 cp) (.sl r i 0)->Snd P n w0 S0 σ o K a w:=by
  intro hy0 ad cp hv hst _ hm0 hrep;subst hy0;subst hm0;have hl1:=hlf.1;have hl2:=hlf.2;simp only[D0] at hl1 hl2;have hrun:(Builtin.append_ #[t,t] o.type #[a.eval x1,a.eval x2]).run P w=.ok (.slice ad 0 cp) w:=by
   cases ad with
   |none=>simp[Builtin.append_,run_underlying he,hv,Go.sizeOf,typeInfo,hinf,hsz,hl1,hl2,cellsOf]
   | some aa =>
     have h5:=hst aa rfl;simp only[F6] at h5;simp[Builtin.append_,run_underlying he,hv,Go.sizeOf,typeInfo,hinf,hsz,hl1,hl2,cellsOf,h5]
  simp only[D0,C7,je] at hk3;refine .value (hrunOp _ _ hrun) hk3 ?_;rw[hod];have hmove:=h.move (w':=w) (tag':=tag) (rs:=[]) (d:=r) (row:=.arr q es) (own:=β r) (by simp) (.inr ⟨rfl,by rw[show aB r σ.rows=σ.row r from rfl,hr];trivial⟩) (.refl _ _) (fun b hb=>⟨hb,rfl⟩) h.lt
   (fun b _ _=>⟨rfl,rfl⟩) (fun b q' _ _ hb=>⟨hb,rfl⟩) (fun b q' _ _ hb=>hb) (by
    rcases h.arr hr with⟨e1,e2⟩|⟨b,o,cap,vs,fps,hb,h2⟩
    ·exact .inl ⟨by simp[e1],e2⟩
    ·exact .inr ⟨b,o,cap,vs,fps,by simp[hb],h2⟩) (fun y hy=>by cases hy)
  refine⟨_,_,hmove.step hd (v:=.slice ad 0 cp) (x:=.sl r i 0) (hrep.mono (fun b hb=>⟨hb,rfl⟩) fun r' hr'=>.inl ?_) ?_⟩
  ·simp_all
  ·intro r' hr'
   simp_all [aQ,AV.ments,bg]
 rcases h.sl_inv hr hb with⟨hv,rfl,rfl,rfl,hβ⟩|⟨b,o',cap,cp,hb',hv,hic,hmc,hlm⟩|⟨b,o',cap,p,hb',hv,rfl,hp,hic⟩
 ·simp_all
 ·have hlc:es.length<=cap:=by
   rcases h.arr hr with⟨e,_⟩|⟨b',o',cap',vs,fps,hb2,_,hlc,_⟩
   ·rw[hb'] at e;cases e
   ·simp_all
  obtain⟨w',tag',β',hrun2,hRR⟩:=h.wrote' (P:=P) (i:=i+m) (ys:=ys) (us:=us) hr hb' hpos hfit (fun j y hj=>by
   have:=E.rep j y hj;rw[hfp j ((A0.1 hj).1)] at this;exact⟨E.sz j y hj,E.one j y hj,this⟩)
  obtain⟨hRR,hβ'⟩:=hRR;have hroom:m+ys.length<=cp:=by omega
  have hst:(storeCells ⟨b,o'+i*q+m*q,none⟩ (cellsOf us ys.length)).run P w=.ok () w':=by
   have e:o'+i*q+m*q=o'+(i+m)*q:=by rw[A8];omega
   rw[e];exact hrun2
  refine .value (hrunOp _ _ (by rw[hv];exact yW he hinf hsz hlf.1 hlf.2 hroom hst)) hk3 ?_;rw[hod];refine⟨_,_,hRR.step hd (x:=.sl r i (m+ys.length)) (.slB r i (m+ys.length) b o' q cap es.length cp (by rw[hβ'];exact hb') hic hroom (by omega)) ?_⟩;intro r' hr'
  simp_all [aQ,AV.ments,bg]
 ·have hlc:es.length<=cap:=by
   rcases h.arr hr with⟨e,_⟩|⟨b',o',cap',vs,fps,hb2,_,hlc,_⟩
   ·rw[hb'] at e;cases e
   ·simp_all
  exact empty (List.eq_nil_of_length_eq_zero (by omega)) _ _ hv (fun aa h=>by cases h;simp[storeCells,Sem.run_pure]) (B0 _) rfl (.slE r i b o' q cap _ p hb' ⟨hp,hic⟩)
end ops
end Vs

namespace Vs
open Go Go.RowKit
variable{P:Program}{n:Nat}{w0:World}{S0:Fx}{σ:St}{a:Act}{w w':World}{tag tag':Nat->Tag}{β β':Nat->Option Own}{H:World->Prop}[HS S0 H]
def cM{α:Type}{o:Option α}{K:α->Prop}(h:opt o K):∃x,o=some x/\K x:=by
 cases o with
 |none=>exact h.elim
 |some x=>exact⟨x,rfl,h⟩
def kS{o:Oper}{K:AV->List (Nat×Row)->Prop}(h:RR n w0 S0 σ a w tag β)(hod:o.dst=none){t k:Nat}{x v:Operand}{x' v':X}(hop:o.op=.store t x v)
 (hm:bd P (.store t x v) (.store k x' v')=true) (hk:dQ K σ.row k (σ.gx x') (σ.gx v')):Snd P n w0 S0 σ o K a w:=by
 unfold dQ at hk;split at hk
 ·rename_i r i off e;obtain⟨hw,hk⟩:=hk;unfold ej at hk;split at hk
  ·rename_i y hy;obtain⟨rfl,hk⟩:=hk;obtain⟨z,hz,hk⟩:=cM hk;exact tQ h hod hop hm hw e hy hz hk
  ·rename_i q es hes;obtain⟨y,hy,hk⟩:=cM hk;obtain⟨h1,h2,h3,hk⟩:=hk;obtain⟨z,hz,hk⟩:=cM hk;exact tt h hod hop hm hw e hes hy h1 h2 h3 hz hk
  ·exact hk.elim
 ·exact hk.elim
def GH{o:Oper}{ao:bl}{ops:Array Oper}{K:AV->List (Nat×Row)->Prop}(h:RR n w0 S0 σ a w tag β)(hm:fu P n ops o ao=true)
 (hk:eff (OkT H P) σ.gx σ.row (ao.d.getD 0) ao.op K):Snd P n w0 S0 σ o K a w:=by
 unfold fu at hm;simp only[A2,decide_eq_true_eq] at hm;obtain⟨⟨⟨h1,h2⟩,h3⟩,_⟩:=hm;by_cases hb:ao.op=.bad
 ·rw[hb] at hk;exact hk.elim
 cases hd:ao.d with
 | none =>
   rw[hd] at h1 h3 hk;obtain⟨d,op,gd⟩:=ao;dsimp only at hd h2 h3 hk hb;have h3:iC op=true\/Ma op=true:=by
    simp only[Bool.or_eq_true] at h3;rcases h3 with h3|h3
    ·exact h3
    ·cases op<;>simp_all [ZM]
   rcases h3 with h3|h3
   case inr=>
    have hm:=h2;unfold Ma at h3;split at h3
    ·cases hop:o.op with
     |call c=>rw[hop] at hm;exact DX h (.inl h1) hop hm hk
     |_=>rw[hop] at hm;simp[bd] at hm
    ·cases hop:o.op with
     |call c=>rw[hop] at hm;exact DF h (.inl h1) hop hm hk
     |_=>rw[hop] at hm;simp[bd] at hm
    ·cases h3
   unfold iC at h3;split at h3
   ·rename_i k x' v';cases hop:o.op with
    | store t x v =>
      rw[hop] at h2;exact kS h h1 hop h2 hk
    |_=>rw[hop] at h2;simp[bd] at h2
   ·rename_i k x' v';cases hop:o.op with
    | store t x v =>
      rw[hop] at h2;exact kS h h1 hop (by simpa only[bd] using h2) hk.2.2
    |_=>rw[hop] at h2;simp[bd] at h2
   ·rename_i k x' v';cases hop:o.op with
    | store t x v =>
      rw[hop] at h2;exact kS h h1 hop (by simpa only[bd] using h2) hk.2
    |_=>rw[hop] at h2;simp[bd] at h2
   ·rename_i r k x' v';cases hop:o.op with
    | store t x v =>
      rw[hop] at h2;exact kS h h1 hop (by simpa only[bd] using h2) hk.2
    |_=>rw[hop] at h2;simp[bd] at h2
   ·cases h3
 | some d =>
   rw[hd] at h1 h3 hk;simp only[A2,decide_eq_true_eq,G2] at h3 hk;obtain⟨hlt,hns⟩:=h3;have hm:=h2;unfold bd at h2;split at h2<;>first|(exact absurd h2 Bool.false_ne_true)|(rename_i e2;exact absurd e2 hb)|(rename_i e1 e2;rw[e1,e2] at hm;rw[e2] at hk;simp only[eff] at hk)
   ·exact LP h h1 hlt (.inl e1) (by simpa[bd] using hm) hk
   ·exact LP h h1 hlt (.inr e1) (by simpa[bd] using hm) hk
   ·exact Oa h h1 hlt e1 hm hk
   ·exact JK h h1 hlt e1 hm hk.1 hk.2
   ·exact Ws h h1 hlt e1 hm hk.1 hk.2.1 hk.2.2
   ·exact Jz h h1 hlt e1 hm hk.1 hk.2
   ·exact ED h h1 hlt e1 hm hk.2.1 hk.2.2.1 hk.2.2.2.1 hk.2.2.2.2
   ·exact ED (fr:=false) h h1 hlt e1 (by simpa only[bd] using hm) hk.2.1 hk.2.2.1 hk.2.2.2.1 hk.2.2.2.2
   ·exact mX h h1 hlt e1 hm hk
   ·rw[e2] at hns;simp[iC] at hns
   ·exact mX h h1 hlt e1 (by simpa only[bd] using hm) hk.2
   ·exact mX h h1 hlt e1 (by simpa only[bd] using hm) hk.2
   ·rw[e2] at hns;simp[iC] at hns
   ·exact mX h h1 hlt e1 (by simpa only[bd] using hm) hk.2
   ·rw[e2] at hns;simp[iC] at hns
   ·rw[e2] at hns;simp[iC] at hns
   ·have h4:=hm;simp[bd] at h4;obtain⟨⟨rfl,_⟩,_⟩:=h4;exact XX h h1 hlt e1 hm hk
   ·exact VW h h1 hlt e1 hm hk
   ·exact Va h h1 hlt e1 hm hk
   ·exact afa h h1 hlt e1 hm hk
   ·exact Pp h h1 hlt e1 hm hk
   ·exact WX h h1 hlt e1 hm hk
   ·exact XO h h1 hlt e1 hm hk
   ·exact UR h h1 hlt e1 hm hk
   ·exact EY h h1 hlt e1 hm hk
   ·exact EY h h1 hlt e1 (by simpa only[bd] using hm) hk.2
   ·exact EW h h1 hlt e1 hm hk
   ·exact EW h h1 hlt e1 (by simpa only[bd] using hm) hk.2
   ·exact PN h h1 hlt e1 hm hk
   ·exact XE h h1 hlt e1 hm hk
   ·exact KL h h1 hlt e1 hm hk
   ·exact QP h h1 hlt e1 hm hk
   ·exact TD h h1 hlt e1 hm hk
   ·exact BU h h1 hlt e1 hm hk
   ·exact Lw h h1 hlt e1 hm hk
   ·exact EE h h1 hlt e1 hm hk
   ·exact EE h h1 hlt e1 (by simpa only[bd] using hm) hk.2
   ·exact Pj h h1 hlt e1 hm hk
   ·exact Pm h h1 hlt e1 hm hk
   ·exact WI h h1 hlt e1 hm hk
   ·exact Wk h h1 hlt e1 hm hk
   ·exact TT h h1 hlt e1 hm hk
   ·exact Tq h h1 hlt e1 hm hk
   ·exact Ya h h1 hlt e1 hm hk
   ·exact Ym h h1 hlt e1 hm hk
   ·exact VL h h1 hlt e1 hm hk
   ·exact DX h (.inr ⟨_,h1,hlt⟩) e1 hm hk
   ·exact DF h (.inr ⟨_,h1,hlt⟩) e1 hm hk
end Vs

