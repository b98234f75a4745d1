/-
  Part of the proof that FnProtection returns true at every input.
-/
import Derived.Test.YtfmhphgpijjejaaGreatWa
import Derived.Laws.AppendOwn
import Derived.Laws.MakeOwn
import Derived.WalkKit
import Derived.Laws.BytesString
import Derived.Laws.Slices
set_option linter.defProp false
set_option linter.unusedSimpArgs false
set_option linter.unusedVariables false
open List renaming getElem?_eq_some_iff -> A0, getElem_of_mem -> A3, length_cons -> A5, getElem?_eq_getElem -> A8, eq_nil_iff_forall_not_mem -> B2, getElem?_drop -> B6, getElem?_append_right -> B7, getElem?_append_left -> B8, getElem?_map -> B9, flatMap_eq_nil_iff -> C1, mem_of_mem_drop -> C4, mem_of_mem_take -> C5, nodup_nil -> C6, map_cons -> C8, getElem?_take -> D0, append_assoc -> D4, foldl_cons -> D6, range_succ -> D7, replicate -> D8, mem_cons -> D9
open Array renaming getElem?_eq_getElem -> A1, getElem?_eq_some_iff -> A7, mem_of_getElem? -> B1, getD -> B5, toList_inj -> C2, mem_iff_getElem -> C3, foldl_toList -> D3, getElem_mem -> D5, range -> E8
open Bool renaming and_eq_true -> A2
open Nat renaming le_refl -> A6, add_mul -> A9, mul_le_mul_right -> B3, add_assoc -> C7, lt_of_lt_of_le -> C9, zero_le -> E0
open Option renaming map_eq_some_iff -> B0, map_some -> B4, isSome_iff_exists -> C0
namespace Vs
open Go Go.RowKit
structure Below(B:Nat)(w w':World):Prop where
 bel:Go.RowKit.Below B w w'
 frz:∀a:Addr,a.block<w.heap.size->w'.frozen? a=w.frozen? a
 drawn:w.drawn<=w'.drawn
def Below.size{B:Nat}{w w':World}(h:Below B w w'):w.heap.size<=w'.heap.size:=h.bel.size
def Below.block{B:Nat}{w w':World}(h:Below B w w'):∀k,k<B->w'.heap[k]?=w.heap[k]?:=h.bel.block
def Below.refl(B:Nat)(w:World):Below B w w:=⟨.refl B w,fun _ _=>rfl,A6 _⟩
def Below.trans{B:Nat}{a b c:World}(h:Below B a b)(k:Below B b c):Below B a c:=⟨h.bel.trans k.bel,fun x hx=>(k.frz x (C9 hx h.size)).trans (h.frz x hx),Nat.le_trans h.drawn k.drawn⟩
def Below.mono{B B':Nat}{w w':World}(h:Below B w w')(hB:B'<=B):Below B' w w':=⟨h.bel.mono hB,h.frz,h.drawn⟩
def Below.drew{B:Nat}{a w:World}(h:Below B a w):Below B a w.drew:=⟨h.bel.drew,h.frz,Nat.le_succ_of_le h.drawn⟩
def Below.heap_alloc(w:World)(o:Obj)(k:Nat)(h:k<w.heap.size):(w.alloc o).heap[k]?=w.heap[k]?:=Go.RowKit.Below.heap_alloc w o k h
def Below.alloc{B:Nat}{a w:World}(h:Below B a w)(hB:B<=w.heap.size)(c:Array Value){ty:TypeId}:Below B a (w.alloc (.cells c ty)):=
 ⟨h.bel.alloc hB _,fun x hx=>by
  rw[<-h.frz x hx];exact World.frozen?_alloc_old w _ x (by have:=h.size;omega),h.drawn⟩
def dz(w:World)(b pos:Nat)(v:Value):Prop:=∀i x,v.cells[i]?=some x->w.cell? ⟨b,pos+i,none⟩=some x/\x.oneCell'=true
def Fl.ok(S:Nat->Prop)(B:Nat)(f:Fl)(b:Nat):Prop:=match f with
 | .o=>S b/\b<B
 | .s=>S b
 | .m=>S b/\B<=b
 | .u=>S b/\B<=b
def Free(w:World)(b top:Nat):Prop:=∃c ty,w.heap[b]?=some (.cells c ty (0,0))/\top<=c.size
def cz(n:Nat)(fps:Nat->List Nat):List Nat:=(List.range n).flatMap fps
inductive aX(w:World)(S:Nat->Prop)(B:Nat):Value->AV->List Nat->Prop
 |top (v:Value):aX w S B v .top []
 |sc (v:Value) (h:v.oneCell'=true):aX w S B v (.sc v) []
 |nil (f:Fl) (n:Nat) (ad:Option Addr) (cap:Nat) (h:(ad=none->cap=0)/\(f=.u->ad=none)):aX w S B (.slice ad 0 cap) (.lst f n []) []
 |lst (f:Fl) (n b o len cap:Nat) (xs:List AV) (vs:Nat->Value) (fps:Nat->List Nat)
  (hl:xs.length=len) (hc:len<=cap) (hf:f.ok S B b) (hu:f=.u->Free w b (o+cap*n))
  (hv:∀j x,xs[j]?=some x->(vs j).cells.size=n/\dz w b (o+j*n) (vs j))
  (hx:∀j x,xs[j]?=some x->aX w S B (vs j) x (fps j)):
  aX w S B (.slice (some ⟨b,o,none⟩) len cap) (.lst f n xs) ((if f=.u then [b] else [])++cz len fps)
 |agg (vs:Array Value) (cs:List AV) (fps:Nat->List Nat) (hs:vs.size=cs.length) (h1:∀x∈vs,x.oneCell'=true)
  (hx:∀j x,cs[j]?=some x->aX w S B (vs.getD j undef) x (fps j)):aX w S B (.agg vs) (.agg cs) (cz cs.length fps)
 |tup (vs:Array Value) (cs:List AV) (fps:Nat->List Nat) (hs:vs.size=cs.length)
  (hx:∀j x,cs[j]?=some x->aX w S B (vs.getD j undef) x (fps j)):aX w S B (.tuple vs) (.tup cs) (cz cs.length fps)
 |fn (f:Nat) (vs:Array Value) (cs:List AV) (fps:Nat->List Nat) (hs:vs.size=cs.length)
  (hx:∀j x,cs[j]?=some x->aX w S B (vs.getD j undef) x (fps j)):aX w S B (.func (.func f) #[] vs) (.fn f cs) (cz cs.length fps)
 |ub (b:Bool):aX w S B (.bool b) .ub []
 |bp (f:Fl) (b o off:Nat) (v:Value) (x:AV) (hb:f.ok S B b) (hv:dz w b o v) (hx:aX w S B v x []):aX w S B (.pointer (some ⟨b,o+off,none⟩)) (.bp f x off) []
def OkR(H:World->Prop)(P:Program)(f:Nat)(args:List AV)(res:AV):Prop:=
 (∃fn,P.funcs[f]?=some fn/\fn.body.isNone=false/\(fn.name== "runtime.NumGoroutine")=false)/\
 ∀ (w : World) (S : Nat → Prop) (vs : Array Value), (∀ b, S b → b < w.heap.size) → vs.size = args.length →
   (∀(j:Nat)(x:AV),args[j]?=some x->aX w S w.heap.size (vs.getD j undef) x [])->(∀W:World,(∀b,S b->W.heap[b]?=w.heap[b]?)->H W)->
   Calls P f vs w fun e w'=>∃v fp S',e=.returned v/\Below w.heap.size w w'/\fp.Nodup/\
    (∀b,S' b->b<w'.heap.size/\(b<w.heap.size->S b))/\aX w' S' w.heap.size v res fp
def Ok(P:Program)(f:Nat)(args:List AV)(res:AV):Prop:=OkR (fun _=>True) P f args res
inductive Own where
 |nil
 |blk (b o sz cap len:Nat)
inductive Tag where
 |out
 |imm
 |uq (r:Nat)
 |own (r:Nat)
def Imm(tag:Nat->Tag)(b:Nat):Prop:=tag b=.imm\/∃r,tag b=.uq r
inductive Rep(w:World)(S:Nat->Prop)(B:Nat)(β:Nat->Option Own):Value->AV->Prop
 |p (v:Value) (x:AV) (h:aX w S B v x []):Rep w S B β v x
 |slB (r i n b o sz cap len c:Nat) (h:β r=some (.blk b o sz cap len)) (hc:i+c=cap) (hn:n<=c) (hl:i+n<=len):Rep w S B β (.slice (some ⟨b,o+i*sz,none⟩) n c) (.sl r i n)
 |slE (r i b o sz cap len p:Nat) (h:β r=some (.blk b o sz cap len)) (hp:p<=o+cap*sz/\i=cap):Rep w S B β (.slice (some ⟨b,p,none⟩) 0 0) (.sl r i 0)
 |slN (r:Nat) (h:β r=some .nil):Rep w S B β (.slice none 0 0) (.sl r 0 0)
 |slD (r i n:Nat) (v:Value) (h:β r=none) (h1:v.oneCell'=true):Rep w S B β v (.sl r i n)
 |ptB (r i off b o sz cap len:Nat) (h:β r=some (.blk b o sz cap len)):Rep w S B β (.pointer (some ⟨b,o+i*sz+off,none⟩)) (.pt r i off)
 |ptD (r i off:Nat) (v:Value) (h:β r=none) (h1:v.oneCell'=true):Rep w S B β v (.pt r i off)
 |tg (f:Fl) (n len:Nat) (a:Option Addr) (xs:List AV) (hl:len=xs.length) (h:aX w S B (.slice a len len) (.lst f n xs) []):Rep w S B β (.slice a len len) (.tg f n xs)
 |agg (vs:Array Value) (cs:List AV) (hs:vs.size=cs.length) (h1:∀x∈vs,x.oneCell'=true)
  (hx:∀j x,cs[j]?=some x->Rep w S B β (vs.getD j undef) x):Rep w S B β (.agg vs) (.agg cs)
 |tup (vs:Array Value) (cs:List AV) (hs:vs.size=cs.length)
  (hx:∀j x,cs[j]?=some x->Rep w S B β (vs.getD j undef) x):Rep w S B β (.tuple vs) (.tup cs)
 |fn (f:Nat) (vs:Array Value) (cs:List AV) (hs:vs.size=cs.length)
  (hx:∀j x,cs[j]?=some x->Rep w S B β (vs.getD j undef) x):Rep w S B β (.func (.func f) #[] vs) (.fn f cs)
def Xp(w:World)(tag:Nat->Tag)(B r b top:Nat):Prop:=tag b=.own r/\B<=b/\Free w b top
def cJ(w:World)(tag:Nat->Tag)(B:Nat)(β:Nat->Option Own)(r:Nat):Option Row->Prop
 |none=>β r=none
 |some .dead=>β r=none
 |some (.var x)=>∃(b o:Nat)(v:Value),β r=some (.blk b o v.cells.size 1 1)/\Xp w tag B r b (o+v.cells.size)/\dz w b o v/\Rep w (Imm tag) B β v x/\v.cells.size=x.width
 |some (.arr n es)=>(β r=some .nil/\es=[])\/∃(b o cap:Nat)(vs:Nat->Value)(fps:Nat->List Nat),β r=some (.blk b o n cap es.length)/\Xp w tag B r b (o+cap*n)/\es.length<=cap/\
  (∀j x,es[j]?=some x->(vs j).cells.size=n/\dz w b (o+j*n) (vs j))/\(∀j x,es[j]?=some x->aX w (Imm tag) B (vs j) x (fps j))/\
  (cz es.length fps).Nodup/\∀c∈cz es.length fps,tag c=.uq r
structure Fx where
 s:Nat->Prop
 w:World
 t:Nat->Tag
 own:Nat->Option Own
structure RR(n:Nat)(w0:World)(S0:Fx)(σ:St)(a:Act)(w:World)(tag:Nat->Tag)(β:Nat->Option Own):Prop where
 nn:n<=1000000000
 frm:Below 0 S0.w w
 keep:∀b,b<S0.w.heap.size->S0.t b=.imm\/S0.t b=.out->tag b=S0.t b/\w.heap[b]?=S0.w.heap[b]?
 kimm:∀b,Imm S0.t b->Imm tag b/\w.heap[b]?=S0.w.heap[b]?
 bk:∀r,1000000000<=r->cR (aB r σ.rows)->β r=S0.own r
 below:Below w0.heap.size w0 w
 sz:a.tmps.size=n
 nodef:a.defers=[]
 s0lt:∀b,S0.s b->b<w0.heap.size
 lt:∀b,tag b≠.out->b<w.heap.size
 old:∀b,b<w0.heap.size->(tag b=.imm↔S0.s b)/\(tag b=.imm\/tag b=.out)
 env:∀k x,aB k σ.env=some x->Rep w (Imm tag) w0.heap.size β (a.tmps.getD k undef) x/\∀r∈x.ments,(aB r σ.rows).isSome
 rows:∀r,cJ w tag w0.heap.size β r (aB r σ.rows)
 wfr:∀r x,aB r σ.rows=some (.var x)->∀q∈x.ments,(aB q σ.rows).isSome
def R(n:Nat)(w0:World)(S0:Fx)(σ:St)(a:Act)(w:World):Prop:=∃tag β,RR n w0 S0 σ a w tag β
def Wf(rows:List (Nat×Row)):Prop:=∀r x,aB r rows=some (.var x)->∀q∈x.ments,(aB q rows).isSome
def Hl(H:World->Prop)(P:Program)(f:Nat)(args:List AV)(ins:List (Nat×Row))(res:AV)(outs:List (Nat×Row)):Prop:=
 (∃fn,P.funcs[f]?=some fn/\fn.body.isNone=false/\(fn.name== "runtime.NumGoroutine")=false)/\
 ∀ (w0 w : World) (tag : Nat → Tag) (β : Nat → Option Own) (vs : Array Value), Below w0.heap.size w0 w → (∀ b, b < w0.heap.size → tag b = .imm ∨ tag b = .out) → (∀ b, tag b ≠ .out → b < w.heap.size) →
   (∀r,cJ w tag w0.heap.size β r (aB r ins))->Wf ins->vs.size=args.length->
   (∀(j:Nat)(x:AV),args[j]?=some x->Rep w (Imm tag) w0.heap.size β (vs.getD j undef) x/\∀r∈x.ments,(aB r ins).isSome)->(∀W:World,(∀b,Imm tag b->W.heap[b]?=w.heap[b]?)->H W)->
   Calls P f vs w fun e w'=>∃v tag' β',e=.returned v/\Below 0 w w'/\(∀b,b<w.heap.size->tag b=.imm\/tag b=.out->tag' b=tag b/\w'.heap[b]?=w.heap[b]?)/\
    (∀b,Imm tag b->Imm tag' b/\w'.heap[b]?=w.heap[b]?)/\(∀b,tag' b≠.out->b<w'.heap.size)/\(∀r,cJ w' tag' w0.heap.size β' r (aB r outs))/\Wf outs/\
    (∀r,1000000000<=r->cR (aB r outs)->β' r=β r)/\Rep w' (Imm tag') w0.heap.size β' v res/\∀r∈res.ments,(aB r outs).isSome
def OkM(P:Program)(f:Nat)(args:List AV)(ins:List (Nat×Row))(res:AV)(outs:List (Nat×Row)):Prop:=Hl (fun _=>True) P f args ins res outs
def OkH(P:Program)(f:Nat)(args:List AV)(ins:List (Nat×Row))(res:AV)(outs:List (Nat×Row)):Prop:=
 (∃fn,P.funcs[f]?=some fn/\fn.body.isNone=false/\(fn.name== "runtime.NumGoroutine")=false)/\
 ∀ (w0 w : World) (tag : Nat → Tag) (β : Nat → Option Own) (vs : Array Value), Below w0.heap.size w0 w → (∀ b, b < w0.heap.size → tag b = .imm ∨ tag b = .out) → (∀ b, tag b ≠ .out → b < w.heap.size) →
   (∀r,cJ w tag w0.heap.size β r (aB r ins))->Wf ins->vs.size=args.length->
   (∀(j:Nat)(x:AV),args[j]?=some x->Rep w (Imm tag) w0.heap.size β (vs.getD j undef) x/\∀r∈x.ments,(aB r ins).isSome)->
   Calls P f vs w fun e w'=>∃v tag' β',e=.returned v/\Below 0 w w'/\(∀b,b<w.heap.size->tag b=.imm\/tag b=.out->tag' b=tag b/\w'.heap[b]?=w.heap[b]?)/\
    (∀b,tag' b≠.out->b<w'.heap.size)/\(∀r,cJ w' tag' w0.heap.size β' r (aB r outs))/\Wf outs/\
    (∀r,1000000000<=r->cR (aB r outs)->β' r=β r)/\Rep w' (Imm tag') w0.heap.size β' v res/\∀r∈res.ments,(aB r outs).isSome
def OkT(H:World->Prop)(P:Program):Oks:=⟨OkR H P,Hl H P,OkH P⟩
def OkS(P:Program):Oks:=⟨Ok P,OkM P,OkH P⟩
class HS (S0:Fx) (H:World->Prop):Prop where
 hs:∀w,(∀b,Imm S0.t b->w.heap[b]?=S0.w.heap[b]?)->H w
instance(S0:Fx):HS S0 (fun _=>True):=⟨fun _ _=>trivial⟩
def RR.hyp{H:World->Prop}{n:Nat}{w0:World}{S0:Fx}[HS S0 H]{σ:St}{a:Act}{w:World}{tag:Nat->Tag}{β:Nat->Option Own}(h:RR n w0 S0 σ a w tag β){W:World}(hW:∀b,Imm tag b->W.heap[b]?=w.heap[b]?):H W:=
 HS.hs W fun b hb=>(hW b (h.kimm b hb).1).trans (h.kimm b hb).2
theorem aQ{α:Type}(k j:Nat)(x:α):∀l:List (Nat×α),aB j (put k x l)=if j=k then some x else aB j l
 |[]=>by simp[put,aB,eq_comm]
 | (i, y) :: l => by
   simp only[put];by_cases h:i=k
   ·subst h;simp only[if_true,aB]
    grind
   ·simp only[h,if_false,aB,aQ k j x l]
    grind
theorem be{n:Nat}{fps:Nat->List Nat}{c:Nat}:c∈cz n fps↔∃j,j<n/\c∈fps j:=by simp[cz]
def dz.mono{w w':World}{b pos:Nat}{v:Value}(h:dz w b pos v)(hb:w'.heap[b]?=w.heap[b]?):dz w' b pos v:=by
 intro i x hx;obtain⟨h1,h2⟩:=h i x hx
 simp_all [World.cell?]
def Free.mono{w w':World}{b t:Nat}(h:Free w b t)(hb:w'.heap[b]?=w.heap[b]?):Free w' b t:=by
 obtain⟨c,ty,h1,h2⟩:=h;exact⟨c,ty,hb.trans h1,h2⟩
def Fl.ok.S{S:Nat->Prop}{B b:Nat}{f:Fl}(h:f.ok S B b):S b:=by cases f<;>simp_all [Fl.ok]
def Fl.ok.als{S:Nat->Prop}{B b:Nat}{f:Fl}(h:f.ok S B b):f.als.ok S B b:=by cases f<;>simp_all [Fl.ok,Fl.als]
def Fl.ok.mono{S S':Nat->Prop}{B b:Nat}{f:Fl}(h:f.ok S B b)(hs:S b->S' b):f.ok S' B b:=by cases f<;>simp_all [Fl.ok]
def aX.nil0{w:World}{S:Nat->Prop}{B:Nat}(f:Fl)(n:Nat):aX w S B (.slice none 0 0) (.lst f n []) []:=.nil f n none 0 ⟨fun _=>rfl,fun _=>rfl⟩
def aX.mono{w w':World}{S S':Nat->Prop}{B:Nat}{v:Value}{x:AV}{fp:List Nat}(h:aX w S B v x fp)
 (hs:∀b,S b->S' b/\w'.heap[b]?=w.heap[b]?):aX w' S' B v x fp:=by
 induction h with
 |top v=>exact .top v
 |sc v h=>exact .sc v h
 |nil f n ad cap h=>exact .nil f n ad cap h
 | lst f n b o len cap xs vs fps hl hc hf hu hv hx ih =>
   exact .lst f n b o len cap xs vs fps hl hc (hf.mono fun h=>(hs b h).1) (fun e=>(hu e).mono (hs b hf.S).2)
    (fun j x hj=>⟨(hv j x hj).1,(hv j x hj).2.mono (hs b hf.S).2⟩) ih
 |agg vs cs fps h h1 hx ih=>exact .agg vs cs fps h h1 ih
 |tup vs cs fps h hx ih=>exact .tup vs cs fps h ih
 |fn f vs cs fps h hx ih=>exact .fn f vs cs fps h ih
 |ub b=>exact .ub b
 |bp f b o off v x hb hv hx ih=>exact .bp f b o off v x (hb.mono fun h=>(hs b h).1) (hv.mono (hs b hb.S).2) ih
theorem bF:∀{cs:List AV}{j:Nat}{x:AV}{r:Nat},cs[j]?=some x->r∈x.ments->r∈aP cs
 |[],j,x,r,hj,_=>by simp at hj
 |c::cs,0,x,r,hj,hr=>by simp_all [aP]
 |c::cs,j+1,x,r,hj,hr=>by simp at hj;simp[aP,bF hj hr]
def Rep.mono{w w':World}{S S':Nat->Prop}{B:Nat}{β β':Nat->Option Own}{v:Value}{x:AV}(h:Rep w S B β v x)
 (hs:∀b,S b->S' b/\w'.heap[b]?=w.heap[b]?) (hb:∀r∈x.ments,β' r=β r\/β' r=none):Rep w' S' B β' v x:=by
 induction h with
 |p v x h=>exact .p v x (h.mono hs)
 |slB r i n b o sz cap len c h hc hn hl=>exact(hb r (by simp[AV.ments])).elim (fun e=>.slB r i n b o sz cap len c (e.trans h) hc hn hl) (fun e=>.slD r i n _ e rfl)
 |slE r i b o sz cap len p h hp=>exact(hb r (by simp[AV.ments])).elim (fun e=>.slE r i b o sz cap len p (e.trans h) hp) (fun e=>.slD r i 0 _ e rfl)
 |slN r h=>exact(hb r (by simp[AV.ments])).elim (fun e=>.slN r (e.trans h)) (fun e=>.slD r 0 0 _ e rfl)
 |slD r i n v h h1=>exact .slD r i n v ((hb r (by simp[AV.ments])).elim (fun e=>e.trans h) id) h1
 |ptB r i off b o sz cap len h=>exact(hb r (by simp[AV.ments])).elim (fun e=>.ptB r i off b o sz cap len (e.trans h)) (fun e=>.ptD r i off _ e rfl)
 |ptD r i off v h h1=>exact .ptD r i off v ((hb r (by simp[AV.ments])).elim (fun e=>e.trans h) id) h1
 |tg f n len a xs hl h=>exact .tg f n len a xs hl (h.mono hs)
 |agg vs cs hsz h1 hx ih=>exact .agg vs cs hsz h1 (fun j x hj=>ih j x hj fun r hr=>hb r (by grind [bF,AV.ments]))
 |tup vs cs hsz hx ih=>exact .tup vs cs hsz (fun j x hj=>ih j x hj fun r hr=>hb r (by grind [bF,AV.ments]))
 |fn f vs cs hsz hx ih=>exact .fn f vs cs hsz (fun j x hj=>ih j x hj fun r hr=>hb r (by grind [bF,AV.ments]))
end Vs

namespace Vs
open Go Go.RowKit
def qQ:Value->AV->Bool
 | .int k n,.sc (.int k' n')=>decide (k=k')&&decide (n=n')
 | .bool b,.sc (.bool b')=>b==b'
 | .string s,.sc (.string s')=>decide (s.data.toList=s'.data.toList)
 | .pointer none,.sc (.pointer none)=>true
 | .nilFunc,.sc .nilFunc=>true
 | .slice none 0 0,.lst _ _ []=>true
 | .slice none 0 0,.sc (.slice none 0 0)=>true
 |_,_=>false
def lk:List Value->List AV->Bool
 |[],[]=>true
 |v::vs,c::cs=>qQ v c&&lk vs cs
 |_,_=>false
def jD:Value->AV->Bool
 | .agg vs,.agg cs=>lk vs.toList cs
 |v,a=>qQ v a
def cF:Operand->X->Bool
 | .tmp t,.t n=>t==n
 | .const v,.c a=>jD v a
 | .func f,.c (.fn g [])=>f==g
 |_,_=>false
def fI:List Operand->List X->Bool
 |[],[]=>true
 |x::xs,y::ys=>cF x y&&fI xs ys
 |_,_=>false
def eM:Option Operand->Option X->Bool
 |none,none=>true
 |some x,some y=>cF x y
 |_,_=>false
def ly(P:Program)(t n:Nat):Bool:=(P.info? t).map (·.size)==some n
def oJ(P:Program)(t:Nat)(ag:Bool):Bool:=match P.underlying t with
 |some (.struct _)=>ag
 |some (.array _ _)=>ag
 |some _=>!ag
 |none=>false
def fe(P:Program)(t n:Nat):Bool:=match P.underlying t with
 |some (.slice e)=>ly P e n&&decide (0<n)
 |_=>false
def km(P:Program)(t:Nat)(z:AV):Bool:=match P.info? t with
 | some i => match i.zero with
   |some v=>jD v z
   |none=>false
 |none=>false
def jF(P:Program)(t bytes:Nat):Bool:=match P.underlying t with
 |some (.slice e)=>(P.info? e).map (·.bytes)==some bytes&&decide (0<bytes)
 |_=>false
def yd(P:Program)(t n:Nat):Bool:=match P.underlying t with
 | some (.slice e) => match P.info? e with
   | some i => match i.zero with
     |some v=>v.cells.size==n
     |none=>false
   |none=>false
 |_=>false
def nU(P:Program)(t:Nat)(z:AV):Bool:=match P.underlying t with
 |some (.slice e)=>km P e z
 |_=>false
def qe(P:Program)(t f off n:Nat):Bool:=match P.underlying t with
 | some (.struct fs) => match fs[f]? with
   |some g=>g.offset==off&&ly P g.type n&&decide (0<n)
   |none=>false
 |_=>false
def DC(P:Program)(t:Nat):Bool:=match P.underlying t with
 |some .string=>true
 |_=>false
def BB(P:Program)(t:Nat):Bool:=match P.underlying t with
 |some .bool=>true
 |_=>false
def Kk(P:Program)(t:Nat):Bool:=match P.underlying t with
 |some (.slice _)=>true
 |_=>false
def oU(P:Program)(t:Nat)(k:IntKind):Bool:=match P.underlying t with
 |some (.int q)=>decide (q=k)
 |_=>false
def oS(P:Program)(t:Nat):Bool:=match P.underlying t with
 |some (.struct fs)=>fs.all fun f=>(P.info? f.type).isSome
 |_=>false
def gJ(P:Program)(t:Nat):List (Nat×Operand)->List (Nat×Nat×X)->Bool
 |[],[]=>true
 |(f,x)::ps,(off,n,y)::qs=>qe P t f off n&&cF x y&&gJ P t ps qs
 |_,_=>false
def qt:Nat->List (Nat×Operand)->List X->Bool
 |_,[],[]=>true
 |k,(i,x)::ps,y::qs=>i==k&&cF x y&&qt (k+1) ps qs
 |_,_,_=>false
def isP2(P:Program)(t:Nat):Bool:=match P.underlying t with
 | some (.struct fs) => (match fs.toList with
   |[f,g]=>f.offset==0&&g.offset==1&&oU P f.type .i64&&oU P g.type .i64&& !decide (f.name= "_")&& !decide (g.name= "_")&& !P.stoodInHeld t&& !P.eqGuardType P.depth t
   |_=>false)
 |_=>false
def bd(P:Program):Op->AOp->Bool
 | .move x,.mv y=>cF x y
 | .assign x,.mv y=>cF x y
 | .pick c x y,.pick c' x' y'=>cF c c'&&cF x x'&&cF y y'
 | .alloc t,.alloc z=>km P t z
 | .box _ x,.box n y=>cF x y&&decide (0<n)
 | .build t ps,.build z qs=>km P t (.agg z)&&oS P t&&gJ P t ps.toList qs
 | .buildSlice t len ps,.bsl n _ qs=>fe P t n&&yd P t n&&len==qs.length&&decide (len*n<=16777216)&&qt 0 ps.toList qs
 | .buildSlice t len ps,.bsm n qs=>fe P t n&&yd P t n&&len==qs.length&&decide (len*n<=16777216)&&qt 0 ps.toList qs
 | .load t x,.load n ag y=>ly P t n&&oJ P t ag&&cF x y
 | .store t x v,.store n y u=>ly P t n&&decide (0<n)&&cF x y&&cF v u
 | .load t x,.ldv _ n ag y=>ly P t n&&oJ P t ag&&cF x y
 | .load t x,.lde _ n ag y=>ly P t n&&oJ P t ag&&cF x y
 | .store t x v,.str n y u=>ly P t n&&decide (0<n)&&cF x y&&cF v u
 | .load t x,.lda n ag y=>ly P t n&&oJ P t ag&&cF x y
 | .store t x v,.stv n y u=>ly P t n&&decide (0<n)&&cF x y&&cF v u
 | .store t x v,.stw _ n y u=>ly P t n&&decide (0<n)&&cF x y&&cF v u
 | .binOp op _ x y _,.bin op' x' y'=>decide (op=op')&&cF x x'&&cF y y'
 | .binOp op t x y _,.beq neg x' y'=>BB P t&&decide (op=if neg then .neq else .eql)&&cF x x'&&cF y y'
 | .binOp op t x y _,.aeq neg x' y'=>isP2 P t&&decide (op=if neg then .neq else .eql)&&cF x x'&&cF y y'
 | .unOp op _ x,.un op' y=>decide (op=op')&&cF x y
 | .convert s t x,.conv k y=>oU P t k&&(P.underlying s).isSome&&cF x y
 | .makeFunc (.func f) first cs,.mkf g ds=>f==g&&first.isEmpty&&fI cs.toList ds
 | .makeSlice t l c,.mks n z bytes l' c'=>fe P t n&&jF P t bytes&&nU P t z&&cF l l'&&cF c c'
 | .slice t x lo hi mx,.slc n y lo' hi' mx'=>fe P t n&&cF x y&&eM lo lo'&&eM hi hi'&&eM mx mx'
 | .fieldAddr t x f,.fad off y=>(match P.underlying t with
  | some (.struct fs) => match fs[f]? with
    |some g=>g.offset==off&&(match P.info? g.type with|some i=>decide (0<i.size)|none=>false)
    |none=>false
  |_=>false)&&cF x y
 | .fieldAddr t x f,.fdv _ off y=>(match P.underlying t with
  | some (.struct fs) => match fs[f]? with
    |some g=>g.offset==off&&(match P.info? g.type with|some i=>decide (0<i.size)|none=>false)
    |none=>false
  |_=>false)&&cF x y
 | .indexAddr t x i,.idx n y j=>fe P t n&&cF x y&&cF i j
 | .indexAddr t x i,.idv _ n y j=>fe P t n&&cF x y&&cF i j
 | .index t x i,.stri y j=>DC P t&&cF x y&&cF i j
 | .extract x j,.ext y k=>cF x y&&j==k
 | .nilCheck x,.nilc y=>cF x y
 | .call c,.call f ys=>(match c.callee with| .value (.func g)=>g==f|_=>false)&&fI c.args.toList ys
 | .call c,.dyn y ys=>(match c.callee with| .value x=>cF x y|_=>false)&&fI c.args.toList ys
 | .call c,.callM f ys _=>(match c.callee with| .value (.func g)=>g==f|_=>false)&&fI c.args.toList ys
 | .call c,.dynM y ys _=>(match c.callee with| .value x=>cF x y|_=>false)&&fI c.args.toList ys
 | .call c,.len y=>(match c.callee with| .builtin .len=>true|_=>false)&&fI c.args.toList [y]&&(match c.argTypes[0]? with|some t=>Kk P t|none=>false)
 | .call c,.lnv _ y=>(match c.callee with| .builtin .len=>true|_=>false)&&fI c.args.toList [y]&&(match c.argTypes[0]? with|some t=>Kk P t|none=>false)
 | .call c,.lenz y=>(match c.callee with| .builtin .len=>true|_=>false)&&fI c.args.toList [y]&&(match c.argTypes[0]? with|some t=>DC P t|none=>false)
 | .call c,.capn y=>(match c.callee with| .builtin .cap=>true|_=>false)&&fI c.args.toList [y]&&(match c.argTypes[0]? with|some t=>Kk P t|none=>false)
 | .call c,.app n bytes _ y z=>(match c.callee with| .builtin .append=>true|_=>false)&&fI c.args.toList [y,z]&&
  (match c.argTypes.toList with|[t,u]=>t==u&&fe P t n&&jF P t bytes&&yd P t n|_=>false)
 | .call c,.apz n z bytes y l=>(match c.callee with| .builtin .append=>true|_=>false)&&fI c.args.toList [y,l]&&
  (match c.argTypes.toList with|[t,u]=>fe P t n&&jF P t bytes&&nU P t z&&oU P u .i64|_=>false)
 | .binOp op t x y _,.isn neg x'=>Kk P t&&decide (op=if neg then .neq else .eql)&&cF x x'&&(match y with| .const (.slice none 0 0)=>true|_=>false)
 | .slice t x lo hi mx,.slm n y lo' hi' mx'=>fe P t n&&cF x y&&eM lo (some lo')&&eM hi (some hi')&&eM mx (some mx')
 | .slice t x lo hi mx,.slg n y hi'=>fe P t n&&cF x y&&lo.isNone&&eM hi (some hi')&&mx.isNone
 | .slice t x lo hi mx,.slx n y lo' hi'=>fe P t n&&cF x y&&eM lo lo'&&eM hi hi'&&mx.isNone
 | .call c,.apq n y z=>(match c.callee with| .builtin .append=>true|_=>false)&&fI c.args.toList [y,z]&&
  (match c.argTypes.toList with|[t,u]=>t==u&&fe P t n|_=>false)
 | .call c,.clr n z y=>(match c.callee with| .builtin .clear=>true|_=>false)&&fI c.args.toList [y]&&(match c.argTypes[0]? with|some t=>fe P t n&&nU P t z|none=>false)
 | .call c,.cpy n y z=>(match c.callee with| .builtin .copy=>true|_=>false)&&fI c.args.toList [y,z]&&(match c.argTypes.toList with|[t,_]=>fe P t n|_=>false)
 |_,.bad=>true
 |_,_=>false
def iC:AOp->Bool
 | .store _ _ _| .str _ _ _| .stv _ _ _| .stw _ _ _ _=>true
 |_=>false
def Ma:AOp->Bool
 | .clr _ _ _| .cpy _ _ _=>true
 |_=>false
def ZM:AOp->Bool
 | .bad=>true
 |_=>false
def fu(P:Program)(n:Nat)(ops:Array Oper)(o:Oper)(ao:bl):Bool:=
 decide (o.dst=ao.d)&&bd P o.op ao.op&&
 (match ao.d with|some d=>decide (d<n)&&!iC ao.op|none=>iC ao.op||Ma ao.op||ZM ao.op)&&
 (match o.guard,ao.gd with
  |none,none=>true
  |some (j,b),some (s,b')=>decide ((ops[j]?).bind (·.dst)=some s)&&b==b'
  |_,_=>false)
def bZ(P:Program)(n:Nat)(ops:Array Oper):List Oper->List bl->Bool
 |[],[]=>true
 |o::os,a::bs=>fu P n ops o a&&bZ P n ops os bs
 |_,_=>false
theorem bj(n:Nat)(f:Nat->List Nat)(h:∀j,j<n->f j=[]):cz n f=[]:=by
 simp_all [C1,cz]
def jz{v:Value}{a:AV}(h:qQ v a=true)(w:World)(S:Nat->Prop)(B:Nat):
 aX w S B v a []/\v.cells=#[v]/\v.oneCell'=true/\a.width=1/\a.ments=[]:=by
 unfold qQ at h;split at h
 ·simp at h;obtain⟨rfl,rfl⟩:=h;exact⟨.sc _ rfl,rfl,rfl,rfl,by simp[AV.ments]⟩
 ·simp at h;subst h;exact⟨.sc _ rfl,rfl,rfl,rfl,by simp[AV.ments]⟩
 ·rename_i s s';have:s=s':=by
   have h2:s.data.toList=s'.data.toList:=by simpa using h
   have h3:s.data=s'.data:=by simpa using h2
   cases s;cases s';simp_all
  subst this;exact⟨.sc _ rfl,rfl,rfl,rfl,by simp[AV.ments]⟩
 ·exact⟨.sc _ rfl,rfl,rfl,rfl,by simp[AV.ments]⟩
 ·exact⟨.sc _ rfl,rfl,rfl,rfl,by simp[AV.ments]⟩
 ·exact⟨.nil0 _ _,rfl,rfl,rfl,by simp[AV.ments]⟩
 ·exact⟨.sc _ rfl,rfl,rfl,rfl,by simp[AV.ments]⟩
 ·cases h
theorem sV:∀{vs:List Value}{cs:List AV},lk vs cs=true->vs.length=cs.length/\∀(j:Nat)(x:AV),cs[j]?=some x->∃v,vs[j]?=some v/\qQ v x=true
 |[],[],_=>⟨rfl,by simp⟩
 | v :: vs, c :: cs, h => by
   simp[lk] at h;obtain⟨h1,h2⟩:=sV h.2;refine⟨by simp[h1],fun j x hj=>?_⟩;cases j with
   |zero=>simp at hj;subst hj;exact⟨v,rfl,h.1⟩
   |succ j=>simp at hj;obtain⟨u,hu,hc⟩:=h2 j x hj;exact⟨u,by simpa using hu,hc⟩
 |[],_::_,h=>by simp[lk] at h
 |_::_,[],h=>by simp[lk] at h
theorem bE{cs:List AV}{r:Nat}:r∈aP cs↔∃c∈cs,r∈c.ments:=by
 induction cs with
 |nil=>simp[aP]
 |cons c cs ih=>simp[aP,ih]
def ea{v:Value}{a:AV}(h:jD v a=true)(w:World)(S:Nat->Prop)(B:Nat):
 aX w S B v a []/\v.cells.size=a.width/\(∀x∈v.cells,x.oneCell'=true)/\a.ments=[]:=by
 unfold jD at h;split at h
 ·rename_i vs cs;obtain⟨hl,hat⟩:=sV h;have hsz:vs.size=cs.length:=by simpa using hl
  have hone:∀x∈vs,x.oneCell'=true:=by
   intro x hx;obtain⟨i,hi,rfl⟩:=C3.1 hx;have hi':i<cs.length:=by omega
   obtain⟨v,hv,hc⟩:=hat i cs[i] (by simp[hi']);have:v=vs[i]:=by simpa[hi,eq_comm] using hv
   subst this;exact(jz hc w S B).2.2.1
  refine⟨?_,by simpa[Value.cells,AV.width] using hsz,by simpa[Value.cells] using hone,?_⟩
  ·have:=aX.agg (w:=w) (S:=S) (B:=B) vs cs (fun _=>[]) hsz hone (fun j x hj=>by
    obtain⟨v,hv,hc⟩:=hat j x hj;have:vs.getD j undef=v:=by
     have:=A0.1 hv;obtain⟨hlt,he⟩:=this;simp at hlt he;simp[B5,hlt,he]
    rw[this];exact(jz hc w S B).1)
   rwa[bj _ _ fun _ _=>rfl] at this
  ·simp only[AV.ments];apply B2.2;intro r hr;obtain⟨c,hc,hr⟩:=bE.1 hr;obtain⟨j,hj,rfl⟩:=A3 hc;obtain⟨v,hv,h1⟩:=hat j cs[j] (by simp[hj]);have:=(jz h1 w S B).2.2.2.2;simp[this] at hr
 ·obtain⟨h1,h2,h3,h4,h5⟩:=jz h w S B;refine⟨h1,by simp[h2,h4],by rw[h2];simpa using h3,h5⟩
end Vs

namespace Vs
open Go Go.RowKit
variable{P:Program}{n:Nat}{w0:World}{S0:Fx}{σ:St}{a:Act}{w:World}{tag:Nat->Tag}{β:Nat->Option Own}
variable{v:Value}{x:Operand}
theorem yJ(l:Array Value)(d k:Nat)(v u:Value)(hd:d<l.size):(l.setIfInBounds d v).getD k u=if k=d then v else l.getD k u:=by
 by_cases h:k=d
 ·simp_all
 simp_all [if_false,Array.size_setIfInBounds,Array.getInternal_eq_getElem,Array.getElem_setIfInBounds,Ne.symm,B5]
def St.dom(σ:St)(x:AV):Prop:=∀r∈x.ments,(aB r σ.rows).isSome
def RR.get(h:RR n w0 S0 σ a w tag β)(k:Nat):Rep w (Imm tag) w0.heap.size β (a.tmps.getD k undef) (σ.get k)/\σ.dom (σ.get k):=by
 simp only[St.get,St.dom];cases hk:aB k σ.env with
 |none=>exact⟨.p _ _ (.top _),by simp[AV.ments]⟩
 |some x=>exact h.env k x hk
def RR.gx(h:RR n w0 S0 σ a w tag β){y:X}(hm:cF x y=true):Rep w (Imm tag) w0.heap.size β (a.eval x) (σ.gx y)/\σ.dom (σ.gx y):=by
 unfold cF at hm;split at hm
 ·simp at hm;subst hm;exact h.get _
 ·obtain⟨h1,_,_,h4⟩:=ea hm w (Imm tag) w0.heap.size;exact⟨.p _ _ h1,by simp[St.dom,St.gx,h4]⟩
 ·simp at hm;subst hm;refine⟨.fn _ _ _ rfl (by simp),by simp[St.dom,St.gx,AV.ments,aP]⟩
 ·cases hm
def RR.step(h:RR n w0 S0 σ a w tag β){d:Nat}(hd:d<n){x:AV}(hr:Rep w (Imm tag) w0.heap.size β v x)(hm:σ.dom x):
 RR n w0 S0 (σ.app (some d) x []) (a.put (some d) v) w tag β where
 nn:=h.nn
 frm:=h.frm
 keep:=h.keep
 kimm:=h.kimm
 bk:=by simpa[St.app,bg] using h.bk
 below:=h.below
 sz:=by simp[Act.put,h.sz]
 nodef:=h.nodef
 s0lt:=h.s0lt
 lt:=h.lt
 old:=h.old
 env:=by
  intro k y hk;simp only[St.app,aQ] at hk;simp only[Act.put,yJ _ _ _ _ _ (h.sz▸hd)];split at hk
  ·rename_i e;subst e;simp at hk;subst hk;simpa[St.app,bg] using⟨hr,hm⟩
  ·rename_i e;simp only[e,if_false];simpa[St.app,bg] using h.env k y hk
 rows:=by simpa[St.app,bg] using h.rows
 wfr:=by simpa[St.app,bg] using h.wfr
def Snd(P:Program)(n:Nat)(w0:World)(S0:Fx)(σ:St)(o:Oper)(K:AV->List (Nat×Row)->Prop)(a:Act)(w:World):Prop:=
 ∀(next:Act->World->Prop)(Q:Exit->Act->World->Prop),(∀a' w' x u,K x u->R n w0 S0 (σ.app o.dst x u) a' w'->next a' w')->o.wp P a w next Q
def Snd.value{o:Oper}{K:AV->List (Nat×Row)->Prop}{x:AV}{u:List (Nat×Row)}{w':World}
 (hrun:(execOp a.eval o).run P w=.ok (.value v) w') (hk:K x u) (hR:R n w0 S0 (σ.app o.dst x u) (a.put o.dst v) w'):Snd P n w0 S0 σ o K a w:=by
 intro next Q hn
 unfold Oper.wp;rw[hrun];exact hn _ _ _ _ hk hR
def Snd.val{o:Oper}{K:AV->List (Nat×Row)->Prop}{x:AV}{d:Nat}(h:RR n w0 S0 σ a w tag β)(hod:o.dst=some d)(hd:d<n)
 (hrun:(execOp a.eval o).run P w=.ok (.value v) w) (hk:K x []) (hr:Rep w (Imm tag) w0.heap.size β v x) (hm:σ.dom x):Snd P n w0 S0 σ o K a w:=
 .value hrun hk (by rw[hod];exact⟨tag,β,h.step hd hr hm⟩)
section inversions
variable{S:Nat->Prop}{B:Nat}
def Rep.int_inv{k:IntKind}{m:Int}(h:Rep w S B β v (.sc (.int k m))):v=.int k m:=by
 cases h with|p v x h=>cases h;rfl
def Rep.bool_inv{b:Bool}(h:Rep w S B β v (.sc (.bool b))):v=.bool b:=by
 cases h with|p v x h=>cases h;rfl
def Rep.str_inv{s:ByteArray}(h:Rep w S B β v (.sc (.string s))):v=.string s:=by
 cases h with|p v x h=>cases h;rfl
def Rep.ub_inv(h:Rep w S B β v .ub):∃b,v=.bool b:=by
 cases h with|p v x h=>cases h with|ub b=>exact⟨b,rfl⟩
def Rep.int_mk(k:IntKind)(m:Int):Rep w S B β (.int k m) (.sc (.int k m)):=.p _ _ (.sc _ rfl)
def Rep.bool_mk(b:Bool):Rep w S B β (.bool b) (.sc (.bool b)):=.p _ _ (.sc _ rfl)
def Rep.str_mk(s:ByteArray):Rep w S B β (.string s) (.sc (.string s)):=.p _ _ (.sc _ rfl)
end inversions
def cy(v:Value):σ.dom (.sc v):=by simp[St.dom,AV.ments]
section ops
variable{o:Oper}{K:AV->List (Nat×Row)->Prop}{d:Nat}(h:RR n w0 S0 σ a w tag β)(hod:o.dst=some d)(hd:d<n)
include h hod hd
def LP{y:X}(hop:o.op=.move x\/o.op=.assign x)(hm:cF x y=true)(hk:K (σ.gx y) []):Snd P n w0 S0 σ o K a w:=by
 refine .val h hod hd (v:=a.eval x) ?_ hk (h.gx hm).1 (h.gx hm).2;rcases hop with e|e<;>simp[execOp,e]
def Oa{c y:Operand}{c' x' y':X}(hop:o.op=.pick c x y)(hm:bd P (.pick c x y) (.pick c' x' y')=true)(hk:lN K (σ.gx c') (σ.gx x') (σ.gx y')):Snd P n w0 S0 σ o K a w:=by
 simp[bd] at hm;have hc:=(h.gx hm.1.1).1;unfold lN at hk;split at hk
 ·rename_i t e;rw[e] at hc;have hv:=hc.bool_inv;cases t with
  |true=>exact .val h hod hd (v:=a.eval x) (by simp[execOp,hop,hv,asBool]) (hk.1 rfl) (h.gx hm.1.2).1 (h.gx hm.1.2).2
  |false=>exact .val h hod hd (v:=a.eval y) (by simp[execOp,hop,hv,asBool]) (hk.2 rfl) (h.gx hm.2).1 (h.gx hm.2).2
 ·exact hk.elim
def la{k:IntKind}{m:Int}(hrun:(execOp a.eval o).run P w=.ok (.value (.int k (k.wrap m))) w)(hk:ofI k m (k1 K)):Snd P n w0 S0 σ o K a w:=by
 exact .val h hod hd hrun hk (.int_mk _ _) (cy _)
def XX{op:BinOp}{t u:Nat}{y:Operand}{x' y':X}(hop:o.op=.binOp op t x y u)(hm:bd P (.binOp op t x y u) (.bin op x' y')=true)
 (hk:dA op (σ.gx x') (σ.gx y') (k1 K)):Snd P n w0 S0 σ o K a w:=by
 simp[bd] at hm;have hx:=(h.gx hm.1).1;have hy:=(h.gx hm.2).1;unfold dA at hk;split at hk
 ·rename_i k p k' q e1 e2;rw[e1] at hx;rw[e2] at hy;have hx:=hx.int_inv;have hy:=hy.int_inv;have hg:∀op,eqGuard op t x y (.int k p) (.int k' q)=pure ():=by intro op;cases op<;>simp[eqGuard]<;>rfl
  split at hk
  ·obtain⟨h0,h1⟩:=hk;refine la h hod hd (k:=k) ?_ h1;simp[execOp,hop,hx,hy,hg,binOp,Op.shift,show¬q<0 by omega]
  ·obtain⟨h0,h1⟩:=hk;refine .val h hod hd ?_ h1 (.int_mk _ _) (cy _);simp[execOp,hop,hx,hy,hg,binOp,Op.shift,show¬q<0 by omega]
  ·obtain⟨rfl,h1⟩:=hk;unfold eb at h1;split at h1
   ·exact la h hod hd (by simp_all [execOp,binOp,Op.intArith]) h1
   ·exact la h hod hd (by simp_all [execOp,binOp,Op.intArith]) h1
   ·exact la h hod hd (by simp_all [execOp,binOp,Op.intArith]) h1
   ·exact la h hod hd (by simp_all [execOp,binOp,Op.intDiv]) h1.2
   ·exact .val h hod hd (by simp_all [execOp,binOp,Op.intDiv]) h1.2 (.int_mk _ _) (cy _)
   ·exact .val h hod hd (by simp_all [execOp,binOp,Op.intBits,bits]) h1 (.int_mk _ _) (cy _)
   ·exact .val h hod hd (by simp_all [execOp,binOp,Op.intBits,bits]) h1 (.int_mk _ _) (cy _)
   ·exact .val h hod hd (by simp_all [execOp,binOp,Op.intBits,bits]) h1 (.int_mk _ _) (cy _)
   ·exact .val h hod hd (by simp_all [execOp,binOp,Op.intBits,bits]) h1 (.int_mk _ _) (cy _)
   ·exact .val h hod hd (by simp_all [execOp,binOp,Op.intCmp]) h1 (.bool_mk _) (cy _)
   ·exact .val h hod hd (by simp_all [execOp,binOp,Op.intCmp]) h1 (.bool_mk _) (cy _)
   ·exact .val h hod hd (by simp_all [execOp,binOp,Op.intCmp]) h1 (.bool_mk _) (cy _)
   ·exact .val h hod hd (by simp_all [execOp,binOp,Op.intCmp]) h1 (.bool_mk _) (cy _)
   ·exact .val h hod hd (by simp_all [execOp,binOp,Op.intCmp]) h1 (.bool_mk _) (cy _)
   ·exact .val h hod hd (by simp_all [execOp,binOp,Op.intCmp]) h1 (.bool_mk _) (cy _)
   ·exact h1.elim
 ·rename_i p q e1 e2;rw[e1] at hx;rw[e2] at hy;have hx:=hx.str_inv;have hy:=hy.str_inv;have hg:∀op,eqGuard op t x y (.string p) (.string q)=pure ():=by intro op;cases op<;>simp[eqGuard]<;>rfl
  split at hk
  ·obtain⟨hk1,hk⟩:=hk;refine .val h hod hd (v:=.string (p++q)) ?_ hk (.str_mk _) (cy _);have e:¬((p.size:Int)+(q.size:Int)>9223372036854775807):=by omega
   simp_all [execOp,binOp,Op.stringOp,IntKind.max,IntKind.bits,IntKind.signed]
  ·exact .val h hod hd (by simp_all [execOp,binOp,Op.stringOp]) hk (.bool_mk _) (cy _)
  ·exact .val h hod hd (by simp_all [execOp,binOp,Op.stringOp]) hk (.bool_mk _) (cy _)
  ·exact hk.elim
 ·exact hk.elim
end ops
end Vs

namespace Vs
open Go Go.RowKit
variable{P:Program}{n:Nat}{w0:World}{S0:Fx}{σ:St}{a:Act}{w:World}{tag:Nat->Tag}{β:Nat->Option Own}
variable{v:Value}{t:Nat}{P:Program}{x:AV}{k:Nat}{cs xs:List AV}
def dw(h:fe P t k=true):∃e i,P.underlying t=some (.slice e)/\P.info? e=some i/\i.size=k/\0<k:=by
 unfold fe at h;split at h
 ·simp_all [ly]
 ·cases h
theorem yp(h:DC P t=true):P.underlying t=some .string:=by
 grind [DC]
def GE(h:BB P t=true):P.underlying t=some .bool:=by
 grind [BB]
section inv
variable{S:Nat->Prop}{B:Nat}
def Rep.lst_inv{f:Fl}(h:Rep w S B β v (.lst f k xs)):aX w S B v (.lst f k xs) []:=by
 cases h with|p v x h=>exact h
def Rep.bp_inv{f:Fl}{off:Nat}(h:Rep w S B β v (.bp f x off)):
 ∃b o u,v=.pointer (some ⟨b,o+off,none⟩)/\f.ok S B b/\dz w b o u/\aX w S B u x []:=by
 cases h with|p v x h=>cases h with|bp f b o off v x hb hv hx=>grind
theorem iB{m:Nat}{fps:Nat->List Nat}(h:cz m fps=[]):∀j,j<m->fps j=[]:=by
 simp_all [C1,cz]
def aX.agg_inv(h:aX w S B v (.agg cs) []):∃vs,v=.agg vs/\vs.size=cs.length/\(∀x∈vs,x.oneCell'=true)/\
 ∀(j:Nat)(x:AV),cs[j]?=some x->aX w S B (vs.getD j undef) x []:=by
 have key:∀fp,aX w S B v (.agg cs) fp->fp=[]->∃vs,v=.agg vs/\vs.size=cs.length/\(∀x∈vs,x.oneCell'=true)/\
  ∀(j:Nat)(x:AV),cs[j]?=some x->aX w S B (vs.getD j undef) x []:=by
  intro fp h hfp;cases h with
  | agg vs cs fps hs h1 hx =>
    grind [iB,List.getElem?_eq_some_iff]
 exact key _ h rfl
def Rep.agg_inv(h:Rep w S B β v (.agg cs)):∃vs,v=.agg vs/\vs.size=cs.length/\(∀x∈vs,x.oneCell'=true)/\
 ∀(j:Nat)(x:AV),cs[j]?=some x->Rep w S B β (vs.getD j undef) x:=by
 cases h with
 | p v x h =>
   obtain⟨vs,h1,h2,h3,h4⟩:=h.agg_inv;exact⟨vs,h1,h2,h3,fun j x hj=>.p _ _ (h4 j x hj)⟩
 |agg vs cs hs h1 hx=>simp_all
def Rep.tup_inv(h:Rep w S B β v (.tup cs)):∃vs,v=.tuple vs/\vs.size=cs.length/\
 ∀(j:Nat)(x:AV),cs[j]?=some x->Rep w S B β (vs.getD j undef) x:=by
 cases h with
 | p v x h =>
   have key:∀fp,aX w S B v (.tup cs) fp->fp=[]->∃vs,v=.tuple vs/\vs.size=cs.length/\
    ∀(j:Nat)(x:AV),cs[j]?=some x->Rep w S B β (vs.getD j undef) x:=by
    intro fp h hfp;cases h with
    | tup vs cs fps hs hx =>
      refine⟨vs,rfl,hs,fun j x hj=>.p _ _ ?_⟩
      grind [iB,List.getElem?_eq_some_iff]
   exact key _ h rfl
 |tup vs cs hs hx=>simp_all
def Rep.fn_inv{g:Nat}(h:Rep w S B β v (.fn g cs)):∃vs,v=.func (.func g) #[] vs/\vs.size=cs.length/\
 ∀(j:Nat)(x:AV),cs[j]?=some x->Rep w S B β (vs.getD j undef) x:=by
 cases h with
 | p v x h =>
   have key:∀fp,aX w S B v (.fn g cs) fp->fp=[]->∃vs,v=.func (.func g) #[] vs/\vs.size=cs.length/\
    ∀(j:Nat)(x:AV),cs[j]?=some x->Rep w S B β (vs.getD j undef) x:=by
    intro fp h hfp;cases h with
    | fn g vs cs fps hs hx =>
      refine⟨vs,rfl,hs,fun j x hj=>.p _ _ ?_⟩
      grind [iB,List.getElem?_eq_some_iff]
   exact key _ h rfl
 |fn g vs cs hs hx=>simp_all
def aX.one{fp:List Nat}(h:aX w S B v x fp)(hx:x.isAgg=false)(hw:x.width=1):v.cells=#[v]/\v.oneCell'=true:=by
 cases h with
 |top v=>simp[AV.width] at hw
 |sc v h=>exact⟨by cases v<;>simp_all [Value.cells,Value.oneCell'],h⟩
 |nil=>exact⟨rfl,rfl⟩
 |lst=>exact⟨rfl,rfl⟩
 |agg=>simp[AV.isAgg] at hx
 |tup=>simp[AV.width] at hw
 |fn=>exact⟨rfl,rfl⟩
 |ub b=>exact⟨rfl,rfl⟩
 |bp=>exact⟨rfl,rfl⟩
theorem oi(h:v.oneCell'=true):v.cells=#[v]:=by cases v<;>simp_all [Value.cells,Value.oneCell']
def Rep.one(h:Rep w S B β v x)(hx:x.isAgg=false)(hw:x.width=1):v.cells=#[v]/\v.oneCell'=true:=by
 cases h with
 |p v x h=>exact h.one hx hw
 |slB=>exact⟨rfl,rfl⟩
 |slE=>exact⟨rfl,rfl⟩
 |slN=>exact⟨rfl,rfl⟩
 |slD r i n v h h1=>grind [oi]
 |ptB=>exact⟨rfl,rfl⟩
 |ptD r i off v h h1=>grind [oi]
 |tg=>exact⟨rfl,rfl⟩
 |agg=>simp[AV.isAgg] at hx
 |tup=>simp[AV.width] at hw
 |fn=>exact⟨rfl,rfl⟩
def Rep.width(h:Rep w S B β v x)(hw:0<x.width):v.cells.size=x.width/\∀c∈v.cells,c.oneCell'=true:=by
 cases hx:x.isAgg with
 | true =>
   cases x<;>simp[AV.isAgg] at hx;obtain⟨vs,rfl,h2,h3,_⟩:=h.agg_inv
   simp_all [Value.cells,AV.width]
 | false =>
   have:x.width=1:=by cases x<;>simp_all [AV.width,AV.isAgg]
   obtain⟨h1,h2⟩:=h.one hx this
   simp_all
theorem jK{j:Nat}:(dv xs)[j]?=(xs[j]?).map AV.als:=by
 induction xs generalizing j with
 |nil=>simp[dv]
 |cons x xs ih=>grind [dv]
def ig:(dv xs).length=xs.length:=by induction xs<;>simp_all [dv]
def aX.als{fp:List Nat}(h:aX w S B v x fp):aX w S B v x.als []:=by
 induction h with
 |top v=>simp only[AV.als];exact .top v
 |sc v h=>simp only[AV.als];exact .sc v h
 |nil f n ad cap h=>simp only[AV.als,dv];exact .nil _ _ ad cap ⟨h.1,fun e=>by grind [Fl.als]⟩
 | lst f n b o len cap xs vs fps hl hc hf hu hv hx ih =>
   have:=aX.lst (w:=w) (S:=S) (B:=B) f.als n b o len cap (dv xs) vs (fun _=>[]) (by rw[ig];exact hl) hc
    (by cases f<;>exact hf) (by grind [Fl.als])
    (fun j x hj=>by grind [jK])
    (fun j x hj=>by grind [jK])
   rw[bj _ _ fun _ _=>rfl,u6 (by cases f<;>simp[Fl.als]),List.append_nil] at this
   simp_all [AV.als]
 | agg vs cs fps hs h1 hx ih =>
   have:=aX.agg (w:=w) (S:=S) (B:=B) vs (dv cs) (fun _=>[]) (by rw[ig];exact hs) h1
    (fun j x hj=>by grind [jK])
   rw[bj _ _ fun _ _=>rfl] at this;simpa only[AV.als] using this
 |tup vs cs fps hs hx ih=>simp only[AV.als];exact .top _
 |fn f vs cs fps hs hx ih=>simp only[AV.als];exact .top _
 |ub b=>simp only[AV.als];exact .top _
 |bp f b o off v x hb hv hx ih=>simp only[AV.als];exact .top _
end inv
theorem uX{ag:Bool}(h:oJ P t ag=true)(w:World):(isAgg t).run P w=.ok ag w:=by
 unfold oJ at h;split at h
 ·simp_all [run_underlying,isAgg]
 ·simp_all [run_underlying,isAgg]
 ·rename_i d h1 h2 e;simp at h;subst h;simp only[isAgg,Sem.run_bind,run_underlying e,Result.andThen_ok];cases d<;>first|rfl|(exact absurd rfl (h1 _))|(exact absurd rfl (h2 _ _))
 ·cases h
theorem qn(h:ly P t k=true)(w:World):(Go.sizeOf t).run P w=.ok k w:=by
 simp[ly] at h;obtain⟨i,h1,h2⟩:=h;simp[Go.sizeOf,typeInfo,h1,h2]
theorem uz{S:Nat->Prop}{B:Nat}{b pos off:Nat}{ag:Bool}{y z:AV}(hs:ly P t k=true)(ha:oJ P t ag=true)
 (hr:Rep w S B β v y) (hv:dz w b pos v) (hp:part y off k ag=some z):
 ∃v',(Instr.loadAt t (.pointer (some ⟨b,pos+off,none⟩))).run P w=.ok v' w/\Rep w S B β v' z/\∀r∈z.ments,r∈y.ments:=by
 unfold part at hp;cases ag with
 | true =>
   simp at hp;obtain⟨⟨hag,hle⟩,hz⟩:=hp;cases y<;>simp[AV.isAgg] at hag;rename_i cs;obtain⟨vs,rfl,h2,h3,h4⟩:=hr.agg_inv;simp only[AV.width] at hle;have hz':z=.agg ((cs.drop off).take k):=by
    by_cases e:off=0/\k=(AV.agg cs).width
    ·rw[u7 e] at hz;rw[<-hz,e.1,e.2];simp[AV.cells,AV.width]
    ·rw[u6 e] at hz;exact hz.symm
   subst hz';have hl:=run_loadCells (P:=P) (w:=w) ⟨b,pos+off,none⟩ k (fun j=>vs.getD (off+j) undef) (fun j hj=>by
    rw[Addr.add_lit];have:=hv (off+j) (vs.getD (off+j) undef) (by
     have:off+j<vs.size:=by omega
     simp[Value.cells,B5,this])
    rw[C7];exact this.1)
   refine⟨_,by simp[Instr.loadAt,Instr.sureAddr,loadVar,uX ha,qn hs,hl];rfl,?_,?_⟩
   ·refine .agg _ _ ?_ ?_ ?_
    ·simp;omega
    ·intro x hx;simp at hx;obtain⟨j,hj,rfl⟩:=hx;have:off+j<vs.size:=by omega
     apply h3;simp[this]
    ·intro j x hj;rw[D0] at hj;split at hj
     ·rename_i hjk;rw[B6] at hj;have:=h4 (off+j) x hj;simpa[hjk] using this
     ·cases hj
   ·intro r hr;simp only[AV.ments] at hr⊢;obtain⟨c,hc,hr⟩:=bE.1 hr;exact bE.2 ⟨c,C4 (C5 hc),hr⟩
 | false =>
   simp at hp;have key:∃u,w.cell? ⟨b,pos+off,none⟩=some u/\Rep w S B β u z/\∀r∈z.ments,r∈y.ments:=by
    cases hag:y.isAgg with
    | true =>
      cases y<;>simp[AV.isAgg] at hag;rename_i cs;obtain⟨vs,rfl,h2,h3,h4⟩:=hr.agg_inv;simp only[AV.cells] at hp;have hlt:off<cs.length:=(A0.1 hp).1
      refine ⟨vs.getD off undef, (hv off _ (by have : off < vs.size := by omega
                                               simp[Value.cells,B5,this])).1,h4 off z hp,?_⟩
      intro r hr;simp only[AV.ments];exact bF hp hr
    | false =>
      by_cases hw:y.width=1
      ·have hc:y.cells=[y]:=by cases y<;>simp_all [AV.width,AV.isAgg,AV.cells]
       obtain⟨h1,h2⟩:=hr.one hag hw;rw[hc] at hp;have h0:off=0:=by have:=(A0.1 hp).1;simpa using this
       subst h0;simp at hp;subst hp;exact⟨v,(hv 0 v (by rw[h1];rfl)).1,hr,fun r hr=>hr⟩
      ·have:y.cells=[]:=by cases y<;>simp_all [AV.width,AV.isAgg,AV.cells]
       simp[this] at hp
   obtain⟨u,hu,hr',hm⟩:=key;exact⟨u,by simp[Instr.loadAt,Instr.sureAddr,loadVar,uX ha,load,Sem.run,hu],hr',hm⟩
end Vs

namespace Vs
open Go Go.RowKit
variable{P:Program}{n:Nat}{w0:World}{S0:Fx}{σ:St}{a:Act}{w:World}{tag:Nat->Tag}{β:Nat->Option Own}
variable{t r:Nat}{x:Operand}{x':X}{v:Value}
def eK{α:Type}{o:Option α}{K:α->Prop}(h:opt o K):∃x,o=some x/\K x:=by
 cases o with
 |none=>exact h.elim
 |some x=>exact⟨x,rfl,h⟩
def ey{xs:List Operand}{ys:List X}(hm:fI xs ys=true):xs.length=ys.length/\∀(j:Nat)(y:X),ys[j]?=some y->∃x,xs[j]?=some x/\cF x y=true:=by
 induction xs generalizing ys with
 |nil=>grind [fI]
 | cons x xs ih => cases ys with
   |nil=>simp[fI] at hm
   | cons y ys =>
     simp[fI] at hm
     grind
def RR.arr(h:RR n w0 S0 σ a w tag β){k:Nat}{es:List AV}(hr:σ.row r=some (.arr k es)):
 (β r=some .nil/\es=[])\/∃(b o cap:Nat)(vs:Nat->Value)(fps:Nat->List Nat),β r=some (.blk b o k cap es.length)/\Xp w tag w0.heap.size r b (o+cap*k)/\es.length<=cap/\
  (∀j x,es[j]?=some x->(vs j).cells.size=k/\dz w b (o+j*k) (vs j))/\(∀j x,es[j]?=some x->aX w (Imm tag) w0.heap.size (vs j) x (fps j))/\
  (cz es.length fps).Nodup/\∀c∈cz es.length fps,tag c=.uq r:=by
 have:=h.rows r;unfold St.row at hr;rw[hr] at this;exact this
def RR.var(h:RR n w0 S0 σ a w tag β){x:AV}(hr:σ.row r=some (.var x)):
 ∃(b o:Nat)(v:Value),β r=some (.blk b o v.cells.size 1 1)/\Xp w tag w0.heap.size r b (o+v.cells.size)/\dz w b o v/\Rep w (Imm tag) w0.heap.size β v x/\v.cells.size=x.width:=by
 have:=h.rows r;unfold St.row at hr;rw[hr] at this;exact this
def RR.sl_inv(h:RR n w0 S0 σ a w tag β){k i m:Nat}{es:List AV}(hr:σ.row r=some (.arr k es))(hv:Rep w (Imm tag) w0.heap.size β v (.sl r i m)):
 (v=.slice none 0 0/\i=0/\m=0/\es=[]/\β r=some .nil)\/(∃b o cap c,β r=some (.blk b o k cap es.length)/\v=.slice (some ⟨b,o+i*k,none⟩) m c/\i+c=cap/\m<=c/\i+m<=es.length)\/
  ∃b o cap p,β r=some (.blk b o k cap es.length)/\v=.slice (some ⟨b,p,none⟩) 0 0/\m=0/\p<=o+cap*k/\i=cap:=by
 rcases h.arr hr with⟨h1,h2⟩|⟨b,o,cap,vs,fps,h1,_⟩
 ·cases hv with
  |p v x hp=>cases hp
  |slB r i n b o sz cap len c hb hc hn=>rw[h1] at hb;cases hb
  |slE r i b o sz cap len p hb hp=>rw[h1] at hb;cases hb
  |slN r hb=>simp_all
  |slD r i n v hb=>rw[h1] at hb;cases hb
 ·cases hv with
  |p v x hp=>cases hp
  |slB r i n b' o' sz cap' len c hb hc hn hl=>grind
  |slE r i b' o' sz cap' len p hb hp=>grind
  |slN r hb=>rw[h1] at hb;cases hb
  |slD r i n v hb=>rw[h1] at hb;cases hb
def RR.pt_inv(h:RR n w0 S0 σ a w tag β){i off:Nat}(hr:cR (σ.row r))(hv:Rep w (Imm tag) w0.heap.size β v (.pt r i off)):
 ∃b o sz cap len,β r=some (.blk b o sz cap len)/\v=.pointer (some ⟨b,o+i*sz+off,none⟩):=by
 have hne:β r≠none:=by
  cases hx:σ.row r with
  |none=>rw[hx] at hr;exact hr.elim
  | some x => cases x with
    |var y=>obtain⟨b,o,v,e,_⟩:=h.var hx;simp[e]
    |arr k es=>rcases h.arr hx with⟨e,_⟩|⟨b,o,cap,_,_,e,_⟩<;>simp[e]
    |dead=>rw[hx] at hr;exact hr.elim
 cases hv with
 |p v x hp=>cases hp
 |ptB r i off b o sz cap len hb=>grind
 |ptD r i off v hb=>exact absurd hb hne
def Aw{P:Program}{k:IntKind}(h:oU P t k=true):P.underlying t=some (.int k):=by
 grind [oU]
def zA{S:Nat->Prop}{B:Nat}{p q:Int}(h:Rep w S B β v (.agg [.sc (.int .i64 p),.sc (.int .i64 q)])):v=.agg #[.int .i64 p,.int .i64 q]:=by
 obtain⟨vs,rfl,hs,h1,h2⟩:=h.agg_inv;have e0:=(h2 0 _ rfl).int_inv;have e1:=(h2 1 _ rfl).int_inv;congr 1;apply Array.ext
 ·simpa using hs
 ·intro i hi hj;simp only[A5,List.length_nil] at hs;have:i=0\/i=1:=by omega
  rcases this with rfl|rfl
  ·simp_all
  simp_all
section ops
variable{o:Oper}{K:AV->List (Nat×Row)->Prop}{d:Nat}(h:RR n w0 S0 σ a w tag β)(hod:o.dst=some d)(hd:d<n)
include h hod hd
def VW{op:BinOp}{u:Nat}{y:Operand}{neg:Bool}{y':X}(hop:o.op=.binOp op t x y u)(hm:bd P (.binOp op t x y u) (.beq neg x' y')=true)
 (hk:yA K neg (σ.gx x') (σ.gx y')):Snd P n w0 S0 σ o K a w:=by
 simp[bd] at hm;obtain⟨⟨⟨h1,h2⟩,h3⟩,h4⟩:=hm;have hx:=(h.gx h3).1;have hy:=(h.gx h4).1;unfold yA at hk;split at hk
 ·rename_i p q e1 e2;rw[e1] at hx;rw[e2] at hy;have hx:=hx.bool_inv;have hy:=hy.bool_inv;have hg:∀op,eqGuard op t x y (.bool p) (.bool q)=pure ():=by intro op;cases op<;>simp[eqGuard]<;>rfl
  subst h2;refine .val h hod hd ?_ hk (.bool_mk _) (cy _);have ht:=GE h1;have he:(Op.equal t (.bool p) (.bool q)).run P w=.ok (p==q) w:=by
   show(Op.equalIn (9999+1) t (.bool p) (.bool q)).run P w=_;unfold Op.equalIn;simp only[Sem.run_bind,run_underlying ht,Result.andThen_ok];rfl
  cases neg<;>simp_all [execOp,binOp]
 ·exact hk.elim
def Va{op:BinOp}{u:Nat}{y:Operand}{neg:Bool}{y':X}(hop:o.op=.binOp op t x y u)(hm:bd P (.binOp op t x y u) (.aeq neg x' y')=true)
 (hk:AU K neg (σ.gx x') (σ.gx y')):Snd P n w0 S0 σ o K a w:=by
 simp[bd] at hm;obtain⟨⟨⟨h1,h2⟩,h3⟩,h4⟩:=hm;have hx:=(h.gx h3).1;have hy:=(h.gx h4).1;unfold AU at hk;split at hk
 ·rename_i p q p' q' e1 e2;rw[e1] at hx;rw[e2] at hy;have hx:=zA hx;have hy:=zA hy;unfold isP2 at h1;split at h1
  ·rename_i fs ht;split at h1
   ·rename_i f g hfs;simp only[A2,Bool.not_eq_true',beq_iff_eq,decide_eq_false_iff_not] at h1;obtain⟨⟨⟨⟨⟨⟨⟨f0,g0⟩,fi⟩,gi⟩,fn⟩,gn⟩,hst⟩,hgd⟩:=h1;have hfs':fs=#[f,g]:=by rw[<-hfs]
    subst hfs';have ui:=Aw fi;have vi:=Aw gi;subst h2;refine .val h hod hd ?_ hk (.bool_mk _) (cy _);have hi:∀(d t':Nat)(a b:Int)(w:World),P.underlying t'=some (.int .i64)->(Op.equalIn (d+1) t' (.int .i64 a) (.int .i64 b)).run P w=.ok (a==b) w:=by
     intro d t' a b w hu;rw[Op.equalIn];simp only[Sem.run_bind,run_underlying hu,Result.andThen_ok,if_true];rfl
    have hp:∀(t' i:Nat)(xs:Array Value)(v:Value)(w:World),P.underlying t'=some (.int .i64)->xs[i]?=some v->(Go.part t' xs i).run P w=.ok v w:=by
     intro t' i xs v w hu hv;simp[Go.part,isAgg,run_underlying hu,hv]
    have key:∀d:Nat,(Op.equalIn (d+1+1) t (.agg #[.int .i64 p,.int .i64 q]) (.agg #[.int .i64 p',.int .i64 q'])).run P w=.ok (p==p'&&q==q') w:=by
     intro d;rw[Op.equalIn];simp only[Sem.run_bind,run_underlying ht,Result.andThen_ok];simp[hst,fn,gn,f0,g0,hi _ _ _ _ _ ui,hi _ _ _ _ _ vi,hp _ _ _ _ _ ui,hp _ _ _ _ _ vi]
     grind
    have he:(Op.equal t (.agg #[.int .i64 p,.int .i64 q]) (.agg #[.int .i64 p',.int .i64 q'])).run P w=.ok (p==p'&&q==q') w:=key 9998;have hg:∀op,(eqGuard op t x y (.agg #[.int .i64 p,.int .i64 q]) (.agg #[.int .i64 p',.int .i64 q'])).run P w=.ok () w:=by
     intro op;cases op<;>simp[eqGuard,hgd]<;>rfl
    cases neg<;>simp_all [execOp,binOp]
   ·cases h1
  ·cases h1
 ·exact hk.elim
def afa{op:UnOp}{op':UnOp}(hop:o.op=.unOp op t x)(hm:bd P (.unOp op t x) (.un op' x')=true)
 (hk:unV op' (σ.gx x') (k1 K)):Snd P n w0 S0 σ o K a w:=by
 simp[bd] at hm;obtain⟨rfl,h1⟩:=hm;have hx:=(h.gx h1).1;unfold unV at hk;split at hk
 ·rename_i k q e;rw[e] at hx;have hx:=hx.int_inv;exact la h hod hd (by simp[execOp,hop,hx,Op.unary,Op.intArith]) hk
 ·rename_i q e;rw[e] at hx;have hx:=hx.bool_inv;exact .val h hod hd (by simp[execOp,hop,hx,Op.unary]) hk (.bool_mk _) (cy _)
 ·exact hk.elim
def Pp{s:Nat}{k:IntKind}(hop:o.op=.convert s t x)(hm:bd P (.convert s t x) (.conv k x')=true)
 (hk:si K k (σ.gx x')):Snd P n w0 S0 σ o K a w:=by
 simp[bd] at hm;obtain⟨⟨h1,h2⟩,h3⟩:=hm;have hx:=(h.gx h3).1;have ht:P.underlying t=some (.int k):=by
  unfold oU at h1;split at h1
  ·rename_i q e;simp at h1;subst h1;exact e
  ·cases h1
 obtain⟨ds,hds⟩:=C0.1 h2;unfold si at hk;split at hk
 ·rename_i q m e;rw[e] at hx;have hx:=hx.int_inv;refine .val h hod hd ?_ hk (.int_mk _ _) (cy _)
  simp_all [Sem.run_bind,run_underlying,Result.andThen_ok,execOp,convert,Conv.intToInt]
 ·exact hk.elim
def WX{f:Nat}{first cs:Array Operand}{g:Nat}{ds:List X}(hop:o.op=.makeFunc (.func f) first cs)(hm:bd P (.makeFunc (.func f) first cs) (.mkf g ds)=true)
 (hk:K (.fn g (ds.map σ.gx)) []):Snd P n w0 S0 σ o K a w:=by
 simp[bd] at hm;obtain⟨⟨rfl,h1⟩,h2⟩:=hm;obtain⟨hl,hat⟩:=ey h2;subst h1;refine .val h hod hd (v:=.func (.func f) #[] (cs.map a.eval)) (by simp[execOp,hop,Instr.makeFunc]) hk (.fn _ _ _ (by simpa using hl) ?_) ?_
 ·intro j x hj;simp only[B9,B0] at hj;obtain⟨y,hy,rfl⟩:=hj;obtain⟨z,hz,hc⟩:=hat j y hy;have:(cs.map a.eval).getD j undef=a.eval z:=by
   have:=(A0.1 hz);obtain⟨hlt,he⟩:=this;simp at hlt he;simp[hlt,he]
  rw[this];exact(h.gx hc).1
 ·intro r hr;simp only[AV.ments] at hr;obtain⟨c,hc,hr⟩:=bE.1 hr;simp at hc;obtain⟨y,hy,rfl⟩:=hc;obtain⟨j,hj,rfl⟩:=A3 hy;obtain⟨z,hz,hc⟩:=hat j ds[j] (by simp[hj]);exact(h.gx hc).2 r hr
def EY{f off:Nat}(hop:o.op=.fieldAddr t x f)(hm:bd P (.fieldAddr t x f) (.fad off x')=true)
 (hk:mt K σ.row off (σ.gx x')):Snd P n w0 S0 σ o K a w:=by
 simp only[bd,A2] at hm;obtain⟨h1,h2⟩:=hm;split at h1
 ·rename_i fs hfs;split at h1
  ·rename_i g hg;simp at h1;obtain⟨h3,h4⟩:=h1;split at h4
   ·rename_i i hi;simp at h4;have hp:∀ad:Addr,(fieldPlace ad g).run P w=.ok (ad.add off) w:=by
     intro ad;simp[fieldPlace,Go.sizeOf,typeInfo,hi,h3,show i.size≠0 by omega]
    obtain⟨hr,hdm⟩:=h.gx h2;unfold mt at hk;split at hk
    ·rename_i f y o' e;rw[e] at hr;obtain⟨b,q,u,hv,hb,hva,hx⟩:=hr.bp_inv;refine .val h hod hd (v:=.pointer (some ⟨b,q+(o'+off),none⟩)) ?_ hk (.p _ _ (.bp _ b q (o'+off) u y hb hva hx)) (by simp[St.dom,AV.ments])
     simp_all [run_underlying,Addr.add_lit,C7,execOp,Instr.fieldAt,Instr.sureAddr]
    ·rename_i r i' o' e;rw[e] at hr hdm;obtain⟨b,q,sz,cap,len,hb,hv⟩:=h.pt_inv hk.1 hr;refine .val h hod hd (v:=.pointer (some ⟨b,q+i'*sz+(o'+off),none⟩)) ?_ hk.2 (.ptB r i' (o'+off) b q sz cap len hb) (by grind [St.dom,AV.ments])
     simp_all [run_underlying,Addr.add_lit,C7,execOp,Instr.fieldAt,Instr.sureAddr]
    ·exact hk.elim
   ·cases h4
  ·cases h1
 ·cases h1
end ops
end Vs

namespace Vs
open Go Go.RowKit
variable{P:Program}{n:Nat}{w0:World}{S0:Fx}{σ:St}{a:Act}{w:World}{tag:Nat->Tag}{β:Nat->Option Own}
variable{x':X}{x:Operand}{t:Nat}{c:Call}{k:Nat}{y z:X}
def aX.lst_inv{S:Nat->Prop}{B:Nat}{v:Value}{f:Fl}{xs:List AV}(h:aX w S B v (.lst f k xs) []):
 (∃ad cap,v=.slice ad 0 cap/\xs=[]/\((ad=none->cap=0)/\(f=.u->ad=none)))\/∃(b o cap:Nat)(vs:Nat->Value),v=.slice (some ⟨b,o,none⟩) xs.length cap/\xs.length<=cap/\f.ok S B b/\f≠.u/\
  (∀j x,xs[j]?=some x->(vs j).cells.size=k/\dz w b (o+j*k) (vs j))/\(∀j x,xs[j]?=some x->aX w S B (vs j) x []):=by
 have key:∀fp,aX w S B v (.lst f k xs) fp->fp=[]->(∃ad cap,v=.slice ad 0 cap/\xs=[]/\((ad=none->cap=0)/\(f=.u->ad=none)))\/∃(b o cap:Nat)(vs:Nat->Value),v=.slice (some ⟨b,o,none⟩) xs.length cap/\xs.length<=cap/\f.ok S B b/\f≠.u/\
  (∀j x,xs[j]?=some x->(vs j).cells.size=k/\dz w b (o+j*k) (vs j))/\(∀j x,xs[j]?=some x->aX w S B (vs j) x []):=by
  intro fp h hfp;cases h with
  |nil _ _ ad cap hn=>grind
  | lst f k b o len cap xs vs fps hl hc hf hu hv hx =>
    subst hl;simp only[List.append_eq_nil_iff] at hfp;refine .inr ⟨b,o,cap,vs,rfl,hc,hf,?_,hv,fun j x hj=>?_⟩
    ·simp_all
    grind [iB,List.getElem?_eq_some_iff]
 exact key _ h rfl
theorem jx{cs:List AV}(h:∀(j:Nat)(x:AV),cs[j]?=some x->x.ments=[]):aP cs=[]:=by
 apply B2.2;intro r hr;obtain⟨c,hc,hr⟩:=bE.1 hr;obtain⟨j,hj,rfl⟩:=A3 hc;have:=h j cs[j] (by simp[hj]);simp[this] at hr
def aX.ments_nil{S:Nat->Prop}{B:Nat}{v:Value}{x:AV}{fp:List Nat}(h:aX w S B v x fp):x.ments=[]:=by
 induction h with
 |top=>simp[AV.ments]
 |sc=>simp[AV.ments]
 |nil=>simp[AV.ments]
 |lst=>simp[AV.ments]
 |ub b=>simp[AV.ments]
 |bp=>simp[AV.ments]
 |agg vs cs fps hs h1 hx ih=>grind [jx,AV.ments]
 |tup vs cs fps hs hx ih=>grind [jx,AV.ments]
 |fn f vs cs fps hs hx ih=>grind [jx,AV.ments]
def vP{P:Program}(h:Kk P t=true):∃e,P.underlying t=some (.slice e):=by
 grind [Kk]
section ops
variable{o:Oper}{K:AV->List (Nat×Row)->Prop}{d:Nat}(h:RR n w0 S0 σ a w tag β)(hod:o.dst=some d)(hd:d<n)
include h hod hd
def EW{i:Operand}{i':X}(hop:o.op=.indexAddr t x i)(hm:bd P (.indexAddr t x i) (.idx k x' i')=true)
 (hk:ke K σ.row k (σ.gx x') (σ.gx i')):Snd P n w0 S0 σ o K a w:=by
 simp[bd] at hm;obtain⟨⟨h1,h2⟩,h3⟩:=hm;obtain⟨e,inf,he,hinf,hsz,hpos⟩:=dw h1;obtain⟨hx,hxd⟩:=h.gx h2;have hi:=(h.gx h3).1;unfold ke at hk;split at hk
 ·rename_i f w' xs q j e1 e2;rw[e1] at hx;rw[e2] at hi;have hi:=hi.int_inv;obtain⟨rfl,hj0,hko⟩:=hk;obtain⟨y,hy,hky⟩:=eK hko;rcases hx.lst_inv.lst_inv with⟨_,_,_,rfl,_⟩|⟨b,p,cap,vs,hv,hc,hf,hu,hva,hxx⟩
  ·simp at hy
  ·have hlt:j.toNat<xs.length:=(A0.1 hy).1;refine .val h hod hd (v:=.pointer (some ⟨b,(p+j.toNat*w')+0,none⟩)) ?_ hky (.p _ _ (.bp _ b (p+j.toNat*w') 0 (vs j.toNat) y hf.als (hva _ _ hy).2 (hxx _ _ hy))) (by simp[St.dom,AV.ments]);simp[execOp,hop,Instr.indexAt,hi,hv,asIntOf,run_underlying he,Go.sizeOf,typeInfo,hinf,hsz,hj0,show j<xs.length by omega,Addr.add_lit]
 ·rename_i r p m q j e1 e2;rw[e1] at hx hxd;rw[e2] at hi;have hi:=hi.int_inv;obtain⟨⟨es,hes⟩,hj0,hjm,hky⟩:=hk;rcases h.sl_inv hes hx with⟨_,_,rfl,_⟩|⟨b,o',cap,c,hb,hv,hic,hmc,_⟩|⟨_,_,_,_,_,_,rfl,_⟩
  ·omega
  ·have heq:o'+p*k+j.toNat*k=o'+(p+j.toNat)*k+0:=by rw[A9];omega
   refine .val h hod hd (v:=.pointer (some ⟨b,o'+(p+j.toNat)*k+0,none⟩)) ?_ hky (.ptB r (p+j.toNat) 0 b o' k cap _ hb) (by grind [St.dom,AV.ments]);rw[<-heq];simp[execOp,hop,Instr.indexAt,hi,hv,asIntOf,run_underlying he,Go.sizeOf,typeInfo,hinf,hsz,hj0,hjm,Addr.add_lit]
  ·omega
 ·exact hk.elim
def mX{ag:Bool}(hop:o.op=.load t x)(hm:bd P (.load t x) (.load k ag x')=true)
 (hk:eP K σ.row k ag (σ.gx x')):Snd P n w0 S0 σ o K a w:=by
 simp[bd] at hm;obtain⟨⟨h1,h2⟩,h3⟩:=hm;obtain⟨hx,hxd⟩:=h.gx h3;have fin:∀{b pos off:Nat}{v:Value}{y z:AV},a.eval x=.pointer (some ⟨b,pos+off,none⟩)->Rep w (Imm tag) w0.heap.size β v y->dz w b pos v->part y off k ag=some z->
  σ.dom y->K z []->Snd P n w0 S0 σ o K a w:=by
  intro b pos off v y z hv hr hva hp hdy hkz;obtain⟨v',hrun,hr',hm'⟩:=uz (P:=P) h1 h2 hr hva hp;refine .val h hod hd (v:=v') ?_ hkz hr' fun r hr=>hdy r (hm' r hr);simp[execOp,hop,hv,hrun]
 unfold eP at hk;split at hk
 ·rename_i y off e;rw[e] at hx;obtain⟨z,hz,hkz⟩:=eK hk;obtain⟨b,p,u,hv,hb,hva,hxx⟩:=hx.bp_inv;refine fin hv (.p _ _ hxx) hva hz ?_ hkz;intro r hr;rw[hxx.ments_nil] at hr;cases hr
 ·rename_i r i off e;rw[e] at hx hxd;unfold eT at hk;split at hk
  ·rename_i y hy;obtain⟨rfl,hko⟩:=hk;obtain⟨z,hz,hkz⟩:=eK hko;obtain⟨b,p,v,hb,_,hva,hr,hwd⟩:=h.var hy;obtain⟨b',o',sz',cap',len',hb',hv⟩:=h.pt_inv (by rw[hy];trivial) hx;rw[hb] at hb';cases hb';refine fin (pos:=p) (off:=off) (by rw[hv];simp) hr hva hz ?_ hkz;intro q hq;exact h.wfr r y hy q hq
  ·rename_i k' es hy;obtain⟨y,hy',hko⟩:=eK hk;obtain⟨z,hz,hkz⟩:=eK hko;rcases h.arr hy with⟨_,rfl⟩|⟨b,p,cap,vs,fps,hb,_,_,hva,hr,_⟩
   ·simp at hy'
   ·obtain⟨b',o',sz',cap',len',hb',hv⟩:=h.pt_inv (by rw[hy];trivial) hx;rw[hb] at hb';cases hb';refine fin hv (.p _ _ (hr i y hy').als) (hva i y hy').2 hz ?_ hkz;intro q hq;rw[(hr i y hy').als.ments_nil] at hq;cases hq
  ·exact hk.elim
 ·exact hk.elim
def PN{i:Operand}{i':X}(hop:o.op=.index t x i)(hm:bd P (.index t x i) (.stri x' i')=true)
 (hk:qT K (σ.gx x') (σ.gx i')):Snd P n w0 S0 σ o K a w:=by
 simp[bd] at hm;obtain⟨⟨h1,h2⟩,h3⟩:=hm;have hx:=(h.gx h2).1;have hi:=(h.gx h3).1;unfold qT at hk;split at hk
 ·rename_i s q j e1 e2;rw[e1] at hx;rw[e2] at hi;have hx:=hx.str_inv;have hi:=hi.int_inv;obtain⟨hj0,hko⟩:=hk;obtain⟨c,hc,hkc⟩:=eK hko;refine .val h hod hd ?_ hkc (.int_mk _ _) (cy _)
  simp_all [run_underlying,yp,execOp,Instr.index,asIntOf]
 ·exact hk.elim
def XE{j:Nat}{j':Nat}(hop:o.op=.extract x j)(hm:bd P (.extract x j) (.ext x' j')=true)
 (hk:Db K (σ.gx x') j'):Snd P n w0 S0 σ o K a w:=by
 simp[bd] at hm;obtain⟨h1,rfl⟩:=hm;obtain⟨hx,hxd⟩:=h.gx h1;unfold Db at hk;split at hk
 ·rename_i vs e;rw[e] at hx hxd;obtain⟨us,hv,hs,hat⟩:=hx.tup_inv;obtain⟨z,hz,hkz⟩:=eK hk;have hlt:j<vs.length:=(A0.1 hz).1;refine .val h hod hd (v:=us.getD j undef) ?_ hkz (hat j z hz) fun r hr=>hxd r (by grind [bF,AV.ments])
  simp_all [execOp,Instr.extract]
 ·exact hk.elim
def KL(hop:o.op=.nilCheck x)(hm:bd P (.nilCheck x) (.nilc x')=true)
 (hk:tN K σ.row (σ.gx x')):Snd P n w0 S0 σ o K a w:=by
 simp[bd] at hm;obtain⟨hx,hxd⟩:=h.gx hm;unfold tN at hk;split at hk
 ·rename_i y off e;rw[e] at hx hxd;obtain⟨b,p,u,hv,_⟩:=hx.bp_inv;exact .val h hod hd (v:=a.eval x) (by simp[execOp,hop,hv]) hk hx hxd
 ·rename_i r i off e;rw[e] at hx hxd;obtain⟨b,p,sz,cap,len,hb,hv⟩:=h.pt_inv hk.1 hx;exact .val h hod hd (v:=a.eval x) (by simp[execOp,hop,hv]) hk.2 hx hxd
 ·exact hk.elim
def EE(hop:o.op=.call c)(hm:bd P (.call c) (.len x')=true)
 (hk:lx K σ.row (σ.gx x')):Snd P n w0 S0 σ o K a w:=by
 simp only[bd,A2] at hm;obtain⟨⟨h1,h2⟩,h3⟩:=hm;have hcal:c.callee=.builtin .len:=by
  split at h1
  ·assumption
  ·cases h1
 obtain⟨hl,hat⟩:=ey h2;obtain⟨x,hx0,hxm⟩:=hat 0 x' rfl;have hargs:c.args=#[x]:=by
  have:c.args.toList=[x]:=by
   match hh:c.args.toList,hl,hx0 with
   |[y],_,h=>simp at h;rw[h]
  exact C2.1 (by simpa using this)
 split at h3
 ·rename_i t ht;obtain⟨e,he⟩:=vP h3;have hrun:∀(ad:Option Addr)(l cp:Nat),a.eval x=.slice ad l cp->(execOp a.eval o).run P w=.ok (.value (.int .i64 l)) w:=by
   intro ad l cp hv;simp[execOp,hop,resolve,hcal,hargs,hv,invoke,builtin,Builtin.len_,ht,run_underlying he,goInt]
  obtain⟨hx,hxd⟩:=h.gx hxm;unfold lx at hk;split at hk
  ·rename_i f k xs e';rw[e'] at hx;rcases hx.lst_inv.lst_inv with⟨_,_,hv,rfl,_⟩|⟨b,p,cap,vs,hv,_⟩
   ·exact .val h hod hd (hrun _ _ _ hv) hk (.int_mk _ _) (cy _)
   ·exact .val h hod hd (hrun _ _ _ hv) hk (.int_mk _ _) (cy _)
  ·rename_i f k xs e';rw[e'] at hx;generalize hy:AV.tg f k xs=y at hx;generalize hv:a.eval x=v at hx;cases hx with
   |p v x hp=>subst hy;cases hp
   | tg f k len ad xs hl hp =>
     cases hy;subst hl;exact .val h hod hd (hrun _ _ _ hv) hk (.int_mk _ _) (cy _)
   |_=>cases hy
  ·rename_i r i m e';rw[e'] at hx;obtain⟨⟨k,es,hes⟩,hk⟩:=hk;rcases h.sl_inv hes hx with⟨hv,_,rfl,_⟩|⟨b,o',cap,c',hb,hv,hic,hmc,_⟩|⟨_,_,_,_,_,hv,rfl,_⟩
   ·exact .val h hod hd (hrun _ _ _ hv) hk (.int_mk _ _) (cy _)
   ·exact .val h hod hd (hrun _ _ _ hv) hk (.int_mk _ _) (cy _)
   ·exact .val h hod hd (hrun _ _ _ hv) hk (.int_mk _ _) (cy _)
  ·exact hk.elim
 ·cases h3
def Pj(hop:o.op=.call c)(hm:bd P (.call c) (.lenz x')=true)
 (hk:sG K (σ.gx x')):Snd P n w0 S0 σ o K a w:=by
 simp only[bd,A2] at hm;obtain⟨⟨h1,h2⟩,h3⟩:=hm;have hcal:c.callee=.builtin .len:=by
  split at h1
  ·assumption
  ·cases h1
 obtain⟨hl,hat⟩:=ey h2;obtain⟨x,hx0,hxm⟩:=hat 0 x' rfl;have hargs:c.args=#[x]:=by
  have:c.args.toList=[x]:=by
   match hh:c.args.toList,hl,hx0 with
   |[y],_,h=>simp at h;rw[h]
  exact C2.1 (by simpa using this)
 split at h3
 ·rename_i t ht;obtain⟨hx,hxd⟩:=h.gx hxm;unfold sG at hk;split at hk
  ·rename_i s e';rw[e'] at hx;have hv:=hx.str_inv;refine .val h hod hd ?_ hk (.int_mk _ _) (cy _);simp[execOp,hop,resolve,hcal,hargs,hv,invoke,builtin,Builtin.len_,ht,run_underlying (yp h3),goInt]
  ·exact hk.elim
 ·cases h3
def Pm(hop:o.op=.call c)(hm:bd P (.call c) (.capn x')=true)
 (hk:qH K (σ.gx x')):Snd P n w0 S0 σ o K a w:=by
 simp only[bd,A2] at hm;obtain⟨⟨h1,h2⟩,h3⟩:=hm;have hcal:c.callee=.builtin .cap:=by
  split at h1
  ·assumption
  ·cases h1
 obtain⟨hl,hat⟩:=ey h2;obtain⟨x,hx0,hxm⟩:=hat 0 x' rfl;have hargs:c.args=#[x]:=by
  have:c.args.toList=[x]:=by
   match hh:c.args.toList,hl,hx0 with
   |[y],_,h=>simp at h;rw[h]
  exact C2.1 (by simpa using this)
 split at h3
 ·rename_i t ht;obtain⟨e,he⟩:=vP h3;obtain⟨hx,hxd⟩:=h.gx hxm;unfold qH at hk;split at hk
  ·rename_i k e';rw[e'] at hx;have key:∀v fp,aX w (Imm tag) w0.heap.size v (.lst .u k []) fp->fp=[]->v=.slice none 0 0:=by
    intro v fp hp hfp;cases hp with
    |nil _ _ ad cap hn=>simp_all
    |lst=>simp at hfp
   have hv:=key _ _ hx.lst_inv rfl;refine .val h hod hd (v:=.int .i64 0) ?_ hk (.int_mk _ _) (cy _);simp[execOp,hop,resolve,hcal,hargs,hv,invoke,builtin,Builtin.cap_,ht,run_underlying he,goInt]
  ·exact hk.elim
 ·cases h3
omit h hod hd in
def nI(h2:fI c.args.toList [y,z]=true):∃x1 x2,c.args=#[x1,x2]/\cF x1 y=true/\cF x2 z=true:=by
 obtain⟨hl,hat⟩:=ey h2;obtain⟨x1,hx1,hm1⟩:=hat 0 y rfl;obtain⟨x2,hx2,hm2⟩:=hat 1 z rfl
 grind
end ops
end Vs

namespace Vs
open Go Go.RowKit
variable{P:Program}{n:Nat}{w0:World}{S0:Fx}{σ:St}{a:Act}{w:World}{tag:Nat->Tag}{β:Nat->Option Own}
variable{k i:Nat}{es:List AV}{l hh t:Nat}{x:Operand}{lo hi mx:Option Operand}{x':X}
theorem jL(h:i+k<=es.length):(sub es i k).length=k:=by
 grind [sub]
def jC{j:Nat}{x:AV}(hj:(sub es i k)[j]?=some x):es[i+j]?=some x/\j<k:=by
 unfold sub at hj;split at hj
 ·rename_i e;have:=(A0.1 hj).1;obtain⟨rfl,rfl⟩:=e;exact⟨by simpa using hj,this⟩
 ·rw[D0] at hj;split at hj
  ·rw[B6] at hj;exact⟨hj,by assumption⟩
  ·cases hj
theorem nN:sub [] i k=[]:=by simp_all [sub]
def sub_zero:sub es i 0=[]:=by
 grind [List.eq_nil_of_length_eq_zero,sub]
theorem RR.bnd(h:RR n w0 S0 σ a w tag β){o:Option Operand}{x:Option X}(hm:eM o x=true)(hb:bOk (x.map σ.gx)):
 (o.map a.eval=none/\∀k,bV (x.map σ.gx) k=k)\/∃k j,o.map a.eval=some (.int k j)/\0<=j/\∀i,bV (x.map σ.gx) i=j.toNat:=by
 cases o with
 | none => cases x with
   |none=>exact .inl ⟨rfl,fun _=>rfl⟩
   |some x=>simp[eM] at hm
 | some o => cases x with
   |none=>simp[eM] at hm
   | some x =>
     simp only[eM] at hm;have hr:=(h.gx hm).1;simp only[B4] at hb⊢;unfold bOk at hb;split at hb
     ·rename_i e;cases e
     ·rename_i k j e;simp at e;rw[e] at hr⊢;exact .inr ⟨k,j,by rw[hr.int_inv],hb,fun _=>rfl⟩
     ·exact hb.elim
theorem ed{isSlice:Bool}{len cap:Nat}{lo hi:Option Value}(hl:(lo=none/\l=0)\/∃k j,lo=some (.int k j)/\0<=j/\l=j.toNat)
 (hh':(hi=none/\hh=len)\/∃k j,hi=some (.int k j)/\0<=j/\hh=j.toNat) (h1:l<=hh) (h2:hh<=cap):
 (Instr.sliceBounds isSlice len cap lo hi none).run P w=.ok (l,hh,cap) w:=by
 rcases hl with⟨rfl,rfl⟩|⟨k,j,rfl,hj,rfl⟩<;>rcases hh' with⟨rfl,rfl⟩|⟨k',j',rfl,hj',rfl⟩
 ·simp[Instr.sliceBounds]
 ·simp_all [run_sliceBound,Instr.sliceBounds]
 ·simp_all [run_sliceBound,Instr.sliceBounds]
 ·have hb:=fun c=>run_sliceBound (P:=P) w k j j'.toNat c hj (by omega)
  simp_all [run_sliceBound,Instr.sliceBounds]
def oK{len cap m:Nat}{lo hi:Option Value}{k'':IntKind}{j'':Int}(hl:(lo=none/\l=0)\/∃k j,lo=some (.int k j)/\0<=j/\l=j.toNat)
 (hh':∃k j,hi=some (.int k j)/\0<=j/\hh=j.toNat) (hm:0<=j''/\m=j''.toNat) (h1:l<=hh) (h2:hh<=m) (h3:m<=cap):
 (Instr.sliceBounds true len cap lo hi (some (.int k'' j''))).run P w=.ok (l,hh,m) w:=by
 obtain⟨k',j',rfl,hj',rfl⟩:=hh';obtain⟨hj'',rfl⟩:=hm;have hb2:=fun c=>run_sliceBound (P:=P) w k' j' j''.toNat c hj' (by omega);rcases hl with⟨rfl,rfl⟩|⟨k,j,rfl,hj,rfl⟩
 ·simp_all [run_sliceBound,Instr.sliceBounds]
 ·have hb:=fun c=>run_sliceBound (P:=P) w k j j'.toNat c hj (by omega)
  simp_all [run_sliceBound,Instr.sliceBounds]
theorem aX.sub{S:Nat->Prop}{B:Nat}{f:Fl}{b o m:Nat}{xs:List AV}{vs:Nat->Value}(hf:f.ok S B b)(hu:f≠.u)(hl:l<=hh)(hh':hh<=xs.length)(hm:hh<=m)
 (hv:∀j x,xs[j]?=some x->(vs j).cells.size=k/\dz w b (o+j*k) (vs j)) (hx:∀j x,xs[j]?=some x->aX w S B (vs j) x []) {ad:Addr} (had:ad=⟨b,o+l*k,none⟩\/(l=hh/\ad=⟨b,o,none⟩)):
 aX w S B (.slice (some ad) (hh-l) (m-l)) (.lst f k (Vs.sub xs l (hh-l))) []:=by
 have key:∀o',(∀j x,(Vs.sub xs l (hh-l))[j]?=some x->(vs (l+j)).cells.size=k/\dz w b (o'+j*k) (vs (l+j)))->
  aX w S B (.slice (some ⟨b,o',none⟩) (hh-l) (m-l)) (.lst f k (Vs.sub xs l (hh-l))) []:=by
  intro o' hv';have:=aX.lst (w:=w) (S:=S) (B:=B) f k b o' (hh-l) (m-l) (Vs.sub xs l (hh-l)) (fun j=>vs (l+j)) (fun _=>[]) (jL (by omega)) (by omega) hf (fun e=>absurd e hu) hv'
   (fun j x hj=>hx _ _ (jC hj).1)
  rw[bj _ _ fun _ _=>rfl,u6 hu] at this;exact this
 rcases had with rfl|⟨rfl,rfl⟩
 ·refine key _ fun j x hj=>?_;have:=hv _ _ (jC hj).1;refine⟨this.1,?_⟩;have e:o+(l+j)*k=o+l*k+j*k:=by rw[A9];omega
  rw[<-e];exact this.2
 ·refine key _ fun j x hj=>?_;have:=(jC hj).2;omega
section ops
variable{o:Oper}{K:AV->List (Nat×Row)->Prop}{d:Nat}(h:RR n w0 S0 σ a w tag β)(hod:o.dst=some d)(hd:d<n)
include h hod hd
def Ya{hi':X}(hop:o.op=.slice t x lo hi mx)(hm:bd P (.slice t x lo hi mx) (.slg k x' hi')=true)
 (hk:Dp K k (σ.gx x') (σ.gx hi')):Snd P n w0 S0 σ o K a w:=by
 simp only[bd,A2,Option.isNone_iff_eq_none] at hm;obtain⟨⟨⟨⟨h1,h2⟩,h3⟩,h4⟩,h5⟩:=hm;subst h3 h5;obtain⟨e,inf,he,hinf,hsz,hpos⟩:=dw h1;obtain⟨hx,hxd⟩:=h.gx h2;unfold Dp at hk;split at hk
 ·rename_i q kk hh e1 e2;rw[e1] at hx;obtain⟨rfl,rfl,hk⟩:=hk;have key:∀v fp,aX w (Imm tag) w0.heap.size v (.lst .u q []) fp->fp=[]->v=.slice none 0 0:=by
   intro v fp hp hfp;cases hp with
   |nil _ _ ad cap hn=>simp_all
   |lst=>simp at hfp
  have hv:=key _ _ hx.lst_inv rfl;have hhi:hi.map a.eval=some (.int kk 0):=by
   cases hi with
   |none=>simp[eM] at h4
   | some z =>
     simp only[eM] at h4;have:=(h.gx h4).1;rw[e2] at this;simp[this.int_inv]
  have hb:=ed (P:=P) (w:=w) (isSlice:=true) (len:=0) (cap:=0) (l:=0) (hh:=0) (lo:=none) (hi:=some (.int kk 0)) (.inl ⟨rfl,rfl⟩) (.inr ⟨kk,0,rfl,by omega,rfl⟩) (A6 0) (A6 0);have hrun:(execOp a.eval o).run P w=.ok (.value (.slice none 0 0)) w:=by
   simp[execOp,hop,Instr.sliceAt,Instr.slice,run_underlying he,hv,hhi,hb,Go.sizeOf,typeInfo,hinf,hsz]
  exact .val h hod hd hrun hk (.p _ _ (.nil0 _ _)) (by simp[St.dom,AV.ments])
 ·exact hk.elim
def UR{lo' hi' mx':Option X}(hop:o.op=.slice t x lo hi mx)(hm:bd P (.slice t x lo hi mx) (.slc k x' lo' hi' mx')=true)
 (hk:su K σ.row k (σ.gx x') (lo'.map σ.gx) (hi'.map σ.gx) (mx'.map σ.gx)):Snd P n w0 S0 σ o K a w:=by
 simp[bd] at hm;obtain⟨⟨⟨⟨h1,h2⟩,h3⟩,h4⟩,h5⟩:=hm;obtain⟨e,inf,he,hinf,hsz,hpos⟩:=dw h1;obtain⟨hx,hxd⟩:=h.gx h2;have hrun:∀ad len cap l hh m,a.eval x=.slice ad len cap->(Instr.sliceBounds true len cap (lo.map a.eval) (hi.map a.eval) (mx.map a.eval)).run P w=.ok (l,hh,m) w->
  (execOp a.eval o).run P w=.ok (.value (.slice (if m=l then ad else ad.map (·.add (l*k))) (hh-l) (m-l))) w:=by
  intro ad len cap l hh m hv hb;simp[execOp,hop,Instr.sliceAt,Instr.slice,run_underlying he,hv,hb,Go.sizeOf,typeInfo,hinf,hsz]
 have hl:bOk (lo'.map σ.gx)->(lo.map a.eval=none/\bV (lo'.map σ.gx) 0=0)\/∃k j,lo.map a.eval=some (.int k j)/\0<=j/\bV (lo'.map σ.gx) 0=j.toNat:=fun hb1=>
  (h.bnd h3 hb1).imp (fun e=>⟨e.1,e.2 0⟩) (fun⟨k,j,e1,e2,e3⟩=>⟨k,j,e1,e2,e3 0⟩)
 have hh:∀len,bOk (hi'.map σ.gx)->(hi.map a.eval=none/\bV (hi'.map σ.gx) len=len)\/∃k j,hi.map a.eval=some (.int k j)/\0<=j/\bV (hi'.map σ.gx) len=j.toNat:=fun len hb2=>
  (h.bnd h4 hb2).imp (fun e=>⟨e.1,e.2 _⟩) (fun⟨k,j,e1,e2,e3⟩=>⟨k,j,e1,e2,e3 _⟩)
 unfold su at hk;split at hk
 ·rename_i f w' xs e1;rw[e1] at hx hxd;obtain⟨rfl,hb1,hb2,hle,hle2,hk⟩:=hk;have hl:=hl hb1;have hh:=hh xs.length hb2;generalize bV (lo'.map σ.gx) 0=l at*
  generalize bV (hi'.map σ.gx) xs.length=u at*
  cases hmx:mx' with
  | none =>
    rw[hmx] at hk h5;have hmn:mx=none:=by cases mx with|none=>rfl|some y=>simp[eM] at h5
    subst hmn;rcases hx.lst_inv.lst_inv with⟨ad,cap,hv,rfl,had⟩|⟨b,p,cap,vs,hv,hc,hf,hu,hva,hxx⟩
    ·have hu0:u=0:=by simpa using hle2
     subst hu0;have hl0:l=0:=by omega
     subst hl0;have:=hrun ad 0 cap 0 0 cap hv (by simpa using ed (P:=P) (w:=w) (isSlice:=true) hl hh hle (E0 cap));refine .val h hod hd this hk (.p _ _ ?_) (by simp[St.dom,AV.ments]);rw[nN];refine .nil _ _ _ _ ⟨fun e=>?_,fun e=>by simp[had.2 e]⟩
     have : ad = none := by split at e; · exact e
                            ·simpa using e
     simpa using had.1 this
    ·have:=hrun _ _ _ l u cap hv (by grind [ed]);refine .val h hod hd (v:=.slice (some (if cap=l then⟨b,p,none⟩ else⟨b,p+l*w',none⟩)) (u-l) (cap-l)) ?_ hk (.p _ _ ?_) (by simp[St.dom,AV.ments])
     ·grind [Addr.add_lit]
     ·refine aX.sub hf hu hle hle2 (by omega) hva hxx ?_
      grind
  | some mm =>
    rw[hmx] at hk h5;obtain⟨his,hb3,hmu,hk⟩:=hk;cases hmo:mx with
    |none=>simp_all [eM]
    | some om =>
      rw[hmo] at h5;simp only[eM] at h5;have hmr:=(h.gx h5).1;have⟨q,jj,hq,hj0,hju⟩:∃q jj,a.eval om=.int q jj/\0<=jj/\jj.toNat=u:=by
       unfold bOk at hb3;split at hb3
       ·rename_i e;cases e
       ·rename_i q jj e;simp at e;rw[e] at hmr;refine⟨q,jj,hmr.int_inv,hb3,?_⟩;simpa[e,bV] using hmu
       ·exact hb3.elim
      have hbd:∀cap,xs.length<=cap->(Instr.sliceBounds true xs.length cap (lo.map a.eval) (hi.map a.eval) (mx.map a.eval)).run P w=.ok (l,u,u) w:=by
       intro cap hcap;rw[hmo];simp only[B4,hq];rcases hh with⟨e,_⟩|hh
       ·exfalso;cases hi with
        |some y=>simp at e
        |none=>grind [eM]
       ·exact oK hl hh ⟨hj0,hju.symm⟩ hle (A6 _) (by omega)
      rcases hx.lst_inv.lst_inv with⟨ad,cap,hv,rfl,had⟩|⟨b,p,cap,vs,hv,hc,hf,hu,hva,hxx⟩
      ·have hu0:u=0:=by simpa using hle2
       subst hu0;have hl0:l=0:=by omega
       subst hl0;have:=hrun ad 0 cap 0 0 0 hv (by simp_all);simp only[if_true,Nat.sub_self] at this;refine .val h hod hd this hk (.tg f w' 0 ad _ (by simp[nN]) ?_) (by simp[St.dom,AV.ments]);rw[nN];exact .nil _ _ _ _ ⟨fun _=>rfl,had.2⟩
      ·have:=hrun _ _ _ l u u hv (hbd cap hc);refine .val h hod hd (v:=.slice (some (if u=l then⟨b,p,none⟩ else⟨b,p+l*w',none⟩)) (u-l) (u-l)) ?_ hk (.tg f w' (u-l) _ _ (jL (by omega)).symm ?_) (by simp[St.dom,AV.ments])
       ·grind [Addr.add_lit]
       ·refine aX.sub hf hu hle hle2 (A6 _) hva hxx ?_
        grind
 ·rename_i r i m e1;rw[e1] at hx hxd;obtain⟨⟨es,hes⟩,hb1,hb2,hle,hle2,hmn,hk⟩:=hk;have hmn:mx=none:=by
   cases mx' with
   |some y=>simp at hmn
   |none=>grind [eM]
  subst hmn;have hl:=hl hb1;have hh:=hh m hb2;generalize bV (lo'.map σ.gx) 0=l at*
  generalize bV (hi'.map σ.gx) m=u at*
  have hdm:σ.dom (.sl r (i+l) (u-l)):=by simpa[St.dom,AV.ments] using hxd
  rcases h.sl_inv hes hx with⟨hv,rfl,rfl,rfl,hb⟩|⟨b,p,cap,c,hb,hv,hic,hmc,hlm⟩|⟨b,p,cap,q,hb,hv,rfl,hq⟩
  ·have hu0:u=0:=by omega
   subst hu0;have hl0:l=0:=by omega
   subst hl0;have:=hrun none 0 0 0 0 0 hv (by simpa using ed (P:=P) (w:=w) (isSlice:=true) hl hh hle (A6 0));simp at this;exact .val h hod hd this hk (.slN r hb) hdm
  ·have:=hrun _ _ _ l u c hv (by grind [ed]);by_cases hcl:c=l
   ·have hul:u-l=0:=by omega
    have hcc:c-l=0:=by omega
    rw[u7 hcl,hul,hcc] at this;rw[hul] at hk hdm;refine .val h hod hd this hk (.slE r (i+l) b p k cap _ (p+i*k) hb ?_) hdm;have:=B3 k (show i<=cap by omega);omega
   ·rw[u6 hcl] at this;simp only[B4,Addr.add_lit] at this;have e:p+i*k+l*k=p+(i+l)*k:=by rw[A9];omega
    rw[e] at this;exact .val h hod hd this hk (.slB r (i+l) (u-l) b p k cap _ (c-l) hb (by omega) (by omega) (by omega)) hdm
  ·have hu0:u=0:=by omega
   subst hu0;have hl0:l=0:=by omega
   subst hl0;have:=hrun _ _ _ 0 0 0 hv (by simpa using ed (P:=P) (w:=w) (isSlice:=true) hl hh hle (A6 0));simp at this;exact .val h hod hd this hk (.slE r i b p k cap _ q hb hq) (by simpa using hdm)
 ·exact hk.elim
end ops
end Vs

namespace Vs
open Go Go.RowKit
variable{P:Program}{n:Nat}{w0:World}{S0:Fx}{σ:St}{a:Act}{w:World}{tag:Nat->Tag}{β:Nat->Option Own}
variable{x:AV}{cs:List AV}{off:Nat}{S:Nat->Prop}{B:Nat}
def ww(w:World)(S:Nat->Prop)(B:Nat)(β:Nat->Option Own)(vs:Array Value)(cs:List AV):Prop:=
 vs.size=cs.length/\(∀x∈vs,x.oneCell'=true)/\∀(j:Nat)(x:AV),cs[j]?=some x->Rep w S B β (vs.getD j undef) x
def ww.of{v:Value}(h:Rep w S B β v x)(hw:0<x.width):ww w S B β v.cells x.cells:=by
 obtain⟨h1,h2⟩:=h.width hw;cases hx:x.isAgg with
 | true =>
   cases x<;>simp[AV.isAgg] at hx;obtain⟨vs,rfl,h3,h4,h5⟩:=h.agg_inv;exact⟨h3,h4,h5⟩
 | false =>
   have h3:x.width=1:=by cases x<;>simp_all [AV.width,AV.isAgg]
   have hc:x.cells=[x]:=by cases x<;>simp_all [AV.width,AV.isAgg,AV.cells]
   obtain⟨h4,h5⟩:=h.one hx h3;rw[h4,hc];refine⟨rfl,by simpa using h5,fun j y hj=>?_⟩;cases j with
   |zero=>simp at hj;subst hj;simpa using h
   |succ j=>simp at hj
theorem fq(off:Nat):∀(l:List (Value×Nat))(cs:Array Value),(l.foldl (fun cs(p:Value×Nat)=>cs.setIfInBounds (off+p.2) p.1) cs).size=cs.size
 |[],cs=>rfl
 |p::l,cs=>by simp only[D6];rw[fq off l];simp
theorem fO(off j:Nat):∀(l:List Value)(i:Nat)(cs:Array Value),off+i+l.length<=cs.size->
 ((l.zipIdx i).foldl (fun cs (p : Value × Nat) => cs.setIfInBounds (off + p.2) p.1) cs).getD j undef =
   if off+i<=j/\j<off+i+l.length then l.getD (j-(off+i)) undef else cs.getD j undef
 |[],i,cs,_=>by simp;intro;omega
 | v :: l, i, cs, hle => by
   simp only[List.zipIdx_cons,D6];simp only[A5] at hle;rw[fO off j l (i+1) _ (by simp;omega)];rw[yJ _ _ _ _ _ (by omega)];by_cases h1:j=off+i
   ·subst h1;rw[u6 (by omega),u7 rfl,u7 (by simp only[A5];omega)];simp
   ·rw[u6 h1];by_cases h2:off+(i+1)<=j/\j<off+(i+1)+l.length
    ·rw[u7 h2,u7 (by simp only[A5];omega)];have:j-(off+i)=(j-(off+(i+1)))+1:=by omega
     rw[this];simp
    ·rw[u6 h2,u6 (by simp only[A5];omega)]
theorem kI(h:off+x.cells.length<=cs.length):(Vs.fill cs off x).length=cs.length:=by simp[Vs.fill];omega
def EU{j:Nat}(h:off+x.cells.length<=cs.length):(Vs.fill cs off x)[j]?=if off<=j/\j<off+x.cells.length then x.cells[j-off]? else cs[j]?:=by
 unfold Vs.fill;by_cases h1:j<off
 ·rw[u6 (by omega),D4,B8 (by simp;omega)];simp[h1]
 ·by_cases h2:j<off+x.cells.length
  ·rw[u7 ⟨by omega,h2⟩,D4,B7 (by simp;omega),B8 (by simp;omega)];congr 1;simp;omega
  ·rw[u6 (by omega),B7 (by simp;omega),B6];congr 1;simp;omega
def sI:∀r∈aP (Vs.fill cs off x),r∈aP cs\/r∈x.ments:=by
 intro r hr;obtain⟨c,hc,hq⟩:=bE.1 hr;clear hr;unfold Vs.fill at hc;simp only[List.mem_append] at hc;rcases hc with(hc|hc)|hc
 ·exact .inl (bE.2 ⟨c,C5 hc,hq⟩)
 ·right;cases x with
  |agg ds=>simp only[AV.cells] at hc;simp only[AV.ments];exact bE.2 ⟨c,hc,hq⟩
  |top=>simp[AV.cells] at hc
  |tup ds=>simp[AV.cells] at hc
  |_=>simp[AV.cells] at hc;subst hc;exact hq
 ·exact .inl (bE.2 ⟨c,C4 hc,hq⟩)
def fL:x.cells.length=x.width:=by cases x<;>rfl
def ww.fill{vs:Array Value}{v:Value}(h:ww w S B β vs cs)(hr:Rep w S B β v x)(hw:0<x.width)(hle:off+x.width<=cs.length):
 ww w S B β (v.cells.zipIdx.foldl (fun cs(p:Value×Nat)=>cs.setIfInBounds (off+p.2) p.1) vs) (Vs.fill cs off x):=by
 obtain⟨h1,h2,h3⟩:=h;obtain⟨g1,g2,g3⟩:=ww.of hr hw;have hlen:v.cells.toList.length=x.width:=by rw[<-fL];simpa using g1
 have e:v.cells.zipIdx.foldl (fun cs(p:Value×Nat)=>cs.setIfInBounds (off+p.2) p.1) vs=(v.cells.toList.zipIdx 0).foldl (fun cs(p:Value×Nat)=>cs.setIfInBounds (off+p.2) p.1) vs:=by
  rw[<-D3];simp
 rw[e];have hsz:=fq off (v.cells.toList.zipIdx 0) vs;have hcl:off+x.cells.length<=cs.length:=by rw[fL];exact hle
 have hget:=fun j=>fO off j v.cells.toList 0 vs (by omega);generalize (v.cells.toList.zipIdx 0).foldl (fun cs(p:Value×Nat)=>cs.setIfInBounds (off+p.2) p.1) vs=us at*
 refine⟨by rw[hsz,h1,kI hcl],?_,?_⟩
 ·intro y hy;obtain⟨j,hj,rfl⟩:=C3.1 hy;have:=hget j;have e1:us.getD j undef=us[j]:=by simp[hj]
  rw[e1] at this;rw[this];split
  ·rename_i hh
   have hlt : j - (off + 0) < v.cells.size := by have : v.cells.toList.length = v.cells.size := by simp
                                                 omega
   apply g2;have:v.cells.toList.getD (j-(off+0)) undef=v.cells[j-(off+0)]:=by
    rw[List.getD_eq_getElem?_getD,Array.getElem?_toList,A1 hlt];rfl
   rw[this];exact D5 _
  ·apply h2;have hlt:j<vs.size:=by omega
   have:vs.getD j undef=vs[j]:=by simp[hlt]
   rw[this];exact D5 _
 ·intro j y hj;rw[EU hcl] at hj;rw[hget j];have hl2:v.cells.toList.length=x.cells.length:=by rw[fL];exact hlen
  split at hj
  ·rename_i hh;rw[u7 (by omega)];have:=g3 (j-off) y hj;simpa[List.getD,Array.getD_eq_getD_getElem?] using this
  ·rename_i hh;rw[u6 (by omega)];exact h3 j y hj
theorem oW{P:Program}{w:World}:∀(fs:List Field)(k:Field->Nat),(∀f∈fs,(Go.sizeOf f.type).run P w=.ok (k f) w)->
 (fs.mapM (m:=Sem) fun f=>do pure (f.offset,<-Go.sizeOf f.type)).run P w=.ok (fs.map fun f=>(f.offset,k f)) w
 |[],k,_=>by simp
 | f :: fs, k, h => by
   have ih:=oW fs k fun g hg=>h g (by simp[hg]);simp only[bind_pure_comp] at ih;simp[List.mapM_cons,h f (by simp),ih]
theorem xw{P:Program}{t:Nat}{fs:Array Field}(hfs:P.underlying t=some (.struct fs)){g:X->AV}{ev:Operand->Value}{pl:Nat->Option (Nat×Nat)}
 (hpl:∀f off k,qe P t f off k=true->pl f=some (off,k)) (hev:∀x y,cF x y=true->Rep w S B β (ev x) (g y)):
 ∀ (ps : List (Nat × Operand)) (qs : List (Nat × Nat × X)) (vs : Array Value) (cs : List AV), gJ P t ps qs = true → ww w S B β vs cs →
   (∀p∈qs,(g p.2.2).width=p.2.1/\p.1+p.2.1<=cs.length)->
   ∃us,Instr.fill pl vs (ps.map fun(i,x)=>(i,ev x))=some us/\ww w S B β us (lM cs (qs.map fun p=>(p.1,g p.2.2)))
 |[],[],vs,cs,_,hc,_=>⟨vs,rfl,hc⟩
 | (f, x) :: ps, (off, k, y) :: qs, vs, cs, hm, hc, hw => by
   simp[gJ] at hm;obtain⟨⟨h1,h2⟩,h3⟩:=hm;have hpf:=hpl f off k h1;have hpos:0<k:=by
    unfold qe at h1;rw[hfs] at h1;simp only at h1;split at h1
    ·simp at h1;exact h1.2
    ·cases h1
   obtain⟨hwy,hle⟩:=hw (off,k,y) (by simp);simp only at hwy hle;have hr:=hev x y h2;have hsz:(ev x).cells.size=k:=by rw[(hr.width (by omega)).1,hwy]
   have hc':=hc.fill hr (by omega) (by omega:off+(g y).width<=cs.length);obtain⟨us,hu,hcu⟩:=xw hfs hpl hev ps qs _ _ h3 hc' (fun p hp=>by
    have:=hw p (by simp[hp]);rw[kI (by rw[fL];omega)];exact this)
   refine⟨us,?_,hcu⟩;simp only[C8,Instr.fill,hpf];rw[u6]
   ·exact hu
   ·have:=hc.1;simp[hsz];omega
 |[],_::_,_,_,hm,_,_=>by simp[gJ] at hm
 |_::_,[],_,_,hm,_,_=>by simp[gJ] at hm
theorem pd{g:X->AV}:∀(qs:List (Nat×Nat×X))(cs:List AV),∀r∈aP (lM cs (qs.map fun p=>(p.1,g p.2.2))),r∈aP cs\/∃p∈qs,r∈(g p.2.2).ments
 |[],cs,r,hr=>.inl hr
 | q :: qs, cs, r, hr => by
   simp only[C8,lM] at hr;rcases pd qs _ r hr with h|⟨p,hp,h⟩
   ·rcases sI r h with h|h
    ·exact .inl h
    ·exact .inr ⟨q,by simp,h⟩
   ·exact .inr ⟨p,by simp[hp],h⟩
section ops
variable{o:Oper}{K:AV->List (Nat×Row)->Prop}{d:Nat}(h:RR n w0 S0 σ a w tag β)(hod:o.dst=some d)(hd:d<n)
include h hod hd
def Jz{t:Nat}{ps:Array (Nat×Operand)}{z:List AV}{qs:List (Nat×Nat×X)}(hop:o.op=.build t ps)(hm:bd P (.build t ps) (.build z qs)=true)
 (hw:∀p∈qs,(σ.gx p.2.2).width=p.2.1/\p.1+p.2.1<=z.length) (hk:K (.agg (lM z (qs.map fun p=>(p.1,σ.gx p.2.2)))) []):Snd P n w0 S0 σ o K a w:=by
 simp only[bd,A2] at hm;obtain⟨⟨h1,h2⟩,h3⟩:=hm;unfold oS at h2;split at h2
 ·rename_i fs hfs;unfold km at h1;split at h1
  ·rename_i inf hinf;split at h1
   ·rename_i zv hzv;have hz:=ea h1 w (Imm tag) w0.heap.size;obtain⟨zs,rfl,z1,z2,z3⟩:=hz.1.agg_inv;have hall:∀f∈fs.toList,∃i,P.info? f.type=some i:=by
     intro f hf;simp only[Array.all_eq_true] at h2;obtain⟨j,hj,rfl⟩:=A3 hf;have:=h2 j (by simpa using hj);exact C0.1 (by simpa using this)
    have hplaces:=oW (P:=P) (w:=w) fs.toList (fun f=>((P.info? f.type).map (·.size)).getD 0) (fun f hf=>by
     obtain⟨i,hi⟩:=hall f hf;simp[Go.sizeOf,typeInfo,hi])
    obtain⟨us,hu,hcu⟩:=xw (P:=P) hfs (S:=Imm tag) (B:=w0.heap.size) (β:=β) (w:=w) (g:=σ.gx) (ev:=a.eval)
     (pl:=fun i=>(fs.map fun f=>(f.offset,((P.info? f.type).map (·.size)).getD 0))[i]?)
     (fun f off k hf=>by
      unfold qe at hf;rw[hfs] at hf;simp only at hf;split at hf
      ·rename_i g hg;simp[ly] at hf;obtain⟨⟨e1,i,e2,e3⟩,_⟩:=hf;simp[hg,e1,e2,e3]
      ·cases hf)
     (fun x y hxy=>(h.gx hxy).1) ps.toList qs zs z h3 ⟨z1,z2,fun j x hj=>.p _ _ (z3 j x hj)⟩ hw
    refine .val h hod hd (v:=.agg us) ?_ hk (.agg us _ hcu.1 hcu.2.1 hcu.2.2) ?_
    ·have hmm:(fs.mapM (m:=Sem) fun f=>do pure (f.offset,<-Go.sizeOf f.type)).run P w=.ok (fs.map fun f=>(f.offset,((P.info? f.type).map (·.size)).getD 0)) w:=by
      rw[Array.mapM_eq_mapM_toList];simp only[Sem.run_map,hplaces,Result.andThen_ok];rw[<-Array.toList_map,Array.toArray_toList]
     simp only[bind_pure_comp] at hmm;have hu':Instr.fill (fun x=>Option.map (fun f:Field=>(f.offset,((P.info? f.type).map (·.size)).getD 0)) fs[x]?) zs (ps.toList.map (fun x=>(x.fst,a.eval x.snd)))=some us:=by
      rw[<-hu];simp
     simp[execOp,hop,Instr.build,zeroValue,typeInfo,hinf,hzv,run_underlying hfs,hmm,Value.cells,hu']
    ·intro r hr;simp only[AV.ments] at hr;rcases pd qs z r hr with hr|⟨p,hp,hr⟩
     ·have:=hz.2.2.2;simp only[AV.ments] at this;rw[this] at hr;cases hr
     ·have key:∀(ps:List (Nat×Operand))(qs:List (Nat×Nat×X)),gJ P t ps qs=true->∀p∈qs,σ.dom (σ.gx p.2.2):=by
       intro ps;induction ps with
       | nil => intro qs hm p hp; cases qs with
         |nil=>simp at hp
         |cons=>simp[gJ] at hm
       | cons q ps ih => intro qs hm p hp; cases qs with
         |nil=>simp at hp
         | cons r qs =>
           obtain⟨f,x⟩:=q;obtain⟨off,k,y⟩:=r;simp[gJ] at hm;simp only[D9] at hp;rcases hp with rfl|hp
           ·exact(h.gx hm.1.2).2
           ·exact ih qs hm.2 p hp
      exact key _ _ h3 p hp r hr
   ·cases h1
  ·cases h1
 ·cases h2
end ops
end Vs

namespace Vs
open Go Go.RowKit
variable{P:Program}{n:Nat}{w0:World}{S0:Fx}{σ:St}{a:Act}{w w':World}{tag tag':Nat->Tag}{β β':Nat->Option Own}
variable{c:Array Value}{ty:TypeId}{v:Value}{t:Nat}
def RR.change(h:RR n w0 S0 σ a w tag β){rows':List (Nat×Row)}(hbelow:Below w0.heap.size w w')
 (himm:∀b,Imm tag b->Imm tag' b/\w'.heap[b]?=w.heap[b]?) (hlt:∀b,tag' b≠.out->b<w'.heap.size)
 (hkeep:∀b,b<w.heap.size->tag b=.imm\/tag b=.out->tag' b=tag b/\w'.heap[b]?=w.heap[b]?)
 (hbk:∀r,1000000000<=r->cR (aB r rows')->cR (aB r σ.rows)/\β' r=β r)
 (hβ:∀r,(aB r σ.rows).isSome->β' r=β r\/β' r=none) (hdom:∀r,(aB r σ.rows).isSome->(aB r rows').isSome)
 (hrows:∀r,cJ w' tag' w0.heap.size β' r (aB r rows')) (hwf:∀r x,aB r rows'=some (.var x)->∀q∈x.ments,(aB q rows').isSome):
 RR n w0 S0 ⟨σ.env,rows'⟩ a w' tag' β' where
 nn:=h.nn
 frm:=h.frm.trans (hbelow.mono (E0 _))
 keep:=fun b hb ht=>by
  obtain⟨h1,h2⟩:=h.keep b hb ht
  grind
 kimm:=fun b hb=>by
  obtain⟨h1,h2⟩:=h.kimm b hb
  simp_all
 bk:=fun r hr hl=>by
  obtain⟨h1,h2⟩:=hbk r hr hl;exact h2.trans (h.bk r hr h1)
 below:=h.below.trans hbelow
 sz:=h.sz
 nodef:=h.nodef
 s0lt:=h.s0lt
 lt:=hlt
 old:=fun b hb=>by
  have:=h.old b hb;rw[(hkeep b (C9 hb h.below.size) this.2).1];exact this
 env:=fun k x hk=>by
  obtain⟨h1,h2⟩:=h.env k x hk;exact⟨h1.mono himm fun r hr=>hβ r (h2 r hr),fun r hr=>hdom r (h2 r hr)⟩
 rows:=hrows
 wfr:=hwf
def cJ.mono{B r:Nat}{row:Option Row}(h:cJ w tag B β r row)(himm:∀b,Imm tag b->Imm tag' b/\w'.heap[b]?=w.heap[b]?)
 (hown:∀b,tag b=.own r->tag' b=.own r/\w'.heap[b]?=w.heap[b]?) (huq:∀b,tag b=.uq r->tag' b=.uq r) (hr:β' r=β r)
 (hβ:∀x,row=some (.var x)->∀q∈x.ments,β' q=β q\/β' q=none):cJ w' tag' B β' r row:=by
 cases row with
 |none=>exact hr.trans h
 | some row => cases row with
   |dead=>exact hr.trans h
   | var x =>
     obtain⟨b,o,v,h1,⟨h2,h3,h4⟩,h5,h6,h7⟩:=h;exact⟨b,o,v,hr.trans h1,⟨(hown b h2).1,h3,h4.mono (hown b h2).2⟩,h5.mono (hown b h2).2,h6.mono himm (hβ x rfl),h7⟩
   | arr k es =>
     rcases h with⟨h1,h2⟩|⟨b,o,cap,vs,fps,h1,⟨h2,h3,h4⟩,h5,h6,h7,h8,h9⟩
     ·exact .inl ⟨hr.trans h1,h2⟩
     ·exact .inr ⟨b,o,cap,vs,fps,hr.trans h1,⟨(hown b h2).1,h3,h4.mono (hown b h2).2⟩,h5,fun j x hj=>⟨(h6 j x hj).1,(h6 j x hj).2.mono (hown b h2).2⟩,
       fun j x hj=>(h7 j x hj).mono himm,h8,fun c hc=>huq c (h9 c hc)⟩
def RR.fresh(h:RR n w0 S0 σ a w tag β){d:Nat}(hd:d<n)(hnone:σ.row d=none){own:Own}{row:Row}{x:AV}
 (hrow:cJ (w.alloc (.cells c ty)) (fun b=>if b=w.heap.size then .own d else tag b) w0.heap.size (fun r=>if r=d then some own else β r) d (some row))
 (hwf:∀y,row=.var y->∀q∈y.ments,(aB q σ.rows).isSome)
 (hv:Rep (w.alloc (.cells c ty)) (Imm fun b=>if b=w.heap.size then .own d else tag b) w0.heap.size (fun r=>if r=d then some own else β r) v x) (hx:∀r∈x.ments,r=d\/(aB r σ.rows).isSome):
 RR n w0 S0 (σ.app (some d) x [(d,row)]) (a.put (some d) v) (w.alloc (.cells c ty)) (fun b=>if b=w.heap.size then .own d else tag b) (fun r=>if r=d then some own else β r):=by
 have hB:w0.heap.size<=w.heap.size:=h.below.size;have himm:∀b,Imm tag b->Imm (fun b=>if b=w.heap.size then Tag.own d else tag b) b/\(w.alloc (.cells c ty)).heap[b]?=w.heap[b]?:=by
  intro b hb;have hlt:b<w.heap.size:=h.lt b (by rcases hb with e|⟨r,e⟩<;>simp[e]);refine⟨?_,Below.heap_alloc _ _ _ hlt⟩;unfold Imm at hb⊢;simp only[if_neg (show b≠w.heap.size by omega)];exact hb
 have hout:tag w.heap.size=.out:=by
  cases ht:tag w.heap.size with
  |out=>rfl
  |_=>have:=h.lt w.heap.size (by simp[ht]);omega
 have hdn:aB d σ.rows=none:=hnone;have hc:=h.change (w':=w.alloc (.cells c ty)) (tag':=fun b=>if b=w.heap.size then .own d else tag b) (β':=fun r=>if r=d then some own else β r) (rows':=put d row σ.rows)
  ((Below.refl _ _).alloc hB _) himm
  (fun b hb=>by
   split at hb
   ·subst b;simp
   ·have:=h.lt b hb;simp;omega)
  (fun b hb _=>⟨u6 (by omega),Below.heap_alloc _ _ _ hb⟩)
  (fun r hr hl=>by
   have hn:=h.nn;have hne:r≠d:=by omega
   rw[aQ,u6 hne] at hl;exact⟨hl,u6 hne⟩)
  (fun r hr=>by
   left;rw[u6];rintro rfl;rw[hdn] at hr;cases hr)
  (fun r hr=>by rw[aQ];split<;>simp[hr])
  (fun r=>by
   rw[aQ];split
   ·rename_i e;subst e;exact hrow
   ·rename_i hne;refine(h.rows r).mono himm (fun b hb=>?_) (fun b hb=>?_) (by simp[hne]) (fun y hy q hq=>?_)
    ·have hlt:b<w.heap.size:=h.lt b (by simp[hb]);simp only[if_neg (show b≠w.heap.size by omega)];exact⟨hb,Below.heap_alloc _ _ _ hlt⟩
    ·have hlt:b<w.heap.size:=h.lt b (by simp[hb]);simp only[if_neg (show b≠w.heap.size by omega)];exact hb
    ·left;have:=h.wfr r y hy q hq;rw[u6];rintro rfl;rw[hdn] at this;cases this)
  (fun r y hr q hq=>by
   rw[aQ] at hr⊢;split
   ·simp
   ·split at hr
    ·rename_i e;simp at hr;exact hwf y hr q hq
    ·exact h.wfr r y hr q hq)
 have:=hc.step hd hv (fun r hr=>by
  simp only[aQ];rcases hx r hr with rfl|hh
  ·simp
  ·split<;>simp[hh])
 exact this
def yw(h:v.cells=c)(h1:∀x∈v.cells,x.oneCell'=true):dz (w.alloc (.cells c ty)) w.heap.size 0 v:=by
 intro i x hx;refine⟨?_,h1 x (B1 hx)⟩
 simp_all
def mi(h:t<=c.size):Free (w.alloc (.cells c ty)) w.heap.size t:=
 ⟨c,ty,heap_alloc_new w _,h⟩
section ops
variable{o:Oper}{K:AV->List (Nat×Row)->Prop}{d:Nat}(h:RR n w0 S0 σ a w tag β)(hod:o.dst=some d)(hd:d<n)
include h hod hd
def sa{x:AV}{t:TypeId}(hnone:σ.row d=none)(hrun:(execOp a.eval o).run P w=.ok (.value (.pointer (some ⟨w.heap.size,0,none⟩))) (w.alloc (.cells v.cells t)))
 (hr:Rep w (Imm tag) w0.heap.size β v x) (hdx:σ.dom x) (hw:v.cells.size=x.width) (h1:∀x∈v.cells,x.oneCell'=true) (hk:K (.pt d 0 0) [(d,.var x)]):Snd P n w0 S0 σ o K a w:=by
 refine .value hrun hk ?_;rw[hod];have himm:∀b,Imm tag b->Imm (fun b=>if b=w.heap.size then Tag.own d else tag b) b/\(w.alloc (.cells v.cells t)).heap[b]?=w.heap[b]?:=by
  intro b hb;have hlt:b<w.heap.size:=h.lt b (by rcases hb with e|⟨r,e⟩<;>simp[e]);refine⟨?_,Below.heap_alloc _ _ _ hlt⟩;unfold Imm at hb⊢;simp only[if_neg (show b≠w.heap.size by omega)];exact hb
 refine⟨_,_,h.fresh hd hnone (own:=.blk w.heap.size 0 v.cells.size 1 1) ?_ (fun y hy q hq=>by cases hy;exact hdx q hq) (by
  have:=Rep.ptB (w:=w.alloc (.cells v.cells t)) (S:=Imm fun b=>if b=w.heap.size then Tag.own d else tag b) (B:=w0.heap.size)
   (β:=fun r=>if r=d then some (Own.blk w.heap.size 0 v.cells.size 1 1) else β r) d 0 0 w.heap.size 0 v.cells.size 1 1 (u7 rfl)
  simpa using this) (by simp[AV.ments])⟩
 refine⟨w.heap.size,0,v,u7 rfl,⟨u7 rfl,h.below.size,mi (by simp)⟩,yw rfl h1,?_,hw⟩;refine hr.mono himm fun r hr=>.inl ?_;have:=hdx r hr;rw[u6];rintro rfl;unfold St.row at hnone;rw[hnone] at this;cases this
def JK{z:AV}(hop:o.op=.alloc t)(hm:bd P (.alloc t) (.alloc z)=true)(hnone:σ.row d=none)(hk:K (.pt d 0 0) [(d,.var z)]):Snd P n w0 S0 σ o K a w:=by
 simp only[bd] at hm;unfold km at hm;split at hm
 ·rename_i inf hinf;split at hm
  ·rename_i zv hzv;obtain⟨h1,h2,h3,h4⟩:=ea hm w (Imm tag) w0.heap.size;refine sa h hod hd (v:=zv) (t:=t) hnone ?_ (.p _ _ h1) (by simp[St.dom,h4]) h2 h3 hk
   simp_all [execOp,Instr.alloc,zeroValue,typeInfo,newVar,newRow]
  ·cases hm
 ·cases hm
def Ws{x:Operand}{k:Nat}{y:X}(hop:o.op=.box t x)(hm:bd P (.box t x) (.box k y)=true)(hnone:σ.row d=none)(hw:(σ.gx y).width=k)
 (hk:K (.pt d 0 0) [(d,.var (σ.gx y))]):Snd P n w0 S0 σ o K a w:=by
 simp[bd] at hm;obtain⟨hr,hdx⟩:=h.gx hm.1;refine sa h hod hd (v:=a.eval x) (t:=t) hnone ?_ hr hdx (hr.width (by omega)).1 (hr.width (by omega)).2 hk;simp[execOp,hop,Instr.box,newVar,newRow]
end ops
end Vs

namespace Vs
open Go Go.RowKit
variable{P:Program}{n:Nat}{w0:World}{S0:Fx}{σ:St}{a:Act}{w w':World}{tag tag':Nat->Tag}{β β':Nat->Option Own}
variable{rs:List Nat}{d m:Nat}
def NM(z:Array Value)(l k i:Nat)(hz:z.size=k)(hi:i<l*k)(hk:0<k):(madeCells z (l*k))[i]?=some (z.getD (i%k) undef):=by
 simp_all [Nat.mod_lt,size_madeCells,A1,Array.getElem_map,Array.getElem_range,madeCells]
section ops
variable{o:Oper}{K:AV->List (Nat×Row)->Prop}{d:Nat}(h:RR n w0 S0 σ a w tag β)(hod:o.dst=some d)(hd:d<n)
include h hod hd
def XO{t:Nat}{l c:Operand}{k:Nat}{z:AV}{bytes:Nat}{l' c':X}(hop:o.op=.makeSlice t l c)(hm:bd P (.makeSlice t l c) (.mks k z bytes l' c')=true)
 (hk:tw K (σ.row d) d k z bytes (σ.gx l') (σ.gx c')):Snd P n w0 S0 σ o K a w:=by
 simp[bd] at hm;obtain⟨⟨⟨⟨h1,h2⟩,h3⟩,h4⟩,h5⟩:=hm;obtain⟨e,inf,he,hinf,hsz,hpos⟩:=dw h1;have hl:=(h.gx h4).1;have hc:=(h.gx h5).1;have hby:inf.bytes=bytes:=by
  unfold jF at h2;rw[he] at h2;simp[hinf] at h2;exact h2.1
 have⟨zv,hzv,hzok⟩:∃zv,inf.zero=some zv/\jD zv z=true:=by
  unfold nU km at h3;rw[he] at h3;simp only[hinf] at h3;split at h3
  ·rename_i v hv;exact⟨v,hv,h3⟩
  ·cases h3
 unfold tw at hk;split at hk
 ·rename_i ll cc e1 e2;rw[e1] at hl;rw[e2] at hc;have hl:=hl.int_inv;have hc:=hc.int_inv;obtain⟨hnone,hzw,h0,hlc,hbytes,h63,hk⟩:=hk;have hb2:(inf.bytes:Int)*cc<=281474976710656:=by
   rw[hby,Int.mul_comm];omega
  have hrun:=run_make (P:=P) w t e inf zv he hinf hzv .i64 .i64 ll cc h0 hlc hb2 h63;obtain⟨z1,z2,z3,z4⟩:=ea hzok (w.alloc (.cells (madeCells zv.cells (cc.toNat*inf.size)) e)) (Imm fun b=>if b=w.heap.size then Tag.own d else tag b) w0.heap.size;rw[hzw] at z2;refine .value (v:=.slice (some ⟨w.heap.size,0,none⟩) ll.toNat cc.toNat) (w':=w.alloc (.cells (madeCells zv.cells (cc.toNat*inf.size)) e)) (by simp[execOp,hop,hl,hc,hrun]) hk ?_;rw[hod];refine⟨_,_,h.fresh hd hnone (own:=.blk w.heap.size 0 k cc.toNat (D8 ll.toNat z).length) ?_ (fun y hy=>by cases hy) ?_ (by simp[AV.ments])⟩
  ·refine .inr ⟨w.heap.size,0,cc.toNat,fun _=>zv,fun _=>[],u7 rfl,⟨u7 rfl,h.below.size,mi (by rw[size_madeCells,hsz];omega)⟩,by simp;omega,?_,?_,?_,?_⟩
   ·intro j x hj;refine⟨z2,fun i y hy=>?_⟩;have hjl:j<ll.toNat:=by have:=(A0.1 hj).1;simpa using this
    have hik:i<k:=by have h9:i<zv.cells.size:=(A7.1 hy).1;omega
    refine⟨?_,z3 y (B1 hy)⟩;rw[World.cell?_alloc_new,hsz];have hlt:0+j*k+i<cc.toNat*k:=by
     have:(j+1)*k<=cc.toNat*k:=B3 k (by omega);rw[A9] at this;omega
    rw[NM zv.cells cc.toNat k _ z2 hlt hpos];have:(0+j*k+i)%k=i:=by rw[Nat.zero_add,Nat.mul_comm,Nat.mul_add_mod,Nat.mod_eq_of_lt hik]
    rw[this];obtain⟨hh,he⟩:=A7.1 hy;simp[hh,he]
   ·intro j x hj;have:x=z:=by have:=List.mem_of_getElem? hj;exact List.eq_of_mem_replicate this
    subst this;exact z1
   ·rw[bj _ _ fun _ _=>rfl];exact C6
   ·rw[bj _ _ fun _ _=>rfl];intro c hc;cases hc
  ·have:=Rep.slB (w:=w.alloc (.cells (madeCells zv.cells (cc.toNat*inf.size)) e)) (S:=Imm fun b=>if b=w.heap.size then Tag.own d else tag b) (B:=w0.heap.size)
    (β:=fun r=>if r=d then some (Own.blk w.heap.size 0 k cc.toNat (D8 ll.toNat z).length) else β r) d 0 ll.toNat w.heap.size 0 k cc.toNat _ cc.toNat (u7 rfl) (by omega) (by omega) (by simp)
   simpa using this
 ·exact hk.elim
end ops
def dD(rs:List Nat)(d:Nat)(tag:Nat->Tag)(b:Nat):Tag:=match tag b with
 | .own r=>if r∈rs then .uq d else .own r
 | .uq r=>if r∈rs then .uq d else .uq r
 |t=>t
def kQ{b:Nat}(h:Imm tag b):Imm (dD rs d tag) b:=by
 grind [Imm,dD]
def me(tag:Nat->Tag)(rs:List Nat)(b:Nat):Prop:=∃r∈rs,tag b=.own r\/tag b=.uq r
def jG{b:Nat}(h:me tag rs b):Imm (dD rs d tag) b/\dD rs d tag b=.uq d:=by
 obtain⟨r,hr,h|h⟩:=h<;>simp[Imm,dD,h,hr]
def ro{p:Nat->List Nat->Prop}(h:∀j,j<m->∃fp,p j fp):∃fps:Nat->List Nat,∀j,j<m->p j (fps j):=
 ⟨fun j=>if hj:j<m then(h j hj).choose else [],fun j hj=>by grind⟩
theorem dF{fps:Nat->List Nat}(h1:∀j,j<m->(fps j).Nodup)(h2:∀i j,i<m->j<m->i≠j->∀b∈fps i,b∉fps j):(cz m fps).Nodup:=by
 induction m with
 |zero=>simp[cz]
 | succ m ih =>
   have e:cz (m+1) fps=cz m fps++fps m:=by simp[cz,D7]
   grind [List.nodup_append,be]
def bR{fps:Nat->List Nat}(h:(cz m fps).Nodup):(∀j,j<m->(fps j).Nodup)/\(∀i j,i<m->j<m->i≠j->∀b∈fps i,b∉fps j):=by
 induction m with
 |zero=>simp_all
 | succ m ih =>
   have e:cz (m+1) fps=cz m fps++fps m:=by simp[cz,D7]
   grind [List.nodup_append,be]
def no{cs:List AV}(h:(aP cs).Nodup):(∀(j:Nat)(x:AV),cs[j]?=some x->x.ments.Nodup)/\∀(i j:Nat)(x y:AV),i≠j->cs[i]?=some x->cs[j]?=some y->∀r∈x.ments,r∉y.ments:=by
 induction cs with
 |nil=>simp_all
 | cons c cs ih =>
   simp only[aP,List.nodup_append] at h
   grind [bF]
theorem RR.lift(h:RR n w0 S0 σ a w tag β):∀(k:Nat)(x:AV)(v:Value),Rep w (Imm tag) w0.heap.size β v x->x.ments.Nodup->(∀r∈x.ments,r∈rs)->
 ∃fp,aX w (Imm (dD rs d tag)) w0.heap.size v (lift σ.row k x) fp/\fp.Nodup/\∀b∈fp,me tag x.ments b
 |0,x,v,_,_,_=>⟨[],by simp only[Vs.lift];exact .top v,C6,fun b hb=>by cases hb⟩
 | k + 1, x, v, hr, hnd, hrs => by
   have himm:∀b,Imm tag b->Imm (dD rs d tag) b/\w.heap[b]?=w.heap[b]?:=fun b hb=>⟨kQ hb,rfl⟩;have comps:∀(cs:List AV)(vs:Array Value),(aP cs).Nodup->(∀r∈aP cs,r∈rs)->(∀(j:Nat)(x:AV),cs[j]?=some x->Rep w (Imm tag) w0.heap.size β (vs.getD j undef) x)->
    ∃ fps : Nat → List Nat, (∀ (j : Nat) (y : AV), (cs.map (Vs.lift σ.row k))[j]? = some y → aX w (Imm (dD rs d tag)) w0.heap.size (vs.getD j undef) y (fps j)) ∧
      (cz cs.length fps).Nodup/\∀b∈cz cs.length fps,me tag (aP cs) b:=by
    intro cs vs hn hmr hat;obtain⟨m1,m2⟩:=no hn;have:=ro (m:=cs.length) (p:=fun j fp=>∀x,cs[j]?=some x->aX w (Imm (dD rs d tag)) w0.heap.size (vs.getD j undef) (Vs.lift σ.row k x) fp/\fp.Nodup/\∀b∈fp,me tag x.ments b)
     (fun j hj=>by
      have hx:cs[j]?=some cs[j]:=by simp[hj]
      obtain⟨fp,h1,h2,h3⟩:=RR.lift h k cs[j] _ (hat j _ hx) (m1 j _ hx) (fun r hr=>hmr r (bF hx hr));exact⟨fp,fun x hx'=>by rw[hx] at hx';cases hx';exact⟨h1,h2,h3⟩⟩)
    obtain⟨fps,hf⟩:=this;refine⟨fps,?_,dF ?_ ?_,?_⟩
    ·grind
    ·simp_all
    ·intro i j hi hj hij b hb hb';obtain⟨r,hr,hrt⟩:=(hf i hi cs[i] (by simp[hi])).2.2 b hb;obtain⟨q,hq,hqt⟩:=(hf j hj cs[j] (by simp[hj])).2.2 b hb';have:r=q:=by rcases hrt with e|e<;>rcases hqt with e'|e'<;>rw[e] at e'<;>cases e'<;>rfl
     subst this;exact m2 i j _ _ hij (by simp[hi]) (by simp[hj]) r hr hq
    ·intro b hb;obtain⟨j,hj,hb⟩:=be.1 hb;obtain⟨r,hr,hrt⟩:=(hf j hj cs[j] (by simp[hj])).2.2 b hb;exact⟨r,bF (A8 hj) hr,hrt⟩
   have none:∀y,aX w (Imm (dD rs d tag)) w0.heap.size v y []->∃fp,aX w (Imm (dD rs d tag)) w0.heap.size v y fp/\fp.Nodup/\∀b∈fp,me tag x.ments b:=
    fun y hy=>⟨[],hy,C6,fun b hb=>by cases hb⟩
   cases x with
   | sc u =>
     simp only[Vs.lift];cases hr with|p v x hp=>exact none _ (hp.mono himm)
   | lst f q xs =>
     simp only[Vs.lift];cases hr with|p v x hp=>exact none _ (hp.mono himm)
   |tg f q xs=>simp only[Vs.lift];exact none _ (.top v)
   |bp f x off=>simp only[Vs.lift];exact none _ (.top v)
   |pt r i off=>simp only[Vs.lift];exact none _ (.top v)
   |fn f cs=>simp only[Vs.lift];exact none _ (.top v)
   |top=>simp only[Vs.lift];exact none _ (.top v)
   |ub=>simp only[Vs.lift];exact none _ (.top v)
   | agg cs =>
     simp only[Vs.lift];obtain⟨vs,rfl,h2,h3,h4⟩:=hr.agg_inv;simp only[AV.ments] at hnd hrs⊢;obtain⟨fps,f1,f2,f3⟩:=comps cs vs hnd hrs h4;have:=aX.agg (w:=w) (S:=Imm (dD rs d tag)) (B:=w0.heap.size) vs (cs.map (Vs.lift σ.row k)) fps (by simpa using h2) h3 f1
     grind
   | tup cs =>
     simp only[Vs.lift];obtain⟨vs,rfl,h2,h4⟩:=hr.tup_inv;simp only[AV.ments] at hnd hrs⊢;obtain⟨fps,f1,f2,f3⟩:=comps cs vs hnd hrs h4;have:=aX.tup (w:=w) (S:=Imm (dD rs d tag)) (B:=w0.heap.size) vs (cs.map (Vs.lift σ.row k)) fps (by simpa using h2) f1
     grind
   | sl r i m =>
     simp only[Vs.lift];have hrr:r∈rs:=hrs r (by simp[AV.ments]);cases hx:σ.row r with
     |none=>simp only[mw];exact none _ (.top v)
     | some row => cases row with
       |var y=>simp only[mw];exact none _ (.top v)
       |dead=>simp only[mw];exact none _ (.top v)
       | arr q es =>
         simp only[mw];rcases h.sl_inv hx hr with⟨rfl,rfl,rfl,rfl,_⟩|⟨b,o,cap,c,hb,rfl,hic,hmc,hlm⟩|⟨b,o,cap,p,hb,rfl,rfl,hp⟩
         ·rw[nN];exact none _ (.nil0 _ _)
         ·rcases h.arr hx with⟨e,_⟩|⟨b',o',cap',vs,fps,hb',⟨t1,t2,t3⟩,hlc,hva,hxx,hnd',huq⟩
          ·rw[hb] at e;cases e
          ·rw[hb] at hb';cases hb';obtain⟨n1,n2⟩:=bR hnd';have hsb:Imm (dD rs d tag) b:=(jG ⟨r,hrr,.inl t1⟩).1;have:=aX.lst (w:=w) (S:=Imm (dD rs d tag)) (B:=w0.heap.size) .u q b (o+i*q) m c (sub es i m) (fun j=>vs (i+j)) (fun j=>fps (i+j)) (jL hlm) hmc ⟨hsb,t2⟩
            (fun _=>by
             grind)
            (fun j x hj=>by
             have:=hva _ _ (jC hj).1
             grind)
            (fun j x hj=>(hxx _ _ (jC hj).1).mono himm)
           refine⟨_,this,?_,?_⟩
           ·rw[u7 rfl]
            grind [List.singleton_append,List.nodup_cons,dF,be]
           ·intro b2 hb2;rw[u7 rfl] at hb2;simp only[List.singleton_append,D9] at hb2;rcases hb2 with rfl|hb2
            ·exact⟨r,by simp[AV.ments],.inl t1⟩
            ·obtain⟨j,hj,hb2⟩:=be.1 hb2;exact⟨r,by simp[AV.ments],.inr (huq b2 (be.2 ⟨i+j,by omega,hb2⟩))⟩
         ·rcases h.arr hx with⟨e,_⟩|⟨b',o',cap',vs,fps,hb',⟨t1,t2,t3⟩,hlc,hva,hxx,hnd',huq⟩
          ·rw[hb] at e;cases e
          ·rw[hb] at hb';cases hb';have hsb:Imm (dD rs d tag) b:=(jG ⟨r,hrr,.inl t1⟩).1;rw[sub_zero];have:=aX.lst (w:=w) (S:=Imm (dD rs d tag)) (B:=w0.heap.size) .u q b p 0 0 [] (fun _=>undef) (fun _=>[]) rfl (A6 _) ⟨hsb,t2⟩
            (fun _=>by obtain⟨cc,ty,e1,e2⟩:=t3;exact⟨cc,ty,e1,by omega⟩) (fun j x hj=>by simp at hj) (fun j x hj=>by simp at hj)
           refine⟨_,this,?_,?_⟩
           ·rw[bj _ _ fun _ _=>rfl];simp
           ·intro b2 hb2;rw[bj _ _ fun _ _=>rfl] at hb2;simp at hb2;subst hb2;exact⟨r,by simp[AV.ments],.inl t1⟩
end Vs

namespace Vs
open Go Go.RowKit
variable{P:Program}{n:Nat}{w0:World}{S0:Fx}{σ:St}{a:Act}{w w':World}{tag tag':Nat->Tag}{β β':Nat->Option Own}
variable{rs:List Nat}{d k:Nat}
theorem cq(d:Nat)(row:Row)(r:Nat):∀(rs:List Nat)(rows:List (Nat×Row)),aB r (bg (bP rs++[(d,row)]) rows)=if r=d then some row else if r∈rs then some .dead else aB r rows
 |[],rows=>by simp[bg,bP,aQ]
 | q :: rs, rows => by
   have ih:=cq d row r rs (put q .dead rows);have e:bg (bP (q::rs)++[(d,row)]) rows=bg (bP rs++[(d,row)]) (put q .dead rows):=rfl;rw[e,ih,aQ];by_cases h1:r=d
   ·simp[h1]
   ·by_cases h2:r∈rs
    ·simp[h1,h2]
    ·by_cases h3:r=q<;>simp[h1,h2,h3]
def RR.move(h:RR n w0 S0 σ a w tag β){row:Row}{own:Option Own}(hdr:d∉rs)(hd:aB d σ.rows=none/\d<1000000000\/own=β d/\cR (aB d σ.rows))
 (hbelow:Below w0.heap.size w w') (himm:∀b,Imm tag b->Imm tag' b/\w'.heap[b]?=w.heap[b]?) (hlt:∀b,tag' b≠.out->b<w'.heap.size)
 (hkeep:∀b,b<w.heap.size->tag b=.imm\/tag b=.out->tag' b=tag b/\w'.heap[b]?=w.heap[b]?) (hown:∀b q,q∉rs->q≠d->tag b=.own q->tag' b=.own q/\w'.heap[b]?=w.heap[b]?)
 (huq:∀b q,q∉rs->q≠d->tag b=.uq q->tag' b=.uq q)
 (hrow:cJ w' tag' w0.heap.size (fun r=>if r=d then own else if r∈rs then none else β r) d (some row))
 (hwf:∀y,row=.var y->∀q∈y.ments,(aB q σ.rows).isSome):
 RR n w0 S0 ⟨σ.env,bg (bP rs++[(d,row)]) σ.rows⟩ a w' tag' (fun r=>if r=d then own else if r∈rs then none else β r):=by
 have hsome:∀r,(aB r σ.rows).isSome->(aB r (bg (bP rs++[(d,row)]) σ.rows)).isSome:=by
  intro r hr;rw[cq];split
  ·rfl
  ·split
   ·rfl
   ·exact hr
 have hβ:∀r,(aB r σ.rows).isSome->(if r=d then own else if r∈rs then none else β r)=β r\/(if r=d then own else if r∈rs then none else β r)=none:=by
  intro r hr;by_cases e:r=d
  ·subst e;rw[u7 rfl];rcases hd with hd|hd
   ·rw[hd.1] at hr;cases hr
   ·exact .inl hd.1
  ·rw[u6 e];split
   ·exact .inr rfl
   ·exact .inl rfl
 refine h.change hbelow himm hlt hkeep (fun r hr hl=>?_) hβ hsome ?_ ?_
 ·rw[cq] at hl;by_cases e:r=d
  ·grind
  ·rw[u6 e] at hl⊢;by_cases er:r∈rs
   ·rw[u7 er] at hl;exact hl.elim
   simp_all
 ·intro r;rw[cq];by_cases e:r=d
  ·simp_all
  ·rw[u6 e];by_cases er:r∈rs
   ·rw[u7 er];show(if r=d then own else if r∈rs then none else β r)=none
    simp_all
   ·rw[u6 er];refine(h.rows r).mono himm (fun b hb=>hown b r er e hb) (fun b hb=>huq b r er e hb) ?_ ?_
    ·simp_all
    ·intro x hx q hq;exact hβ q (h.wfr r x hx q hq)
 ·intro r y hr q hq;rw[cq] at hr;apply hsome;by_cases e:r=d
  ·simp_all
  ·rw[u6 e] at hr;by_cases er:r∈rs
   ·simp_all
   ·rw[u6 er] at hr;exact h.wfr r y hr q hq
def Ks{ps:List (Nat×Operand)}{qs:List X}:∀{k:Nat},qt k ps qs=true->ps.length=qs.length/\∀(j:Nat)(y:X),qs[j]?=some y->∃x,ps[j]?=some (k+j,x)/\cF x y=true:=by
 induction ps generalizing qs with
 |nil=>grind [qt]
 | cons p ps ih => intro k h; cases qs with
   |nil=>simp_all [qt]
   | cons q qs =>
     obtain⟨i,x⟩:=p;simp[qt] at h
     grind
theorem yF{ev:Operand->Value}(hk:0<k):∀(ps:List (Nat×Operand))(i:Nat)(cs:Array Value),(∀(j:Nat) p,ps[j]?=some p->p.1=i+j/\(ev p.2).cells.size=k)->(i+ps.length)*k<=cs.size->
 ∃ us, Instr.fill (fun i => some (i * k, k)) cs (ps.map fun (i, x) => (i, ev x)) = some us ∧ us.size = cs.size ∧
   (∀(j:Nat) p,ps[j]?=some p->∀c x,(ev p.2).cells[c]?=some x->us[(i+j)*k+c]?=some x)/\∀c,c<i*k->us[c]?=cs[c]?
 |[],i,cs,_,_=>⟨cs,rfl,rfl,fun j p hj=>by simp at hj,fun c _=>rfl⟩
 | (q, x) :: ps, i, cs, hp, hle => by
   obtain⟨e,hsz⟩:=hp 0 (q,x) rfl;simp only at e hsz;have e:q=i:=by omega
   subst e;have hlen:(ev x).cells.toList.length=k:=by simpa using hsz
   simp only[A5] at hle;have hle1:q*k+k<=cs.size:=by
    have:(q+1)*k<=(q+(ps.length+1))*k:=B3 k (by omega);rw[A9,Nat.one_mul] at this;omega
   have hfold:(ev x).cells.zipIdx.foldl (fun cs(p:Value×Nat)=>cs.setIfInBounds (q*k+p.2) p.1) cs=((ev x).cells.toList.zipIdx 0).foldl (fun cs(p:Value×Nat)=>cs.setIfInBounds (q*k+p.2) p.1) cs:=by
    rw[<-D3];simp
   have hsize:=fq (q*k) ((ev x).cells.toList.zipIdx 0) cs;have hget:=fun j=>fO (q*k) j (ev x).cells.toList 0 cs (by omega);obtain⟨us,hu,hus,hat,hlow⟩:=yF hk ps (q+1) (((ev x).cells.toList.zipIdx 0).foldl (fun cs(p:Value×Nat)=>cs.setIfInBounds (q*k+p.2) p.1) cs)
    (fun j p hj=>by
     have:=hp (j+1) p (by simpa using hj);exact⟨by omega,this.2⟩) (by grind)
   refine⟨us,?_,by rw[hus,hsize],?_,?_⟩
   ·simp only[C8,Instr.fill]
    grind
   ·intro j p hj c y hy;cases j with
    | zero =>
      simp at hj;subst hj;simp only at hy;have hc:c<k:=by have:=(A7.1 hy).1;omega
      rw[Nat.add_zero,hlow _ (by rw[A9];omega)];have hb:q*k+c<(((ev x).cells.toList.zipIdx 0).foldl (fun cs(p:Value×Nat)=>cs.setIfInBounds (q*k+p.2) p.1) cs).size:=by rw[hsize];omega
      have:=hget (q*k+c);rw[u7 (by omega)] at this;rw[A1 hb];have e1:((((ev x).cells.toList.zipIdx 0).foldl (fun cs(p:Value×Nat)=>cs.setIfInBounds (q*k+p.2) p.1) cs)).getD (q*k+c) undef=(((ev x).cells.toList.zipIdx 0).foldl (fun cs(p:Value×Nat)=>cs.setIfInBounds (q*k+p.2) p.1) cs)[q*k+c]:=by simp only[B5,hb,dite_true];rfl
      grind
    | succ j =>
      grind
   ·intro c hc;rw[hlow c (by rw[A9];omega)];have hb':c<cs.size:=by omega
    have hb:c<(((ev x).cells.toList.zipIdx 0).foldl (fun cs(p:Value×Nat)=>cs.setIfInBounds (q*k+p.2) p.1) cs).size:=by rw[hsize];omega
    have:=hget c;rw[u6 (by omega)] at this;rw[A1 hb,A1 hb'];simp only[B5,hb,hb',dite_true] at this;congr 1
def RR.lifts(h:RR n w0 S0 σ a w tag β){cs:List AV}{vs:Nat->Value}(hn:(aP cs).Nodup)(hmr:∀r∈aP cs,r∈rs)
 (hat:∀(j:Nat)(x:AV),cs[j]?=some x->Rep w (Imm tag) w0.heap.size β (vs j) x):
 ∃ fps : Nat → List Nat, (∀ (j : Nat) (y : AV), (cs.map (Vs.lift σ.row k))[j]? = some y → aX w (Imm (dD rs d tag)) w0.heap.size (vs j) y (fps j)) ∧
   (cz cs.length fps).Nodup/\∀b∈cz cs.length fps,me tag (aP cs) b:=by
 obtain⟨m1,m2⟩:=no hn;have:=ro (m:=cs.length) (p:=fun j fp=>∀x,cs[j]?=some x->aX w (Imm (dD rs d tag)) w0.heap.size (vs j) (Vs.lift σ.row k x) fp/\fp.Nodup/\∀b∈fp,me tag x.ments b)
  (fun j hj=>by
   have hx:cs[j]?=some cs[j]:=by simp[hj]
   obtain⟨fp,h1,h2,h3⟩:=h.lift k cs[j] _ (hat j _ hx) (m1 j _ hx) (fun r hr=>hmr r (bF hx hr));exact⟨fp,fun x hx'=>by rw[hx] at hx';cases hx';exact⟨h1,h2,h3⟩⟩)
 obtain⟨fps,hf⟩:=this;refine⟨fps,?_,dF ?_ ?_,?_⟩
 ·grind
 ·simp_all
 ·intro i j hi hj hij b hb hb';obtain⟨r,hr,hrt⟩:=(hf i hi cs[i] (by simp[hi])).2.2 b hb;obtain⟨q,hq,hqt⟩:=(hf j hj cs[j] (by simp[hj])).2.2 b hb';have:r=q:=by rcases hrt with e|e<;>rcases hqt with e'|e'<;>rw[e] at e'<;>cases e'<;>rfl
  subst this;exact m2 i j _ _ hij (by simp[hi]) (by simp[hj]) r hr hq
 ·intro b hb;obtain⟨j,hj,hb⟩:=be.1 hb;obtain⟨r,hr,hrt⟩:=(hf j hj cs[j] (by simp[hj])).2.2 b hb;exact⟨r,bF (A8 hj) hr,hrt⟩
def mT{b:Nat}(h:dD rs d tag b≠.out):tag b≠.out:=by
 grind [dD]
def yv{b:Nat}(hb:tag b=.imm\/tag b=.out):dD rs d tag b=tag b:=by
 grind [dD]
section ops
variable{o:Oper}{K:AV->List (Nat×Row)->Prop}{d:Nat}(h:RR n w0 S0 σ a w tag β)(hod:o.dst=some d)(hd:d<n)
include h hod hd
def ED{t len:Nat}{fr:Bool}{ps:Array (Nat×Operand)}{qs:List X}(hop:o.op=.buildSlice t len ps)(hm:bd P (.buildSlice t len ps) (.bsl k fr qs)=true)
 (hnone:σ.row d=none) (hw:∀p∈qs,(σ.gx p).width=k) (hnd:(aP (qs.map σ.gx)).Nodup)
 (hk:K (.sl d 0 qs.length) (bP (aP (qs.map σ.gx))++[(d,.arr k ((qs.map σ.gx).map (Vs.lift σ.row 2)))])):Snd P n w0 S0 σ o K a w:=by
 simp[bd] at hm;obtain⟨⟨⟨⟨h1,h2⟩,rfl⟩,h4⟩,h5⟩:=hm;obtain⟨e,inf,he,hinf,hsz,hpos⟩:=dw h1;have⟨zv,hzv,hzs⟩:∃zv,inf.zero=some zv/\zv.cells.size=k:=by
  grind [yd]
 obtain⟨hpl,hpat⟩:=Ks h5;have hdn:aB d σ.rows=none:=hnone;have hrep:∀(j:Nat) p,ps.toList[j]?=some p->p.1=0+j/\(a.eval p.2).cells.size=k/\∀c∈(a.eval p.2).cells,c.oneCell'=true:=by
  intro j p hj;have hlt:j<qs.length:=by rw[<-hpl];exact(A0.1 hj).1
  obtain⟨x,hx,hmx⟩:=hpat j qs[j] (by simp[hlt]);rw[hj] at hx;cases hx;refine⟨rfl,?_⟩;have hwq:=hw qs[j] (List.getElem_mem _);refine⟨?_,((h.gx hmx).1.width (by omega)).2⟩;rw[((h.gx hmx).1.width (by omega)).1,hwq]
 obtain⟨us,hus,hussz,hat,_⟩:=yF (ev:=a.eval) hpos ps.toList 0 (madeCells zv.cells (qs.length*k)) (fun j p hj=>⟨(hrep j p hj).1,(hrep j p hj).2.1⟩) (by rw[size_madeCells,hpl];simp);rw[size_madeCells] at hussz;have hrun:(execOp a.eval o).run P w=.ok (.value (.slice (some ⟨w.heap.size,0,none⟩) qs.length qs.length)) (w.alloc (.cells us e)):=by
  have hus':Instr.fill (fun i=>some (i*k,k)) (madeCells zv.cells (qs.length*k)) (ps.toList.map fun x=>(x.fst,a.eval x.snd))=some us:=hus;by_cases h0:qs.length*k=0
  ·have hq0:qs.length=0:=by
    rcases Nat.mul_eq_zero.1 h0 with e|e<;>omega
   have hps:ps.toList=[]:=List.eq_nil_of_length_eq_zero (by omega);have hps':ps=#[]:=by simpa using hps
   have hus0:us=#[]:=Array.eq_empty_of_size_eq_zero (by omega);have hr0:E8 0=#[]:=rfl;simp[execOp,hop,Instr.buildSlice,run_underlying he,Go.sizeOf,typeInfo,hinf,hq0,hps',Instr.fill,newRow,hus0,hr0]
  ·have hh:((E8 (qs.length*k)).map fun i=>zv.cells[i%zv.cells.size]!)=madeCells zv.cells (qs.length*k):=rfl;simp[execOp,hop,Instr.buildSlice,run_underlying he,Go.sizeOf,typeInfo,hinf,hsz,h0,zeroValue,hzv,hh,hus',newRow,show¬(16777216<qs.length*k) by omega]
 refine .value hrun hk ?_;rw[hod]
 -- the values of the parts
 have hvs:∀(j:Nat)(x:AV),(qs.map σ.gx)[j]?=some x->∃p,ps.toList[j]?=some p/\Rep w (Imm tag) w0.heap.size β (a.eval p.2) x/\σ.dom x:=by
  intro j x hj;simp only[B9,B0] at hj;obtain⟨y,hy,rfl⟩:=hj;obtain⟨z,hz,hmz⟩:=hpat j y hy;exact⟨_,hz,(h.gx hmz).1,(h.gx hmz).2⟩
 have hdr:d∉aP (qs.map σ.gx):=by
  intro hmem;obtain⟨c,hc,hr⟩:=bE.1 hmem;obtain⟨j,hj,rfl⟩:=A3 hc;obtain⟨p,_,_,hdm⟩:=hvs j _ (A8 hj);have:=hdm d hr;rw[hdn] at this;cases this
 obtain⟨fps,f1,f2,f3⟩:=h.lifts (rs:=aP (qs.map σ.gx)) (d:=d) (k:=2) (vs:=fun j=>(ps.toList[j]?.map fun p=>a.eval p.2).getD undef) hnd (fun r hr=>hr)
  (fun j x hj=>by grind)
 have hB:w0.heap.size<=w.heap.size:=h.below.size;have hlt0:∀b,tag b≠.out->b<w.heap.size:=h.lt;have himm2:∀b,Imm (dD (aP (qs.map σ.gx)) d tag) b->Imm (fun b=>if b=w.heap.size then Tag.own d else dD (aP (qs.map σ.gx)) d tag b) b/\(w.alloc (.cells us e)).heap[b]?=w.heap[b]?:=by
  intro b hb;have hlt:b<w.heap.size:=hlt0 b (mT (rs:=aP (qs.map σ.gx)) (d:=d) (by rcases hb with e|⟨r,e⟩<;>simp[e]));refine⟨?_,Below.heap_alloc _ _ _ hlt⟩;unfold Imm at hb⊢;simp only[if_neg (show b≠w.heap.size by omega)];exact hb
 have hmove:=h.move (w':=w.alloc (.cells us e)) (tag':=fun b=>if b=w.heap.size then Tag.own d else dD (aP (qs.map σ.gx)) d tag b) (rs:=aP (qs.map σ.gx)) (d:=d)
  (row:=.arr k ((qs.map σ.gx).map (Vs.lift σ.row 2))) (own:=some (.blk w.heap.size 0 k qs.length ((qs.map σ.gx).map (Vs.lift σ.row 2)).length)) hdr (.inl ⟨hdn,by have:=h.nn;omega⟩) ((Below.refl _ _).alloc hB _)
  (fun b hb=>himm2 b (kQ hb))
  (fun b hb=>by
   by_cases e:b=w.heap.size
   ·subst e;simp
   ·rw[u6 e] at hb;have:=hlt0 b (mT hb);simp;omega)
  (fun b hb ht=>⟨by rw[u6 (by omega)];exact yv ht,Below.heap_alloc _ _ _ hb⟩)
  (fun b q hq hqd hb=>by
   have hlt:=hlt0 b (by simp[hb]);refine⟨?_,Below.heap_alloc _ _ _ hlt⟩;rw[u6 (by omega)];simp[dD,hb,hq])
  (fun b q hq hqd hb=>by
   have hlt:=hlt0 b (by simp[hb]);rw[u6 (by omega)];simp[dD,hb,hq])
  (.inr ⟨w.heap.size, 0, qs.length, fun j => (ps.toList[j]?.map fun p => a.eval p.2).getD undef, fps, u7 rfl, ⟨u7 rfl, hB, mi (by omega)⟩, by simp,
    fun j x hj=>by
     simp only[B9,B0] at hj;obtain⟨_,⟨y,hy,rfl⟩,rfl⟩:=hj;obtain⟨p,hp,_⟩:=hvs j (σ.gx y) (by simp[hy]);simp only[hp,B4,Option.getD_some];refine⟨(hrep j p hp).2.1,fun i c hc=>⟨?_,(hrep j p hp).2.2 c (B1 hc)⟩⟩
     grind [World.cell?_alloc_new],
    fun j x hj=>(f1 j x hj).mono himm2,
    by simpa using f2,
    fun c hc=>by
     have hc':c∈cz (qs.map σ.gx).length fps:=by simpa using hc
     have hof:=f3 c hc';have hlt:c<w.heap.size:=hlt0 c (by obtain⟨r,_,e|e⟩:=hof<;>simp[e]);show(if c=w.heap.size then Tag.own d else dD (aP (qs.map σ.gx)) d tag c)=.uq d;rw[u6 (by omega)];exact(jG hof).2⟩)
  (fun y hy=>by cases hy)
 have hst:=hmove.step hd (v:=.slice (some ⟨w.heap.size,0,none⟩) qs.length qs.length) (x:=.sl d 0 qs.length) (by
  have:=Rep.slB (w:=w.alloc (.cells us e)) (S:=Imm fun b=>if b=w.heap.size then Tag.own d else dD (aP (qs.map σ.gx)) d tag b) (B:=w0.heap.size)
   (β:=fun r=>if r=d then some (Own.blk w.heap.size 0 k qs.length ((qs.map σ.gx).map (Vs.lift σ.row 2)).length) else if r∈aP (qs.map σ.gx) then none else β r)
   d 0 qs.length w.heap.size 0 k qs.length _ qs.length (u7 rfl) (by omega) (by omega) (by simp)
  simpa using this) (fun r hr=>by
  simp[AV.ments] at hr;subst hr;rw[cq,u7 rfl];rfl)
 exact⟨_,_,hst⟩
end ops
end Vs

