/-
  Part of the proof that FnExactCheapestPair returns true at every input.
-/
import Derived.Test.YtfmhphgpijjejaaGreatUa
import Derived.Laws.AppendOwn
import Derived.Laws.MakeOwn
import Derived.WalkKit
import Derived.Laws.BytesString
import Derived.Laws.Slices
set_option linter.defProp false
set_option linter.unusedSimpArgs false
set_option linter.unusedVariables false
namespace Vs
open Go Go.RowKit
structure Below(B:Nat)(w w':World):Prop where
 bel:Go.RowKit.Below B w w'
 frz:∀a:Addr,a.block<w.heap.size->w'.frozen? a=w.frozen? a
 drawn:w.drawn<=w'.drawn
theorem Below.size{B:Nat}{w w':World}(h:Below B w w'):w.heap.size<=w'.heap.size:=h.bel.size
theorem Below.block{B:Nat}{w w':World}(h:Below B w w'):∀k,k<B->w'.heap[k]?=w.heap[k]?:=h.bel.block
theorem Below.refl(B:Nat)(w:World):Below B w w:=⟨.refl B w,fun _ _=>rfl,Nat.le_refl _⟩
theorem Below.trans{B:Nat}{a b c:World}(h:Below B a b)(k:Below B b c):Below B a c:=⟨h.bel.trans k.bel,fun x hx=>(k.frz x (Nat.lt_of_lt_of_le hx h.size)).trans (h.frz x hx),Nat.le_trans h.drawn k.drawn⟩
theorem Below.mono{B B':Nat}{w w':World}(h:Below B w w')(hB:B'<=B):Below B' w w':=⟨h.bel.mono hB,h.frz,h.drawn⟩
theorem Below.drew{B:Nat}{a w:World}(h:Below B a w):Below B a w.drew:=⟨h.bel.drew,h.frz,Nat.le_succ_of_le h.drawn⟩
theorem Below.heap_alloc(w:World)(o:Obj)(k:Nat)(h:k<w.heap.size):(w.alloc o).heap[k]?=w.heap[k]?:=Go.RowKit.Below.heap_alloc w o k h
theorem Below.alloc{B:Nat}{a w:World}(h:Below B a w)(hB:B<=w.heap.size)(c:Array Value){ty:TypeId}:Below B a (w.alloc (.cells c ty)):=
 ⟨h.bel.alloc hB _,fun x hx=>by
  rw[<-h.frz x hx];exact World.frozen?_alloc_old w _ x (by have:=h.size;omega),h.drawn⟩
def cM(w:World)(b pos:Nat)(v:Value):Prop:=∀i x,v.cells[i]?=some x->w.cell? ⟨b,pos+i,none⟩=some x/\x.oneCell'=true
def Fl.ok(S:Nat->Prop)(B:Nat)(f:Fl)(b:Nat):Prop:=match f with
 | .o=>S b/\b<B
 | .s=>S b
 | .m=>S b/\B<=b
 | .u=>S b/\B<=b
def kq(w:World)(b top:Nat):Prop:=∃c ty,w.heap[b]?=some (.cells c ty (0,0))/\top<=c.size
def bP(n:Nat)(fps:Nat->List Nat):List Nat:=(List.range n).flatMap fps
inductive aQ(w:World)(S:Nat->Prop)(B:Nat):Value->AV->List Nat->Prop
 |top (v:Value):aQ w S B v .top []
 |sc (v:Value) (h:v.oneCell'=true):aQ w S B v (.sc v) []
 |nil (f:Fl) (n:Nat) (ad:Option Addr) (cap:Nat) (h:(ad=none->cap=0)/\(f=.u->ad=none)):aQ w S B (.slice ad 0 cap) (.lst f n []) []
 |lst (f:Fl) (n b o len cap:Nat) (xs:List AV) (vs:Nat->Value) (fps:Nat->List Nat)
  (hl:xs.length=len) (hc:len<=cap) (hf:f.ok S B b) (hu:f=.u->kq w b (o+cap*n))
  (hv:∀j x,xs[j]?=some x->(vs j).cells.size=n/\cM w b (o+j*n) (vs j))
  (hx:∀j x,xs[j]?=some x->aQ w S B (vs j) x (fps j)):
  aQ w S B (.slice (some ⟨b,o,none⟩) len cap) (.lst f n xs) ((if f=.u then [b] else [])++bP len fps)
 |agg (vs:Array Value) (cs:List AV) (fps:Nat->List Nat) (hs:vs.size=cs.length) (h1:∀x∈vs,x.oneCell'=true)
  (hx:∀j x,cs[j]?=some x->aQ w S B (vs.getD j undef) x (fps j)):aQ w S B (.agg vs) (.agg cs) (bP cs.length fps)
 |tup (vs:Array Value) (cs:List AV) (fps:Nat->List Nat) (hs:vs.size=cs.length)
  (hx:∀j x,cs[j]?=some x->aQ w S B (vs.getD j undef) x (fps j)):aQ w S B (.tuple vs) (.tup cs) (bP cs.length fps)
 |fn (f:Nat) (vs:Array Value) (cs:List AV) (fps:Nat->List Nat) (hs:vs.size=cs.length)
  (hx:∀j x,cs[j]?=some x->aQ w S B (vs.getD j undef) x (fps j)):aQ w S B (.func (.func f) #[] vs) (.fn f cs) (bP cs.length fps)
 |ub (b:Bool):aQ w S B (.bool b) .ub []
 |bp (f:Fl) (b o off:Nat) (v:Value) (x:AV) (hb:f.ok S B b) (hv:cM w b o v) (hx:aQ w S B v x []):aQ w S B (.pointer (some ⟨b,o+off,none⟩)) (.bp f x off) []
def OkR(H:World->Prop)(P:Program)(f:Nat)(args:List AV)(res:AV):Prop:=
 (∃fn,P.funcs[f]?=some fn/\fn.body.isNone=false/\(fn.name== "runtime.NumGoroutine")=false)/\
 ∀ (w : World) (S : Nat → Prop) (vs : Array Value), (∀ b, S b → b < w.heap.size) → vs.size = args.length →
   (∀(j:Nat)(x:AV),args[j]?=some x->aQ w S w.heap.size (vs.getD j undef) x [])->(∀W:World,(∀b,S b->W.heap[b]?=w.heap[b]?)->H W)->
   Calls P f vs w fun e w'=>∃v fp S',e=.returned v/\Below w.heap.size w w'/\fp.Nodup/\
    (∀b,S' b->b<w'.heap.size/\(b<w.heap.size->S b))/\aQ w' S' w.heap.size v res fp
def Ok(P:Program)(f:Nat)(args:List AV)(res:AV):Prop:=OkR (fun _=>True) P f args res
inductive Own where
 |nil
 |blk (b o sz cap len:Nat)
inductive Tag where
 |out
 |imm
 |uq (r:Nat)
 |own (r:Nat)
def Imm(tag:Nat->Tag)(b:Nat):Prop:=tag b=.imm\/∃r,tag b=.uq r
inductive Rep(w:World)(S:Nat->Prop)(B:Nat)(β:Nat->Option Own):Value->AV->Prop
 |p (v:Value) (x:AV) (h:aQ w S B v x []):Rep w S B β v x
 |slB (r i n b o sz cap len c:Nat) (h:β r=some (.blk b o sz cap len)) (hc:i+c=cap) (hn:n<=c) (hl:i+n<=len):Rep w S B β (.slice (some ⟨b,o+i*sz,none⟩) n c) (.sl r i n)
 |slE (r i b o sz cap len p:Nat) (h:β r=some (.blk b o sz cap len)) (hp:p<=o+cap*sz/\i=cap):Rep w S B β (.slice (some ⟨b,p,none⟩) 0 0) (.sl r i 0)
 |slN (r:Nat) (h:β r=some .nil):Rep w S B β (.slice none 0 0) (.sl r 0 0)
 |slD (r i n:Nat) (v:Value) (h:β r=none) (h1:v.oneCell'=true):Rep w S B β v (.sl r i n)
 |ptB (r i off b o sz cap len:Nat) (h:β r=some (.blk b o sz cap len)):Rep w S B β (.pointer (some ⟨b,o+i*sz+off,none⟩)) (.pt r i off)
 |ptD (r i off:Nat) (v:Value) (h:β r=none) (h1:v.oneCell'=true):Rep w S B β v (.pt r i off)
 |tg (f:Fl) (n len:Nat) (a:Option Addr) (xs:List AV) (hl:len=xs.length) (h:aQ w S B (.slice a len len) (.lst f n xs) []):Rep w S B β (.slice a len len) (.tg f n xs)
 |agg (vs:Array Value) (cs:List AV) (hs:vs.size=cs.length) (h1:∀x∈vs,x.oneCell'=true)
  (hx:∀j x,cs[j]?=some x->Rep w S B β (vs.getD j undef) x):Rep w S B β (.agg vs) (.agg cs)
 |tup (vs:Array Value) (cs:List AV) (hs:vs.size=cs.length)
  (hx:∀j x,cs[j]?=some x->Rep w S B β (vs.getD j undef) x):Rep w S B β (.tuple vs) (.tup cs)
 |fn (f:Nat) (vs:Array Value) (cs:List AV) (hs:vs.size=cs.length)
  (hx:∀j x,cs[j]?=some x->Rep w S B β (vs.getD j undef) x):Rep w S B β (.func (.func f) #[] vs) (.fn f cs)
def Kb(w:World)(tag:Nat->Tag)(B r b top:Nat):Prop:=tag b=.own r/\B<=b/\kq w b top
def co(w:World)(tag:Nat->Tag)(B:Nat)(β:Nat->Option Own)(r:Nat):Option Row->Prop
 |none=>β r=none
 |some .dead=>β r=none
 |some (.var x)=>∃(b o:Nat)(v:Value),β r=some (.blk b o v.cells.size 1 1)/\Kb w tag B r b (o+v.cells.size)/\cM w b o v/\Rep w (Imm tag) B β v x/\v.cells.size=x.width
 |some (.arr n es)=>(β r=some .nil/\es=[])\/∃(b o cap:Nat)(vs:Nat->Value)(fps:Nat->List Nat),β r=some (.blk b o n cap es.length)/\Kb w tag B r b (o+cap*n)/\es.length<=cap/\
  (∀j x,es[j]?=some x->(vs j).cells.size=n/\cM w b (o+j*n) (vs j))/\(∀j x,es[j]?=some x->aQ w (Imm tag) B (vs j) x (fps j))/\
  (bP es.length fps).Nodup/\∀c∈bP es.length fps,tag c=.uq r
structure Fx where
 s:Nat->Prop
 w:World
 t:Nat->Tag
 own:Nat->Option Own
structure RR(n:Nat)(w0:World)(S0:Fx)(σ:St)(a:Act)(w:World)(tag:Nat->Tag)(β:Nat->Option Own):Prop where
 nn:n<=1000000000
 frm:Below 0 S0.w w
 keep:∀b,b<S0.w.heap.size->S0.t b=.imm\/S0.t b=.out->tag b=S0.t b/\w.heap[b]?=S0.w.heap[b]?
 kimm:∀b,Imm S0.t b->Imm tag b/\w.heap[b]?=S0.w.heap[b]?
 bk:∀r,1000000000<=r->cD (look r σ.rows)->β r=S0.own r
 below:Below w0.heap.size w0 w
 sz:a.tmps.size=n
 nodef:a.defers=[]
 s0lt:∀b,S0.s b->b<w0.heap.size
 lt:∀b,tag b≠.out->b<w.heap.size
 old:∀b,b<w0.heap.size->(tag b=.imm↔S0.s b)/\(tag b=.imm\/tag b=.out)
 env:∀k x,look k σ.env=some x->Rep w (Imm tag) w0.heap.size β (a.tmps.getD k undef) x/\∀r∈x.ments,(look r σ.rows).isSome
 rows:∀r,co w tag w0.heap.size β r (look r σ.rows)
 wfr:∀r x,look r σ.rows=some (.var x)->∀q∈x.ments,(look q σ.rows).isSome
def R(n:Nat)(w0:World)(S0:Fx)(σ:St)(a:Act)(w:World):Prop:=∃tag β,RR n w0 S0 σ a w tag β
def Wf(rows:List (Nat×Row)):Prop:=∀r x,look r rows=some (.var x)->∀q∈x.ments,(look q rows).isSome
def JE(H:World->Prop)(P:Program)(f:Nat)(args:List AV)(ins:List (Nat×Row))(res:AV)(outs:List (Nat×Row)):Prop:=
 (∃fn,P.funcs[f]?=some fn/\fn.body.isNone=false/\(fn.name== "runtime.NumGoroutine")=false)/\
 ∀ (w0 w : World) (tag : Nat → Tag) (β : Nat → Option Own) (vs : Array Value), Below w0.heap.size w0 w → (∀ b, b < w0.heap.size → tag b = .imm ∨ tag b = .out) → (∀ b, tag b ≠ .out → b < w.heap.size) →
   (∀r,co w tag w0.heap.size β r (look r ins))->Wf ins->vs.size=args.length->
   (∀(j:Nat)(x:AV),args[j]?=some x->Rep w (Imm tag) w0.heap.size β (vs.getD j undef) x/\∀r∈x.ments,(look r ins).isSome)->(∀W:World,(∀b,Imm tag b->W.heap[b]?=w.heap[b]?)->H W)->
   Calls P f vs w fun e w'=>∃v tag' β',e=.returned v/\Below 0 w w'/\(∀b,b<w.heap.size->tag b=.imm\/tag b=.out->tag' b=tag b/\w'.heap[b]?=w.heap[b]?)/\
    (∀b,Imm tag b->Imm tag' b/\w'.heap[b]?=w.heap[b]?)/\(∀b,tag' b≠.out->b<w'.heap.size)/\(∀r,co w' tag' w0.heap.size β' r (look r outs))/\Wf outs/\
    (∀r,1000000000<=r->cD (look r outs)->β' r=β r)/\Rep w' (Imm tag') w0.heap.size β' v res/\∀r∈res.ments,(look r outs).isSome
def OkM(P:Program)(f:Nat)(args:List AV)(ins:List (Nat×Row))(res:AV)(outs:List (Nat×Row)):Prop:=JE (fun _=>True) P f args ins res outs
def OkH(P:Program)(f:Nat)(args:List AV)(ins:List (Nat×Row))(res:AV)(outs:List (Nat×Row)):Prop:=
 (∃fn,P.funcs[f]?=some fn/\fn.body.isNone=false/\(fn.name== "runtime.NumGoroutine")=false)/\
 ∀ (w0 w : World) (tag : Nat → Tag) (β : Nat → Option Own) (vs : Array Value), Below w0.heap.size w0 w → (∀ b, b < w0.heap.size → tag b = .imm ∨ tag b = .out) → (∀ b, tag b ≠ .out → b < w.heap.size) →
   (∀r,co w tag w0.heap.size β r (look r ins))->Wf ins->vs.size=args.length->
   (∀(j:Nat)(x:AV),args[j]?=some x->Rep w (Imm tag) w0.heap.size β (vs.getD j undef) x/\∀r∈x.ments,(look r ins).isSome)->
   Calls P f vs w fun e w'=>∃v tag' β',e=.returned v/\Below 0 w w'/\(∀b,b<w.heap.size->tag b=.imm\/tag b=.out->tag' b=tag b/\w'.heap[b]?=w.heap[b]?)/\
    (∀b,tag' b≠.out->b<w'.heap.size)/\(∀r,co w' tag' w0.heap.size β' r (look r outs))/\Wf outs/\
    (∀r,1000000000<=r->cD (look r outs)->β' r=β r)/\Rep w' (Imm tag') w0.heap.size β' v res/\∀r∈res.ments,(look r outs).isSome
def OkT(H:World->Prop)(P:Program):Oks:=⟨OkR H P,JE H P,OkH P⟩
def OkS(P:Program):Oks:=⟨Ok P,OkM P,OkH P⟩
class HS (S0:Fx) (H:World->Prop):Prop where
 hs:∀w,(∀b,Imm S0.t b->w.heap[b]?=S0.w.heap[b]?)->H w
instance(S0:Fx):HS S0 (fun _=>True):=⟨fun _ _=>trivial⟩
theorem RR.hyp{H:World->Prop}{n:Nat}{w0:World}{S0:Fx}[HS S0 H]{σ:St}{a:Act}{w:World}{tag:Nat->Tag}{β:Nat->Option Own}(h:RR n w0 S0 σ a w tag β){W:World}(hW:∀b,Imm tag b->W.heap[b]?=w.heap[b]?):H W:=
 HS.hs W fun b hb=>(hW b (h.kimm b hb).1).trans (h.kimm b hb).2
theorem aC{α:Type}(k j:Nat)(x:α):∀l:List (Nat×α),look j (put k x l)=if j=k then some x else look j l
 |[]=>by simp[put,look,eq_comm]
 | (i, y) :: l => by
   simp only[put];by_cases h:i=k
   ·subst h;simp only[if_true,look];by_cases hj:i=j
    ·simp[hj]
    ·simp[hj,Ne.symm hj]
   ·simp only[h,if_false,look,aC k j x l];by_cases hj:i=j
    ·subst hj;simp[h]
    ·simp[hj]
theorem aU{n:Nat}{fps:Nat->List Nat}{c:Nat}:c∈bP n fps↔∃j,j<n/\c∈fps j:=by simp[bP]
theorem cM.mono{w w':World}{b pos:Nat}{v:Value}(h:cM w b pos v)(hb:w'.heap[b]?=w.heap[b]?):cM w' b pos v:=by
 intro i x hx;obtain⟨h1,h2⟩:=h i x hx;refine⟨?_,h2⟩;simp only[World.cell?] at h1⊢;rw[hb];exact h1
theorem kq.mono{w w':World}{b t:Nat}(h:kq w b t)(hb:w'.heap[b]?=w.heap[b]?):kq w' b t:=by
 obtain⟨c,ty,h1,h2⟩:=h;exact⟨c,ty,hb.trans h1,h2⟩
theorem Fl.ok.S{S:Nat->Prop}{B b:Nat}{f:Fl}(h:f.ok S B b):S b:=by cases f<;>simp_all [Fl.ok]
theorem Fl.ok.als{S:Nat->Prop}{B b:Nat}{f:Fl}(h:f.ok S B b):f.als.ok S B b:=by cases f<;>simp_all [Fl.ok,Fl.als]
theorem Fl.ok.mono{S S':Nat->Prop}{B b:Nat}{f:Fl}(h:f.ok S B b)(hs:S b->S' b):f.ok S' B b:=by cases f<;>simp_all [Fl.ok]
theorem aQ.nil0{w:World}{S:Nat->Prop}{B:Nat}(f:Fl)(n:Nat):aQ w S B (.slice none 0 0) (.lst f n []) []:=.nil f n none 0 ⟨fun _=>rfl,fun _=>rfl⟩
theorem aQ.mono{w w':World}{S S':Nat->Prop}{B:Nat}{v:Value}{x:AV}{fp:List Nat}(h:aQ w S B v x fp)
 (hs:∀b,S b->S' b/\w'.heap[b]?=w.heap[b]?):aQ w' S' B v x fp:=by
 induction h with
 |top v=>exact .top v
 |sc v h=>exact .sc v h
 |nil f n ad cap h=>exact .nil f n ad cap h
 | lst f n b o len cap xs vs fps hl hc hf hu hv hx ih =>
   exact .lst f n b o len cap xs vs fps hl hc (hf.mono fun h=>(hs b h).1) (fun e=>(hu e).mono (hs b hf.S).2)
    (fun j x hj=>⟨(hv j x hj).1,(hv j x hj).2.mono (hs b hf.S).2⟩) ih
 |agg vs cs fps h h1 hx ih=>exact .agg vs cs fps h h1 ih
 |tup vs cs fps h hx ih=>exact .tup vs cs fps h ih
 |fn f vs cs fps h hx ih=>exact .fn f vs cs fps h ih
 |ub b=>exact .ub b
 |bp f b o off v x hb hv hx ih=>exact .bp f b o off v x (hb.mono fun h=>(hs b h).1) (hv.mono (hs b hb.S).2) ih
theorem br:∀{cs:List AV}{j:Nat}{x:AV}{r:Nat},cs[j]?=some x->r∈x.ments->r∈aF cs
 |[],j,x,r,hj,_=>by simp at hj
 |c::cs,0,x,r,hj,hr=>by simp at hj;subst hj;simp[aF,hr]
 |c::cs,j+1,x,r,hj,hr=>by simp at hj;simp[aF,br hj hr]
theorem Rep.mono{w w':World}{S S':Nat->Prop}{B:Nat}{β β':Nat->Option Own}{v:Value}{x:AV}(h:Rep w S B β v x)
 (hs:∀b,S b->S' b/\w'.heap[b]?=w.heap[b]?) (hb:∀r∈x.ments,β' r=β r\/β' r=none):Rep w' S' B β' v x:=by
 induction h with
 |p v x h=>exact .p v x (h.mono hs)
 |slB r i n b o sz cap len c h hc hn hl=>exact(hb r (by simp[AV.ments])).elim (fun e=>.slB r i n b o sz cap len c (e.trans h) hc hn hl) (fun e=>.slD r i n _ e rfl)
 |slE r i b o sz cap len p h hp=>exact(hb r (by simp[AV.ments])).elim (fun e=>.slE r i b o sz cap len p (e.trans h) hp) (fun e=>.slD r i 0 _ e rfl)
 |slN r h=>exact(hb r (by simp[AV.ments])).elim (fun e=>.slN r (e.trans h)) (fun e=>.slD r 0 0 _ e rfl)
 |slD r i n v h h1=>exact .slD r i n v ((hb r (by simp[AV.ments])).elim (fun e=>e.trans h) id) h1
 |ptB r i off b o sz cap len h=>exact(hb r (by simp[AV.ments])).elim (fun e=>.ptB r i off b o sz cap len (e.trans h)) (fun e=>.ptD r i off _ e rfl)
 |ptD r i off v h h1=>exact .ptD r i off v ((hb r (by simp[AV.ments])).elim (fun e=>e.trans h) id) h1
 |tg f n len a xs hl h=>exact .tg f n len a xs hl (h.mono hs)
 |agg vs cs hsz h1 hx ih=>exact .agg vs cs hsz h1 (fun j x hj=>ih j x hj fun r hr=>hb r (by simpa[AV.ments] using br hj hr))
 |tup vs cs hsz hx ih=>exact .tup vs cs hsz (fun j x hj=>ih j x hj fun r hr=>hb r (by simpa[AV.ments] using br hj hr))
 |fn f vs cs hsz hx ih=>exact .fn f vs cs hsz (fun j x hj=>ih j x hj fun r hr=>hb r (by simpa[AV.ments] using br hj hr))
end Vs

namespace Vs
open Go Go.RowKit
def nQ:Value->AV->Bool
 | .int k n,.sc (.int k' n')=>decide (k=k')&&decide (n=n')
 | .bool b,.sc (.bool b')=>b==b'
 | .string s,.sc (.string s')=>decide (s.data.toList=s'.data.toList)
 | .pointer none,.sc (.pointer none)=>true
 | .nilFunc,.sc .nilFunc=>true
 | .slice none 0 0,.lst _ _ []=>true
 | .slice none 0 0,.sc (.slice none 0 0)=>true
 |_,_=>false
def kj:List Value->List AV->Bool
 |[],[]=>true
 |v::vs,c::cs=>nQ v c&&kj vs cs
 |_,_=>false
def iv:Value->AV->Bool
 | .agg vs,.agg cs=>kj vs.toList cs
 |v,a=>nQ v a
def cx:Operand->X->Bool
 | .tmp t,.t n=>t==n
 | .const v,.c a=>iv v a
 | .func f,.c (.fn g [])=>f==g
 |_,_=>false
def eS:List Operand->List X->Bool
 |[],[]=>true
 |x::xs,y::ys=>cx x y&&eS xs ys
 |_,_=>false
def gF:Option Operand->Option X->Bool
 |none,none=>true
 |some x,some y=>cx x y
 |_,_=>false
def kl(P:Program)(t n:Nat):Bool:=(P.info? t).map (·.size)==some n
def mJ(P:Program)(t:Nat)(ag:Bool):Bool:=match P.underlying t with
 |some (.struct _)=>ag
 |some (.array _ _)=>ag
 |some _=>!ag
 |none=>false
def fB(P:Program)(t n:Nat):Bool:=match P.underlying t with
 |some (.slice e)=>kl P e n&&decide (0<n)
 |_=>false
def jv(P:Program)(t:Nat)(z:AV):Bool:=match P.info? t with
 | some i => match i.zero with
   |some v=>iv v z
   |none=>false
 |none=>false
def iQ(P:Program)(t bytes:Nat):Bool:=match P.underlying t with
 |some (.slice e)=>(P.info? e).map (·.bytes)==some bytes&&decide (0<bytes)
 |_=>false
def sO(P:Program)(t n:Nat):Bool:=match P.underlying t with
 | some (.slice e) => match P.info? e with
   | some i => match i.zero with
     |some v=>v.cells.size==n
     |none=>false
   |none=>false
 |_=>false
def mq(P:Program)(t:Nat)(z:AV):Bool:=match P.underlying t with
 |some (.slice e)=>jv P e z
 |_=>false
def nG(P:Program)(t f off n:Nat):Bool:=match P.underlying t with
 | some (.struct fs) => match fs[f]? with
   |some g=>g.offset==off&&kl P g.type n&&decide (0<n)
   |none=>false
 |_=>false
def uH(P:Program)(t:Nat):Bool:=match P.underlying t with
 |some .string=>true
 |_=>false
def wg(P:Program)(t:Nat):Bool:=match P.underlying t with
 |some .bool=>true
 |_=>false
def Be(P:Program)(t:Nat):Bool:=match P.underlying t with
 |some (.slice _)=>true
 |_=>false
def oM(P:Program)(t:Nat)(k:IntKind):Bool:=match P.underlying t with
 |some (.int q)=>decide (q=k)
 |_=>false
def mQ(P:Program)(t:Nat):Bool:=match P.underlying t with
 |some (.struct fs)=>fs.all fun f=>(P.info? f.type).isSome
 |_=>false
def ga(P:Program)(t:Nat):List (Nat×Operand)->List (Nat×Nat×X)->Bool
 |[],[]=>true
 |(f,x)::ps,(off,n,y)::qs=>nG P t f off n&&cx x y&&ga P t ps qs
 |_,_=>false
def pF:Nat->List (Nat×Operand)->List X->Bool
 |_,[],[]=>true
 |k,(i,x)::ps,y::qs=>i==k&&cx x y&&pF (k+1) ps qs
 |_,_,_=>false
def aX(P:Program):Op->AOp->Bool
 | .move x,.mv y=>cx x y
 | .assign x,.mv y=>cx x y
 | .pick c x y,.pick c' x' y'=>cx c c'&&cx x x'&&cx y y'
 | .alloc t,.alloc z=>jv P t z
 | .box _ x,.box n y=>cx x y&&decide (0<n)
 | .build t ps,.build z qs=>jv P t (.agg z)&&mQ P t&&ga P t ps.toList qs
 | .buildSlice t len ps,.bsl n _ qs=>fB P t n&&sO P t n&&len==qs.length&&decide (len*n<=16777216)&&pF 0 ps.toList qs
 | .buildSlice t len ps,.bsm n qs=>fB P t n&&sO P t n&&len==qs.length&&decide (len*n<=16777216)&&pF 0 ps.toList qs
 | .load t x,.load n ag y=>kl P t n&&mJ P t ag&&cx x y
 | .store t x v,.store n y u=>kl P t n&&decide (0<n)&&cx x y&&cx v u
 | .load t x,.ldv _ n ag y=>kl P t n&&mJ P t ag&&cx x y
 | .load t x,.lde _ n ag y=>kl P t n&&mJ P t ag&&cx x y
 | .store t x v,.str n y u=>kl P t n&&decide (0<n)&&cx x y&&cx v u
 | .load t x,.lda n ag y=>kl P t n&&mJ P t ag&&cx x y
 | .store t x v,.stv n y u=>kl P t n&&decide (0<n)&&cx x y&&cx v u
 | .store t x v,.stw _ n y u=>kl P t n&&decide (0<n)&&cx x y&&cx v u
 | .binOp op _ x y _,.bin op' x' y'=>decide (op=op')&&cx x x'&&cx y y'
 | .binOp op t x y _,.beq neg x' y'=>wg P t&&decide (op=if neg then .neq else .eql)&&cx x x'&&cx y y'
 | .unOp op _ x,.un op' y=>decide (op=op')&&cx x y
 | .convert s t x,.conv k y=>oM P t k&&(P.underlying s).isSome&&cx x y
 | .convert s t x,.b2s y=>(match P.underlying s with|some (.slice e)=>oM P e .u8|_=>false)&&uH P t&&cx x y
 | .makeFunc (.func f) first cs,.mkf g ds=>f==g&&first.isEmpty&&eS cs.toList ds
 | .makeSlice t l c,.mks n z bytes l' c'=>fB P t n&&iQ P t bytes&&mq P t z&&cx l l'&&cx c c'
 | .slice t x lo hi mx,.slc n y lo' hi' mx'=>fB P t n&&cx x y&&gF lo lo'&&gF hi hi'&&gF mx mx'
 | .fieldAddr t x f,.fad off y=>(match P.underlying t with
  | some (.struct fs) => match fs[f]? with
    |some g=>g.offset==off&&(match P.info? g.type with|some i=>decide (0<i.size)|none=>false)
    |none=>false
  |_=>false)&&cx x y
 | .fieldAddr t x f,.fdv _ off y=>(match P.underlying t with
  | some (.struct fs) => match fs[f]? with
    |some g=>g.offset==off&&(match P.info? g.type with|some i=>decide (0<i.size)|none=>false)
    |none=>false
  |_=>false)&&cx x y
 | .indexAddr t x i,.idx n y j=>fB P t n&&cx x y&&cx i j
 | .indexAddr t x i,.idv _ n y j=>fB P t n&&cx x y&&cx i j
 | .index t x i,.stri y j=>uH P t&&cx x y&&cx i j
 | .extract x j,.ext y k=>cx x y&&j==k
 | .nilCheck x,.nilc y=>cx x y
 | .call c,.call f ys=>(match c.callee with| .value (.func g)=>g==f|_=>false)&&eS c.args.toList ys
 | .call c,.dyn y ys=>(match c.callee with| .value x=>cx x y|_=>false)&&eS c.args.toList ys
 | .call c,.callM f ys _=>(match c.callee with| .value (.func g)=>g==f|_=>false)&&eS c.args.toList ys
 | .call c,.dynM y ys _=>(match c.callee with| .value x=>cx x y|_=>false)&&eS c.args.toList ys
 | .call c,.len y=>(match c.callee with| .builtin .len=>true|_=>false)&&eS c.args.toList [y]&&(match c.argTypes[0]? with|some t=>Be P t|none=>false)
 | .call c,.lnv _ y=>(match c.callee with| .builtin .len=>true|_=>false)&&eS c.args.toList [y]&&(match c.argTypes[0]? with|some t=>Be P t|none=>false)
 | .call c,.lenz y=>(match c.callee with| .builtin .len=>true|_=>false)&&eS c.args.toList [y]&&(match c.argTypes[0]? with|some t=>uH P t|none=>false)
 | .call c,.capn y=>(match c.callee with| .builtin .cap=>true|_=>false)&&eS c.args.toList [y]&&(match c.argTypes[0]? with|some t=>Be P t|none=>false)
 | .call c,.app n bytes _ y z=>(match c.callee with| .builtin .append=>true|_=>false)&&eS c.args.toList [y,z]&&
  (match c.argTypes.toList with|[t,u]=>t==u&&fB P t n&&iQ P t bytes&&sO P t n|_=>false)
 | .call c,.apz n z bytes y l=>(match c.callee with| .builtin .append=>true|_=>false)&&eS c.args.toList [y,l]&&
  (match c.argTypes.toList with|[t,u]=>fB P t n&&iQ P t bytes&&mq P t z&&oM P u .i64|_=>false)
 | .binOp op t x y _,.isn neg x'=>Be P t&&decide (op=if neg then .neq else .eql)&&cx x x'&&(match y with| .const (.slice none 0 0)=>true|_=>false)
 | .slice t x lo hi mx,.slg n y hi'=>fB P t n&&cx x y&&lo.isNone&&gF hi (some hi')&&mx.isNone
 | .call c,.clr n z y=>(match c.callee with| .builtin .clear=>true|_=>false)&&eS c.args.toList [y]&&(match c.argTypes[0]? with|some t=>fB P t n&&mq P t z|none=>false)
 | .call c,.cpy n y z=>(match c.callee with| .builtin .copy=>true|_=>false)&&eS c.args.toList [y,z]&&(match c.argTypes.toList with|[t,_]=>fB P t n|_=>false)
 |_,.bad=>true
 |_,_=>false
def gP:AOp->Bool
 | .store _ _ _| .str _ _ _| .stv _ _ _| .stw _ _ _ _=>true
 |_=>false
def Iw:AOp->Bool
 | .clr _ _ _| .cpy _ _ _=>true
 |_=>false
def OZ:AOp->Bool
 | .bad=>true
 |_=>false
def dS(P:Program)(n:Nat)(ops:Array Oper)(o:Oper)(ao:aV):Bool:=
 decide (o.dst=ao.d)&&aX P o.op ao.op&&
 (match ao.d with|some d=>decide (d<n)&&!gP ao.op|none=>gP ao.op||Iw ao.op||OZ ao.op)&&
 (match o.guard,ao.gd with
  |none,none=>true
  |some (j,b),some (s,b')=>decide ((ops[j]?).bind (·.dst)=some s)&&b==b'
  |_,_=>false)
def bO(P:Program)(n:Nat)(ops:Array Oper):List Oper->List aV->Bool
 |[],[]=>true
 |o::os,a::bs=>dS P n ops o a&&bO P n ops os bs
 |_,_=>false
theorem bi(n:Nat)(f:Nat->List Nat)(h:∀j,j<n->f j=[]):bP n f=[]:=by
 unfold bP;rw[List.flatMap_eq_nil_iff];intro j hj;exact h j (by simpa using hj)
theorem iA{v:Value}{a:AV}(h:nQ v a=true)(w:World)(S:Nat->Prop)(B:Nat):
 aQ w S B v a []/\v.cells=#[v]/\v.oneCell'=true/\a.width=1/\a.ments=[]:=by
 unfold nQ at h;split at h
 ·simp at h;obtain⟨rfl,rfl⟩:=h;exact⟨.sc _ rfl,rfl,rfl,rfl,by simp[AV.ments]⟩
 ·simp at h;subst h;exact⟨.sc _ rfl,rfl,rfl,rfl,by simp[AV.ments]⟩
 ·rename_i s s';have:s=s':=by
   have h2:s.data.toList=s'.data.toList:=by simpa using h
   have h3:s.data=s'.data:=by simpa using h2
   cases s;cases s';simp_all
  subst this;exact⟨.sc _ rfl,rfl,rfl,rfl,by simp[AV.ments]⟩
 ·exact⟨.sc _ rfl,rfl,rfl,rfl,by simp[AV.ments]⟩
 ·exact⟨.sc _ rfl,rfl,rfl,rfl,by simp[AV.ments]⟩
 ·exact⟨.nil0 _ _,rfl,rfl,rfl,by simp[AV.ments]⟩
 ·exact⟨.sc _ rfl,rfl,rfl,rfl,by simp[AV.ments]⟩
 ·cases h
theorem pd:∀{vs:List Value}{cs:List AV},kj vs cs=true->vs.length=cs.length/\∀(j:Nat)(x:AV),cs[j]?=some x->∃v,vs[j]?=some v/\nQ v x=true
 |[],[],_=>⟨rfl,by simp⟩
 | v :: vs, c :: cs, h => by
   simp[kj] at h;obtain⟨h1,h2⟩:=pd h.2;refine⟨by simp[h1],fun j x hj=>?_⟩;cases j with
   |zero=>simp at hj;subst hj;exact⟨v,rfl,h.1⟩
   |succ j=>simp at hj;obtain⟨u,hu,hc⟩:=h2 j x hj;exact⟨u,by simpa using hu,hc⟩
 |[],_::_,h=>by simp[kj] at h
 |_::_,[],h=>by simp[kj] at h
theorem bB{cs:List AV}{r:Nat}:r∈aF cs↔∃c∈cs,r∈c.ments:=by
 induction cs with
 |nil=>simp[aF]
 |cons c cs ih=>simp[aF,ih]
theorem eE{v:Value}{a:AV}(h:iv v a=true)(w:World)(S:Nat->Prop)(B:Nat):
 aQ w S B v a []/\v.cells.size=a.width/\(∀x∈v.cells,x.oneCell'=true)/\a.ments=[]:=by
 unfold iv at h;split at h
 ·rename_i vs cs;obtain⟨hl,hat⟩:=pd h;have hsz:vs.size=cs.length:=by simpa using hl
  have hone:∀x∈vs,x.oneCell'=true:=by
   intro x hx;obtain⟨i,hi,rfl⟩:=Array.mem_iff_getElem.1 hx;have hi':i<cs.length:=by omega
   obtain⟨v,hv,hc⟩:=hat i cs[i] (by simp[hi']);have:v=vs[i]:=by simpa[hi,eq_comm] using hv
   subst this;exact(iA hc w S B).2.2.1
  refine⟨?_,by simpa[Value.cells,AV.width] using hsz,by simpa[Value.cells] using hone,?_⟩
  ·have:=aQ.agg (w:=w) (S:=S) (B:=B) vs cs (fun _=>[]) hsz hone (fun j x hj=>by
    obtain⟨v,hv,hc⟩:=hat j x hj;have:vs.getD j undef=v:=by
     have:=List.getElem?_eq_some_iff.1 hv;obtain⟨hlt,he⟩:=this;simp at hlt he;simp[Array.getD,hlt,he]
    rw[this];exact(iA hc w S B).1)
   rwa[bi _ _ fun _ _=>rfl] at this
  ·simp only[AV.ments];apply List.eq_nil_iff_forall_not_mem.2;intro r hr;obtain⟨c,hc,hr⟩:=bB.1 hr;obtain⟨j,hj,rfl⟩:=List.getElem_of_mem hc;obtain⟨v,hv,h1⟩:=hat j cs[j] (by simp[hj]);have:=(iA h1 w S B).2.2.2.2;simp[this] at hr
 ·obtain⟨h1,h2,h3,h4,h5⟩:=iA h w S B;refine⟨h1,by simp[h2,h4],by rw[h2];simpa using h3,h5⟩
end Vs

namespace Vs
open Go Go.RowKit
variable{P:Program}{n:Nat}{w0:World}{S0:Fx}{σ:St}{a:Act}{w:World}{tag:Nat->Tag}{β:Nat->Option Own}
theorem ua(l:Array Value)(d k:Nat)(v u:Value)(hd:d<l.size):(l.setIfInBounds d v).getD k u=if k=d then v else l.getD k u:=by
 by_cases h:k=d
 ·subst h;simp[Array.getD,hd]
 ·simp only[h,if_false,Array.getD,Array.size_setIfInBounds];split
  ·rename_i hk;rw[Array.getInternal_eq_getElem,Array.getInternal_eq_getElem,Array.getElem_setIfInBounds hk];simp[Ne.symm h]
  ·rfl
def St.dom(σ:St)(x:AV):Prop:=∀r∈x.ments,(look r σ.rows).isSome
theorem RR.get(h:RR n w0 S0 σ a w tag β)(k:Nat):Rep w (Imm tag) w0.heap.size β (a.tmps.getD k undef) (σ.get k)/\σ.dom (σ.get k):=by
 simp only[St.get,St.dom];cases hk:look k σ.env with
 |none=>exact⟨.p _ _ (.top _),by simp[AV.ments]⟩
 |some x=>exact h.env k x hk
theorem RR.gx(h:RR n w0 S0 σ a w tag β){x:Operand}{y:X}(hm:cx x y=true):Rep w (Imm tag) w0.heap.size β (a.eval x) (σ.gx y)/\σ.dom (σ.gx y):=by
 unfold cx at hm;split at hm
 ·simp at hm;subst hm;exact h.get _
 ·obtain⟨h1,_,_,h4⟩:=eE hm w (Imm tag) w0.heap.size;exact⟨.p _ _ h1,by simp[St.dom,St.gx,h4]⟩
 ·simp at hm;subst hm;refine⟨.fn _ _ _ rfl (by simp),by simp[St.dom,St.gx,AV.ments,aF]⟩
 ·cases hm
theorem RR.step(h:RR n w0 S0 σ a w tag β){d:Nat}(hd:d<n){v:Value}{x:AV}(hr:Rep w (Imm tag) w0.heap.size β v x)(hm:σ.dom x):
 RR n w0 S0 (σ.app (some d) x []) (a.put (some d) v) w tag β where
 nn:=h.nn
 frm:=h.frm
 keep:=h.keep
 kimm:=h.kimm
 bk:=by simpa[St.app,bc] using h.bk
 below:=h.below
 sz:=by simp[Act.put,h.sz]
 nodef:=h.nodef
 s0lt:=h.s0lt
 lt:=h.lt
 old:=h.old
 env:=by
  intro k y hk;simp only[St.app,aC] at hk;simp only[Act.put,ua _ _ _ _ _ (h.sz▸hd)];split at hk
  ·rename_i e;subst e;simp at hk;subst hk;simpa[St.app,bc] using⟨hr,hm⟩
  ·rename_i e;simp only[e,if_false];simpa[St.app,bc] using h.env k y hk
 rows:=by simpa[St.app,bc] using h.rows
 wfr:=by simpa[St.app,bc] using h.wfr
def Snd(P:Program)(n:Nat)(w0:World)(S0:Fx)(σ:St)(o:Oper)(K:AV->List (Nat×Row)->Prop)(a:Act)(w:World):Prop:=
 ∀(next:Act->World->Prop)(Q:Exit->Act->World->Prop),(∀a' w' x u,K x u->R n w0 S0 (σ.app o.dst x u) a' w'->next a' w')->o.wp P a w next Q
theorem Snd.value{o:Oper}{K:AV->List (Nat×Row)->Prop}{v:Value}{x:AV}{u:List (Nat×Row)}{w':World}
 (hrun:(execOp a.eval o).run P w=.ok (.value v) w') (hk:K x u) (hR:R n w0 S0 (σ.app o.dst x u) (a.put o.dst v) w'):Snd P n w0 S0 σ o K a w:=by
 intro next Q hn
 unfold Oper.wp;rw[hrun];exact hn _ _ _ _ hk hR
theorem Snd.val{o:Oper}{K:AV->List (Nat×Row)->Prop}{v:Value}{x:AV}{d:Nat}(h:RR n w0 S0 σ a w tag β)(hod:o.dst=some d)(hd:d<n)
 (hrun:(execOp a.eval o).run P w=.ok (.value v) w) (hk:K x []) (hr:Rep w (Imm tag) w0.heap.size β v x) (hm:σ.dom x):Snd P n w0 S0 σ o K a w:=
 .value hrun hk (by rw[hod];exact⟨tag,β,h.step hd hr hm⟩)
section inversions
variable{S:Nat->Prop}{B:Nat}
theorem Rep.int_inv{v:Value}{k:IntKind}{m:Int}(h:Rep w S B β v (.sc (.int k m))):v=.int k m:=by
 cases h with|p v x h=>cases h;rfl
theorem Rep.bool_inv{v:Value}{b:Bool}(h:Rep w S B β v (.sc (.bool b))):v=.bool b:=by
 cases h with|p v x h=>cases h;rfl
theorem Rep.str_inv{v:Value}{s:ByteArray}(h:Rep w S B β v (.sc (.string s))):v=.string s:=by
 cases h with|p v x h=>cases h;rfl
theorem Rep.ub_inv{v:Value}(h:Rep w S B β v .ub):∃b,v=.bool b:=by
 cases h with|p v x h=>cases h with|ub b=>exact⟨b,rfl⟩
theorem Rep.int_mk(k:IntKind)(m:Int):Rep w S B β (.int k m) (.sc (.int k m)):=.p _ _ (.sc _ rfl)
theorem Rep.bool_mk(b:Bool):Rep w S B β (.bool b) (.sc (.bool b)):=.p _ _ (.sc _ rfl)
theorem Rep.str_mk(s:ByteArray):Rep w S B β (.string s) (.sc (.string s)):=.p _ _ (.sc _ rfl)
end inversions
theorem cn(v:Value):σ.dom (.sc v):=by simp[St.dom,AV.ments]
section ops
variable{o:Oper}{K:AV->List (Nat×Row)->Prop}{d:Nat}(h:RR n w0 S0 σ a w tag β)(hod:o.dst=some d)(hd:d<n)
include h hod hd
theorem Fy{x:Operand}{y:X}(hop:o.op=.move x\/o.op=.assign x)(hm:cx x y=true)(hk:K (σ.gx y) []):Snd P n w0 S0 σ o K a w:=by
 refine .val h hod hd (v:=a.eval x) ?_ hk (h.gx hm).1 (h.gx hm).2;rcases hop with e|e<;>simp[execOp,e]
theorem Dc{c x y:Operand}{c' x' y':X}(hop:o.op=.pick c x y)(hm:aX P (.pick c x y) (.pick c' x' y')=true)(hk:ku K (σ.gx c') (σ.gx x') (σ.gx y')):Snd P n w0 S0 σ o K a w:=by
 simp[aX] at hm;have hc:=(h.gx hm.1.1).1;unfold ku at hk;split at hk
 ·rename_i t e;rw[e] at hc;have hv:=hc.bool_inv;cases t with
  |true=>exact .val h hod hd (v:=a.eval x) (by simp[execOp,hop,hv,asBool]) (hk.1 rfl) (h.gx hm.1.2).1 (h.gx hm.1.2).2
  |false=>exact .val h hod hd (v:=a.eval y) (by simp[execOp,hop,hv,asBool]) (hk.2 rfl) (h.gx hm.2).1 (h.gx hm.2).2
 ·exact hk.elim
theorem ki{k:IntKind}{m:Int}(hrun:(execOp a.eval o).run P w=.ok (.value (.int k (k.wrap m))) w)(hk:ofI k m (k1 K)):Snd P n w0 S0 σ o K a w:=by
 exact .val h hod hd hrun hk (.int_mk _ _) (cn _)
theorem Lz{op:BinOp}{t u:Nat}{x y:Operand}{x' y':X}(hop:o.op=.binOp op t x y u)(hm:aX P (.binOp op t x y u) (.bin op x' y')=true)
 (hk:cV op (σ.gx x') (σ.gx y') (k1 K)):Snd P n w0 S0 σ o K a w:=by
 simp[aX] at hm;have hx:=(h.gx hm.1).1;have hy:=(h.gx hm.2).1;unfold cV at hk;split at hk
 ·rename_i k p k' q e1 e2;rw[e1] at hx;rw[e2] at hy;have hx:=hx.int_inv;have hy:=hy.int_inv;have hg:∀op,eqGuard op t x y (.int k p) (.int k' q)=pure ():=by intro op;cases op<;>simp[eqGuard]<;>rfl
  split at hk
  ·obtain⟨h0,h1⟩:=hk;refine ki h hod hd (k:=k) ?_ h1;simp[execOp,hop,hx,hy,hg,binOp,Op.shift,show¬q<0 by omega]
  ·obtain⟨h0,h1⟩:=hk;refine .val h hod hd ?_ h1 (.int_mk _ _) (cn _);simp[execOp,hop,hx,hy,hg,binOp,Op.shift,show¬q<0 by omega]
  ·obtain⟨rfl,h1⟩:=hk;unfold dw at h1;split at h1
   ·exact ki h hod hd (by simp[execOp,hop,hx,hy,hg,binOp,Op.intArith]) h1
   ·exact ki h hod hd (by simp[execOp,hop,hx,hy,hg,binOp,Op.intArith]) h1
   ·exact ki h hod hd (by simp[execOp,hop,hx,hy,hg,binOp,Op.intArith]) h1
   ·exact ki h hod hd (by simp[execOp,hop,hx,hy,hg,binOp,Op.intDiv,h1.1]) h1.2
   ·exact .val h hod hd (by simp[execOp,hop,hx,hy,hg,binOp,Op.intDiv,h1.1]) h1.2 (.int_mk _ _) (cn _)
   ·exact .val h hod hd (by simp[execOp,hop,hx,hy,hg,binOp,Op.intBits,bits]) h1 (.int_mk _ _) (cn _)
   ·exact .val h hod hd (by simp[execOp,hop,hx,hy,hg,binOp,Op.intBits,bits]) h1 (.int_mk _ _) (cn _)
   ·exact .val h hod hd (by simp[execOp,hop,hx,hy,hg,binOp,Op.intBits,bits]) h1 (.int_mk _ _) (cn _)
   ·exact .val h hod hd (by simp[execOp,hop,hx,hy,hg,binOp,Op.intBits,bits]) h1 (.int_mk _ _) (cn _)
   ·exact .val h hod hd (by simp[execOp,hop,hx,hy,hg,binOp,Op.intCmp]) h1 (.bool_mk _) (cn _)
   ·exact .val h hod hd (by simp[execOp,hop,hx,hy,hg,binOp,Op.intCmp]) h1 (.bool_mk _) (cn _)
   ·exact .val h hod hd (by simp[execOp,hop,hx,hy,hg,binOp,Op.intCmp]) h1 (.bool_mk _) (cn _)
   ·exact .val h hod hd (by simp[execOp,hop,hx,hy,hg,binOp,Op.intCmp]) h1 (.bool_mk _) (cn _)
   ·exact .val h hod hd (by simp[execOp,hop,hx,hy,hg,binOp,Op.intCmp]) h1 (.bool_mk _) (cn _)
   ·exact .val h hod hd (by simp[execOp,hop,hx,hy,hg,binOp,Op.intCmp]) h1 (.bool_mk _) (cn _)
   ·exact h1.elim
 ·rename_i p q e1 e2;rw[e1] at hx;rw[e2] at hy;have hx:=hx.str_inv;have hy:=hy.str_inv;have hg:∀op,eqGuard op t x y (.string p) (.string q)=pure ():=by intro op;cases op<;>simp[eqGuard]<;>rfl
  split at hk
  ·obtain⟨hk1,hk⟩:=hk;refine .val h hod hd (v:=.string (p++q)) ?_ hk (.str_mk _) (cn _);have e:¬((p.size:Int)+(q.size:Int)>9223372036854775807):=by omega
   simp[execOp,hop,hx,hy,hg,binOp,Op.stringOp,IntKind.max,IntKind.bits,IntKind.signed,e]
  ·exact .val h hod hd (by simp[execOp,hop,hx,hy,hg,binOp,Op.stringOp]) hk (.bool_mk _) (cn _)
  ·exact .val h hod hd (by simp[execOp,hop,hx,hy,hg,binOp,Op.stringOp]) hk (.bool_mk _) (cn _)
  ·exact hk.elim
 ·exact hk.elim
end ops
end Vs

namespace Vs
open Go Go.RowKit
variable{P:Program}{n:Nat}{w0:World}{S0:Fx}{σ:St}{a:Act}{w:World}{tag:Nat->Tag}{β:Nat->Option Own}
theorem dR{P:Program}{t k:Nat}(h:fB P t k=true):∃e i,P.underlying t=some (.slice e)/\P.info? e=some i/\i.size=k/\0<k:=by
 unfold fB at h;split at h
 ·rename_i e he;simp[kl] at h;obtain⟨⟨i,h1,h2⟩,h3⟩:=h;exact⟨e,i,he,h1,h2,h3⟩
 ·cases h
theorem nP{P:Program}{t:Nat}(h:uH P t=true):P.underlying t=some .string:=by
 unfold uH at h;split at h
 ·assumption
 ·cases h
theorem BU{P:Program}{t:Nat}(h:wg P t=true):P.underlying t=some .bool:=by
 unfold wg at h;split at h
 ·assumption
 ·cases h
section inv
variable{S:Nat->Prop}{B:Nat}
theorem Rep.lst_inv{v:Value}{f:Fl}{k:Nat}{xs:List AV}(h:Rep w S B β v (.lst f k xs)):aQ w S B v (.lst f k xs) []:=by
 cases h with|p v x h=>exact h
theorem Rep.bp_inv{v:Value}{f:Fl}{x:AV}{off:Nat}(h:Rep w S B β v (.bp f x off)):
 ∃b o u,v=.pointer (some ⟨b,o+off,none⟩)/\f.ok S B b/\cM w b o u/\aQ w S B u x []:=by
 cases h with|p v x h=>cases h with|bp f b o off v x hb hv hx=>exact⟨b,o,v,rfl,hb,hv,hx⟩
theorem gQ{m:Nat}{fps:Nat->List Nat}(h:bP m fps=[]):∀j,j<m->fps j=[]:=by
 intro j hj;unfold bP at h;rw[List.flatMap_eq_nil_iff] at h;exact h j (by simpa using hj)
theorem aQ.agg_inv{v:Value}{cs:List AV}(h:aQ w S B v (.agg cs) []):∃vs,v=.agg vs/\vs.size=cs.length/\(∀x∈vs,x.oneCell'=true)/\
 ∀(j:Nat)(x:AV),cs[j]?=some x->aQ w S B (vs.getD j undef) x []:=by
 have key:∀fp,aQ w S B v (.agg cs) fp->fp=[]->∃vs,v=.agg vs/\vs.size=cs.length/\(∀x∈vs,x.oneCell'=true)/\
  ∀(j:Nat)(x:AV),cs[j]?=some x->aQ w S B (vs.getD j undef) x []:=by
  intro fp h hfp;cases h with
  | agg vs cs fps hs h1 hx =>
    refine⟨vs,rfl,hs,h1,fun j x hj=>?_⟩;have:=hx j x hj;rwa[gQ hfp j (List.getElem?_eq_some_iff.1 hj).1] at this
 exact key _ h rfl
theorem Rep.agg_inv{v:Value}{cs:List AV}(h:Rep w S B β v (.agg cs)):∃vs,v=.agg vs/\vs.size=cs.length/\(∀x∈vs,x.oneCell'=true)/\
 ∀(j:Nat)(x:AV),cs[j]?=some x->Rep w S B β (vs.getD j undef) x:=by
 cases h with
 | p v x h =>
   obtain⟨vs,h1,h2,h3,h4⟩:=h.agg_inv;exact⟨vs,h1,h2,h3,fun j x hj=>.p _ _ (h4 j x hj)⟩
 |agg vs cs hs h1 hx=>exact⟨vs,rfl,hs,h1,hx⟩
theorem Rep.tup_inv{v:Value}{cs:List AV}(h:Rep w S B β v (.tup cs)):∃vs,v=.tuple vs/\vs.size=cs.length/\
 ∀(j:Nat)(x:AV),cs[j]?=some x->Rep w S B β (vs.getD j undef) x:=by
 cases h with
 | p v x h =>
   have key:∀fp,aQ w S B v (.tup cs) fp->fp=[]->∃vs,v=.tuple vs/\vs.size=cs.length/\
    ∀(j:Nat)(x:AV),cs[j]?=some x->Rep w S B β (vs.getD j undef) x:=by
    intro fp h hfp;cases h with
    | tup vs cs fps hs hx =>
      refine⟨vs,rfl,hs,fun j x hj=>.p _ _ ?_⟩;have:=hx j x hj;rwa[gQ hfp j (List.getElem?_eq_some_iff.1 hj).1] at this
   exact key _ h rfl
 |tup vs cs hs hx=>exact⟨vs,rfl,hs,hx⟩
theorem Rep.fn_inv{v:Value}{g:Nat}{cs:List AV}(h:Rep w S B β v (.fn g cs)):∃vs,v=.func (.func g) #[] vs/\vs.size=cs.length/\
 ∀(j:Nat)(x:AV),cs[j]?=some x->Rep w S B β (vs.getD j undef) x:=by
 cases h with
 | p v x h =>
   have key:∀fp,aQ w S B v (.fn g cs) fp->fp=[]->∃vs,v=.func (.func g) #[] vs/\vs.size=cs.length/\
    ∀(j:Nat)(x:AV),cs[j]?=some x->Rep w S B β (vs.getD j undef) x:=by
    intro fp h hfp;cases h with
    | fn g vs cs fps hs hx =>
      refine⟨vs,rfl,hs,fun j x hj=>.p _ _ ?_⟩;have:=hx j x hj;rwa[gQ hfp j (List.getElem?_eq_some_iff.1 hj).1] at this
   exact key _ h rfl
 |fn g vs cs hs hx=>exact⟨vs,rfl,hs,hx⟩
theorem aQ.one{v:Value}{x:AV}{fp:List Nat}(h:aQ w S B v x fp)(hx:x.isAgg=false)(hw:x.width=1):v.cells=#[v]/\v.oneCell'=true:=by
 cases h with
 |top v=>simp[AV.width] at hw
 |sc v h=>exact⟨by cases v<;>simp_all [Value.cells,Value.oneCell'],h⟩
 |nil=>exact⟨rfl,rfl⟩
 |lst=>exact⟨rfl,rfl⟩
 |agg=>simp[AV.isAgg] at hx
 |tup=>simp[AV.width] at hw
 |fn=>exact⟨rfl,rfl⟩
 |ub b=>exact⟨rfl,rfl⟩
 |bp=>exact⟨rfl,rfl⟩
theorem my{v:Value}(h:v.oneCell'=true):v.cells=#[v]:=by cases v<;>simp_all [Value.cells,Value.oneCell']
theorem Rep.one{v:Value}{x:AV}(h:Rep w S B β v x)(hx:x.isAgg=false)(hw:x.width=1):v.cells=#[v]/\v.oneCell'=true:=by
 cases h with
 |p v x h=>exact h.one hx hw
 |slB=>exact⟨rfl,rfl⟩
 |slE=>exact⟨rfl,rfl⟩
 |slN=>exact⟨rfl,rfl⟩
 |slD r i n v h h1=>exact⟨my h1,h1⟩
 |ptB=>exact⟨rfl,rfl⟩
 |ptD r i off v h h1=>exact⟨my h1,h1⟩
 |tg=>exact⟨rfl,rfl⟩
 |agg=>simp[AV.isAgg] at hx
 |tup=>simp[AV.width] at hw
 |fn=>exact⟨rfl,rfl⟩
theorem Rep.width{v:Value}{x:AV}(h:Rep w S B β v x)(hw:0<x.width):v.cells.size=x.width/\∀c∈v.cells,c.oneCell'=true:=by
 cases hx:x.isAgg with
 | true =>
   cases x<;>simp[AV.isAgg] at hx;obtain⟨vs,rfl,h2,h3,_⟩:=h.agg_inv;exact⟨by simpa[Value.cells,AV.width] using h2,by simpa[Value.cells] using h3⟩
 | false =>
   have:x.width=1:=by cases x<;>simp_all [AV.width,AV.isAgg]
   obtain⟨h1,h2⟩:=h.one hx this;rw[h1,this];exact⟨rfl,by simpa using h2⟩
theorem iJ{xs:List AV}{j:Nat}:(da xs)[j]?=(xs[j]?).map AV.als:=by
 induction xs generalizing j with
 |nil=>simp[da]
 |cons x xs ih=>cases j<;>simp[da,ih]
theorem gp{xs:List AV}:(da xs).length=xs.length:=by induction xs<;>simp_all [da]
theorem aQ.als{v:Value}{x:AV}{fp:List Nat}(h:aQ w S B v x fp):aQ w S B v x.als []:=by
 induction h with
 |top v=>simp only[AV.als];exact .top v
 |sc v h=>simp only[AV.als];exact .sc v h
 |nil f n ad cap h=>simp only[AV.als,da];exact .nil _ _ ad cap ⟨h.1,fun e=>by cases f<;>simp[Fl.als] at e⟩
 | lst f n b o len cap xs vs fps hl hc hf hu hv hx ih =>
   have:=aQ.lst (w:=w) (S:=S) (B:=B) f.als n b o len cap (da xs) vs (fun _=>[]) (by rw[gp];exact hl) hc
    (by cases f<;>exact hf) (by intro e;cases f<;>simp[Fl.als] at e)
    (fun j x hj=>by rw[iJ] at hj;cases hk:xs[j]? with|none=>simp[hk] at hj|some y=>exact hv j y hk)
    (fun j x hj=>by rw[iJ] at hj;cases hk:xs[j]? with|none=>simp[hk] at hj|some y=>simp[hk] at hj;subst hj;exact ih j y hk)
   rw[bi _ _ fun _ _=>rfl,if_neg (by cases f<;>simp[Fl.als]),List.append_nil] at this;simpa only[AV.als] using this
 | agg vs cs fps hs h1 hx ih =>
   have:=aQ.agg (w:=w) (S:=S) (B:=B) vs (da cs) (fun _=>[]) (by rw[gp];exact hs) h1
    (fun j x hj=>by rw[iJ] at hj;cases hk:cs[j]? with|none=>simp[hk] at hj|some y=>simp[hk] at hj;subst hj;exact ih j y hk)
   rw[bi _ _ fun _ _=>rfl] at this;simpa only[AV.als] using this
 |tup vs cs fps hs hx ih=>simp only[AV.als];exact .top _
 |fn f vs cs fps hs hx ih=>simp only[AV.als];exact .top _
 |ub b=>simp only[AV.als];exact .top _
 |bp f b o off v x hb hv hx ih=>simp only[AV.als];exact .top _
end inv
theorem rC{P:Program}{t:Nat}{ag:Bool}(h:mJ P t ag=true)(w:World):(isAgg t).run P w=.ok ag w:=by
 unfold mJ at h;split at h
 ·rename_i e;subst h;simp[isAgg,run_underlying e]
 ·rename_i e;subst h;simp[isAgg,run_underlying e]
 ·rename_i d h1 h2 e;simp at h;subst h;simp only[isAgg,Sem.run_bind,run_underlying e,Result.andThen_ok];cases d<;>first|rfl|(exact absurd rfl (h1 _))|(exact absurd rfl (h2 _ _))
 ·cases h
theorem px{P:Program}{t k:Nat}(h:kl P t k=true)(w:World):(Go.sizeOf t).run P w=.ok k w:=by
 simp[kl] at h;obtain⟨i,h1,h2⟩:=h;simp[Go.sizeOf,typeInfo,h1,h2]
theorem qV{S:Nat->Prop}{B:Nat}{t k b pos off:Nat}{ag:Bool}{v:Value}{y z:AV}(hs:kl P t k=true)(ha:mJ P t ag=true)
 (hr:Rep w S B β v y) (hv:cM w b pos v) (hp:fO y off k ag=some z):
 ∃v',(Instr.loadAt t (.pointer (some ⟨b,pos+off,none⟩))).run P w=.ok v' w/\Rep w S B β v' z/\∀r∈z.ments,r∈y.ments:=by
 unfold fO at hp;cases ag with
 | true =>
   simp at hp;obtain⟨⟨hag,hle⟩,hz⟩:=hp;cases y<;>simp[AV.isAgg] at hag;rename_i cs;obtain⟨vs,rfl,h2,h3,h4⟩:=hr.agg_inv;simp only[AV.width] at hle;have hz':z=.agg ((cs.drop off).take k):=by
    by_cases e:off=0/\k=(AV.agg cs).width
    ·rw[if_pos e] at hz;rw[<-hz,e.1,e.2];simp[AV.cells,AV.width]
    ·rw[if_neg e] at hz;exact hz.symm
   subst hz';have hl:=run_loadCells (P:=P) (w:=w) ⟨b,pos+off,none⟩ k (fun j=>vs.getD (off+j) undef) (fun j hj=>by
    rw[Addr.add_lit];have:=hv (off+j) (vs.getD (off+j) undef) (by
     have:off+j<vs.size:=by omega
     simp[Value.cells,Array.getD,this])
    rw[Nat.add_assoc];exact this.1)
   refine⟨_,by simp[Instr.loadAt,Instr.sureAddr,loadVar,rC ha,px hs,hl];rfl,?_,?_⟩
   ·refine .agg _ _ ?_ ?_ ?_
    ·simp;omega
    ·intro x hx;simp at hx;obtain⟨j,hj,rfl⟩:=hx;have:off+j<vs.size:=by omega
     apply h3;simp[this]
    ·intro j x hj;rw[List.getElem?_take] at hj;split at hj
     ·rename_i hjk;rw[List.getElem?_drop] at hj;have:=h4 (off+j) x hj;simpa[hjk] using this
     ·cases hj
   ·intro r hr;simp only[AV.ments] at hr⊢;obtain⟨c,hc,hr⟩:=bB.1 hr;exact bB.2 ⟨c,List.mem_of_mem_drop (List.mem_of_mem_take hc),hr⟩
 | false =>
   simp at hp;have key:∃u,w.cell? ⟨b,pos+off,none⟩=some u/\Rep w S B β u z/\∀r∈z.ments,r∈y.ments:=by
    cases hag:y.isAgg with
    | true =>
      cases y<;>simp[AV.isAgg] at hag;rename_i cs;obtain⟨vs,rfl,h2,h3,h4⟩:=hr.agg_inv;simp only[AV.cells] at hp;have hlt:off<cs.length:=(List.getElem?_eq_some_iff.1 hp).1
      refine ⟨vs.getD off undef, (hv off _ (by have : off < vs.size := by omega
                                               simp[Value.cells,Array.getD,this])).1,h4 off z hp,?_⟩
      intro r hr;simp only[AV.ments];exact br hp hr
    | false =>
      by_cases hw:y.width=1
      ·have hc:y.cells=[y]:=by cases y<;>simp_all [AV.width,AV.isAgg,AV.cells]
       obtain⟨h1,h2⟩:=hr.one hag hw;rw[hc] at hp;have h0:off=0:=by have:=(List.getElem?_eq_some_iff.1 hp).1;simpa using this
       subst h0;simp at hp;subst hp;exact⟨v,(hv 0 v (by rw[h1];rfl)).1,hr,fun r hr=>hr⟩
      ·have:y.cells=[]:=by cases y<;>simp_all [AV.width,AV.isAgg,AV.cells]
       simp[this] at hp
   obtain⟨u,hu,hr',hm⟩:=key;exact⟨u,by simp[Instr.loadAt,Instr.sureAddr,loadVar,rC ha,load,Sem.run,hu],hr',hm⟩
end Vs

namespace Vs
open Go Go.RowKit
variable{P:Program}{n:Nat}{w0:World}{S0:Fx}{σ:St}{a:Act}{w:World}{tag:Nat->Tag}{β:Nat->Option Own}
theorem dF{α:Type}{o:Option α}{K:α->Prop}(h:opt o K):∃x,o=some x/\K x:=by
 cases o with
 |none=>exact h.elim
 |some x=>exact⟨x,rfl,h⟩
theorem dI{xs:List Operand}{ys:List X}(hm:eS xs ys=true):xs.length=ys.length/\∀(j:Nat)(y:X),ys[j]?=some y->∃x,xs[j]?=some x/\cx x y=true:=by
 induction xs generalizing ys with
 | nil => cases ys with
   |nil=>simp
   |cons y ys=>simp[eS] at hm
 | cons x xs ih => cases ys with
   |nil=>simp[eS] at hm
   | cons y ys =>
     simp[eS] at hm;obtain⟨h1,h2⟩:=ih hm.2;refine⟨by simp[h1],fun j z hj=>?_⟩;cases j with
     |zero=>simp at hj;subst hj;exact⟨x,rfl,hm.1⟩
     |succ j=>simp at hj;obtain⟨u,hu,hc⟩:=h2 j z hj;exact⟨u,by simpa using hu,hc⟩
theorem RR.arr(h:RR n w0 S0 σ a w tag β){r k:Nat}{es:List AV}(hr:σ.row r=some (.arr k es)):
 (β r=some .nil/\es=[])\/∃(b o cap:Nat)(vs:Nat->Value)(fps:Nat->List Nat),β r=some (.blk b o k cap es.length)/\Kb w tag w0.heap.size r b (o+cap*k)/\es.length<=cap/\
  (∀j x,es[j]?=some x->(vs j).cells.size=k/\cM w b (o+j*k) (vs j))/\(∀j x,es[j]?=some x->aQ w (Imm tag) w0.heap.size (vs j) x (fps j))/\
  (bP es.length fps).Nodup/\∀c∈bP es.length fps,tag c=.uq r:=by
 have:=h.rows r;unfold St.row at hr;rw[hr] at this;exact this
theorem RR.var(h:RR n w0 S0 σ a w tag β){r:Nat}{x:AV}(hr:σ.row r=some (.var x)):
 ∃(b o:Nat)(v:Value),β r=some (.blk b o v.cells.size 1 1)/\Kb w tag w0.heap.size r b (o+v.cells.size)/\cM w b o v/\Rep w (Imm tag) w0.heap.size β v x/\v.cells.size=x.width:=by
 have:=h.rows r;unfold St.row at hr;rw[hr] at this;exact this
theorem RR.sl_inv(h:RR n w0 S0 σ a w tag β){r k i m:Nat}{es:List AV}(hr:σ.row r=some (.arr k es)){v:Value}(hv:Rep w (Imm tag) w0.heap.size β v (.sl r i m)):
 (v=.slice none 0 0/\i=0/\m=0/\es=[]/\β r=some .nil)\/(∃b o cap c,β r=some (.blk b o k cap es.length)/\v=.slice (some ⟨b,o+i*k,none⟩) m c/\i+c=cap/\m<=c/\i+m<=es.length)\/
  ∃b o cap p,β r=some (.blk b o k cap es.length)/\v=.slice (some ⟨b,p,none⟩) 0 0/\m=0/\p<=o+cap*k/\i=cap:=by
 rcases h.arr hr with⟨h1,h2⟩|⟨b,o,cap,vs,fps,h1,_⟩
 ·cases hv with
  |p v x hp=>cases hp
  |slB r i n b o sz cap len c hb hc hn=>rw[h1] at hb;cases hb
  |slE r i b o sz cap len p hb hp=>rw[h1] at hb;cases hb
  |slN r hb=>exact .inl ⟨rfl,rfl,rfl,h2,h1⟩
  |slD r i n v hb=>rw[h1] at hb;cases hb
 ·cases hv with
  |p v x hp=>cases hp
  |slB r i n b' o' sz cap' len c hb hc hn hl=>rw[h1] at hb;cases hb;exact .inr (.inl ⟨b,o,cap,c,h1,rfl,hc,hn,hl⟩)
  |slE r i b' o' sz cap' len p hb hp=>rw[h1] at hb;cases hb;exact .inr (.inr ⟨b,o,cap,p,h1,rfl,rfl,hp⟩)
  |slN r hb=>rw[h1] at hb;cases hb
  |slD r i n v hb=>rw[h1] at hb;cases hb
theorem RR.pt_inv(h:RR n w0 S0 σ a w tag β){r i off:Nat}(hr:cD (σ.row r)){v:Value}(hv:Rep w (Imm tag) w0.heap.size β v (.pt r i off)):
 ∃b o sz cap len,β r=some (.blk b o sz cap len)/\v=.pointer (some ⟨b,o+i*sz+off,none⟩):=by
 have hne:β r≠none:=by
  cases hx:σ.row r with
  |none=>rw[hx] at hr;exact hr.elim
  | some x => cases x with
    |var y=>obtain⟨b,o,v,e,_⟩:=h.var hx;simp[e]
    |arr k es=>rcases h.arr hx with⟨e,_⟩|⟨b,o,cap,_,_,e,_⟩<;>simp[e]
    |dead=>rw[hx] at hr;exact hr.elim
 cases hv with
 |p v x hp=>cases hp
 |ptB r i off b o sz cap len hb=>exact⟨b,o,sz,cap,len,hb,rfl⟩
 |ptD r i off v hb=>exact absurd hb hne
theorem Ia{P:Program}{t:Nat}{k:IntKind}(h:oM P t k=true):P.underlying t=some (.int k):=by
 unfold oM at h;split at h
 ·simp at h;subst h;assumption
 ·cases h
section ops
variable{o:Oper}{K:AV->List (Nat×Row)->Prop}{d:Nat}(h:RR n w0 S0 σ a w tag β)(hod:o.dst=some d)(hd:d<n)
include h hod hd
theorem MF{op:BinOp}{t u:Nat}{x y:Operand}{neg:Bool}{x' y':X}(hop:o.op=.binOp op t x y u)(hm:aX P (.binOp op t x y u) (.beq neg x' y')=true)
 (hk:tZ K neg (σ.gx x') (σ.gx y')):Snd P n w0 S0 σ o K a w:=by
 simp[aX] at hm;obtain⟨⟨⟨h1,h2⟩,h3⟩,h4⟩:=hm;have hx:=(h.gx h3).1;have hy:=(h.gx h4).1;unfold tZ at hk;split at hk
 ·rename_i p q e1 e2;rw[e1] at hx;rw[e2] at hy;have hx:=hx.bool_inv;have hy:=hy.bool_inv;have hg:∀op,eqGuard op t x y (.bool p) (.bool q)=pure ():=by intro op;cases op<;>simp[eqGuard]<;>rfl
  subst h2;refine .val h hod hd ?_ hk (.bool_mk _) (cn _);have ht:=BU h1;have he:(Op.equal t (.bool p) (.bool q)).run P w=.ok (p==q) w:=by
   show(Op.equalIn (9999+1) t (.bool p) (.bool q)).run P w=_;unfold Op.equalIn;simp only[Sem.run_bind,run_underlying ht,Result.andThen_ok];rfl
  cases neg<;>simp[execOp,hop,hx,hy,hg,binOp,he]
 ·exact hk.elim
theorem RA{op:UnOp}{t:Nat}{x:Operand}{op':UnOp}{x':X}(hop:o.op=.unOp op t x)(hm:aX P (.unOp op t x) (.un op' x')=true)
 (hk:unV op' (σ.gx x') (k1 K)):Snd P n w0 S0 σ o K a w:=by
 simp[aX] at hm;obtain⟨rfl,h1⟩:=hm;have hx:=(h.gx h1).1;unfold unV at hk;split at hk
 ·rename_i k q e;rw[e] at hx;have hx:=hx.int_inv;exact ki h hod hd (by simp[execOp,hop,hx,Op.unary,Op.intArith]) hk
 ·rename_i q e;rw[e] at hx;have hx:=hx.bool_inv;exact .val h hod hd (by simp[execOp,hop,hx,Op.unary]) hk (.bool_mk _) (cn _)
 ·exact hk.elim
theorem Hw{s t:Nat}{x:Operand}{k:IntKind}{x':X}(hop:o.op=.convert s t x)(hm:aX P (.convert s t x) (.conv k x')=true)
 (hk:oz K k (σ.gx x')):Snd P n w0 S0 σ o K a w:=by
 simp[aX] at hm;obtain⟨⟨h1,h2⟩,h3⟩:=hm;have hx:=(h.gx h3).1;have ht:P.underlying t=some (.int k):=by
  unfold oM at h1;split at h1
  ·rename_i q e;simp at h1;subst h1;exact e
  ·cases h1
 obtain⟨ds,hds⟩:=Option.isSome_iff_exists.1 h2;unfold oz at hk;split at hk
 ·rename_i q m e;rw[e] at hx;have hx:=hx.int_inv;refine .val h hod hd ?_ hk (.int_mk _ _) (cn _);simp only[execOp,hop,hx,convert,Sem.run_bind,run_underlying ht,run_underlying hds,Result.andThen_ok];simp[Conv.intToInt]
 ·exact hk.elim
theorem Ms{f:Nat}{first cs:Array Operand}{g:Nat}{ds:List X}(hop:o.op=.makeFunc (.func f) first cs)(hm:aX P (.makeFunc (.func f) first cs) (.mkf g ds)=true)
 (hk:K (.fn g (ds.map σ.gx)) []):Snd P n w0 S0 σ o K a w:=by
 simp[aX] at hm;obtain⟨⟨rfl,h1⟩,h2⟩:=hm;obtain⟨hl,hat⟩:=dI h2;subst h1;refine .val h hod hd (v:=.func (.func f) #[] (cs.map a.eval)) (by simp[execOp,hop,Instr.makeFunc]) hk (.fn _ _ _ (by simpa using hl) ?_) ?_
 ·intro j x hj;simp only[List.getElem?_map,Option.map_eq_some_iff] at hj;obtain⟨y,hy,rfl⟩:=hj;obtain⟨z,hz,hc⟩:=hat j y hy;have:(cs.map a.eval).getD j undef=a.eval z:=by
   have:=(List.getElem?_eq_some_iff.1 hz);obtain⟨hlt,he⟩:=this;simp at hlt he;simp[hlt,he]
  rw[this];exact(h.gx hc).1
 ·intro r hr;simp only[AV.ments] at hr;obtain⟨c,hc,hr⟩:=bB.1 hr;simp at hc;obtain⟨y,hy,rfl⟩:=hc;obtain⟨j,hj,rfl⟩:=List.getElem_of_mem hy;obtain⟨z,hz,hc⟩:=hat j ds[j] (by simp[hj]);exact(h.gx hc).2 r hr
theorem yX{t:Nat}{x:Operand}{f off:Nat}{x':X}(hop:o.op=.fieldAddr t x f)(hm:aX P (.fieldAddr t x f) (.fad off x')=true)
 (hk:jz K σ.row off (σ.gx x')):Snd P n w0 S0 σ o K a w:=by
 simp only[aX,Bool.and_eq_true] at hm;obtain⟨h1,h2⟩:=hm;split at h1
 ·rename_i fs hfs;split at h1
  ·rename_i g hg;simp at h1;obtain⟨h3,h4⟩:=h1;split at h4
   ·rename_i i hi;simp at h4;have hp:∀ad:Addr,(fieldPlace ad g).run P w=.ok (ad.add off) w:=by
     intro ad;simp[fieldPlace,Go.sizeOf,typeInfo,hi,h3,show i.size≠0 by omega]
    obtain⟨hr,hdm⟩:=h.gx h2;unfold jz at hk;split at hk
    ·rename_i f y o' e;rw[e] at hr;obtain⟨b,q,u,hv,hb,hva,hx⟩:=hr.bp_inv;refine .val h hod hd (v:=.pointer (some ⟨b,q+(o'+off),none⟩)) ?_ hk (.p _ _ (.bp _ b q (o'+off) u y hb hva hx)) (by simp[St.dom,AV.ments]);simp[execOp,hop,Instr.fieldAt,run_underlying hfs,hg,hv,Instr.sureAddr,hp,Addr.add_lit,Nat.add_assoc]
    ·rename_i r i' o' e;rw[e] at hr hdm;obtain⟨b,q,sz,cap,len,hb,hv⟩:=h.pt_inv hk.1 hr;refine .val h hod hd (v:=.pointer (some ⟨b,q+i'*sz+(o'+off),none⟩)) ?_ hk.2 (.ptB r i' (o'+off) b q sz cap len hb) (by simpa[St.dom,AV.ments] using hdm);simp[execOp,hop,Instr.fieldAt,run_underlying hfs,hg,hv,Instr.sureAddr,hp,Addr.add_lit,Nat.add_assoc]
    ·exact hk.elim
   ·cases h4
  ·cases h1
 ·cases h1
end ops
end Vs

namespace Vs
open Go Go.RowKit
variable{P:Program}{n:Nat}{w0:World}{S0:Fx}{σ:St}{a:Act}{w:World}{tag:Nat->Tag}{β:Nat->Option Own}
theorem aQ.lst_inv{S:Nat->Prop}{B:Nat}{v:Value}{f:Fl}{k:Nat}{xs:List AV}(h:aQ w S B v (.lst f k xs) []):
 (∃ad cap,v=.slice ad 0 cap/\xs=[]/\((ad=none->cap=0)/\(f=.u->ad=none)))\/∃(b o cap:Nat)(vs:Nat->Value),v=.slice (some ⟨b,o,none⟩) xs.length cap/\xs.length<=cap/\f.ok S B b/\f≠.u/\
  (∀j x,xs[j]?=some x->(vs j).cells.size=k/\cM w b (o+j*k) (vs j))/\(∀j x,xs[j]?=some x->aQ w S B (vs j) x []):=by
 have key:∀fp,aQ w S B v (.lst f k xs) fp->fp=[]->(∃ad cap,v=.slice ad 0 cap/\xs=[]/\((ad=none->cap=0)/\(f=.u->ad=none)))\/∃(b o cap:Nat)(vs:Nat->Value),v=.slice (some ⟨b,o,none⟩) xs.length cap/\xs.length<=cap/\f.ok S B b/\f≠.u/\
  (∀j x,xs[j]?=some x->(vs j).cells.size=k/\cM w b (o+j*k) (vs j))/\(∀j x,xs[j]?=some x->aQ w S B (vs j) x []):=by
  intro fp h hfp;cases h with
  |nil _ _ ad cap hn=>exact .inl ⟨ad,cap,rfl,rfl,hn⟩
  | lst f k b o len cap xs vs fps hl hc hf hu hv hx =>
    subst hl;simp only[List.append_eq_nil_iff] at hfp;refine .inr ⟨b,o,cap,vs,rfl,hc,hf,?_,hv,fun j x hj=>?_⟩
    ·intro e;simp[e] at hfp
    ·have:=hx j x hj;rwa[gQ hfp.2 j (List.getElem?_eq_some_iff.1 hj).1] at this
 exact key _ h rfl
theorem iO{cs:List AV}(h:∀(j:Nat)(x:AV),cs[j]?=some x->x.ments=[]):aF cs=[]:=by
 apply List.eq_nil_iff_forall_not_mem.2;intro r hr;obtain⟨c,hc,hr⟩:=bB.1 hr;obtain⟨j,hj,rfl⟩:=List.getElem_of_mem hc;have:=h j cs[j] (by simp[hj]);simp[this] at hr
theorem aQ.ments_nil{S:Nat->Prop}{B:Nat}{v:Value}{x:AV}{fp:List Nat}(h:aQ w S B v x fp):x.ments=[]:=by
 induction h with
 |top=>simp[AV.ments]
 |sc=>simp[AV.ments]
 |nil=>simp[AV.ments]
 |lst=>simp[AV.ments]
 |ub b=>simp[AV.ments]
 |bp=>simp[AV.ments]
 |agg vs cs fps hs h1 hx ih=>simp only[AV.ments];exact iO ih
 |tup vs cs fps hs hx ih=>simp only[AV.ments];exact iO ih
 |fn f vs cs fps hs hx ih=>simp only[AV.ments];exact iO ih
theorem sE{P:Program}{t:Nat}(h:Be P t=true):∃e,P.underlying t=some (.slice e):=by
 unfold Be at h;split at h
 ·rename_i e he;exact⟨e,he⟩
 ·cases h
section ops
variable{o:Oper}{K:AV->List (Nat×Row)->Prop}{d:Nat}(h:RR n w0 S0 σ a w tag β)(hod:o.dst=some d)(hd:d<n)
include h hod hd
theorem xV{t k:Nat}{x i:Operand}{x' i':X}(hop:o.op=.indexAddr t x i)(hm:aX P (.indexAddr t x i) (.idx k x' i')=true)
 (hk:iw K σ.row k (σ.gx x') (σ.gx i')):Snd P n w0 S0 σ o K a w:=by
 simp[aX] at hm;obtain⟨⟨h1,h2⟩,h3⟩:=hm;obtain⟨e,inf,he,hinf,hsz,hpos⟩:=dR h1;obtain⟨hx,hxd⟩:=h.gx h2;have hi:=(h.gx h3).1;unfold iw at hk;split at hk
 ·rename_i f w' xs q j e1 e2;rw[e1] at hx;rw[e2] at hi;have hi:=hi.int_inv;obtain⟨rfl,hj0,hko⟩:=hk;obtain⟨y,hy,hky⟩:=dF hko;rcases hx.lst_inv.lst_inv with⟨_,_,_,rfl,_⟩|⟨b,p,cap,vs,hv,hc,hf,hu,hva,hxx⟩
  ·simp at hy
  ·have hlt:j.toNat<xs.length:=(List.getElem?_eq_some_iff.1 hy).1;refine .val h hod hd (v:=.pointer (some ⟨b,(p+j.toNat*w')+0,none⟩)) ?_ hky (.p _ _ (.bp _ b (p+j.toNat*w') 0 (vs j.toNat) y hf.als (hva _ _ hy).2 (hxx _ _ hy))) (by simp[St.dom,AV.ments]);simp[execOp,hop,Instr.indexAt,hi,hv,asIntOf,run_underlying he,Go.sizeOf,typeInfo,hinf,hsz,hj0,show j<xs.length by omega,Addr.add_lit]
 ·rename_i r p m q j e1 e2;rw[e1] at hx hxd;rw[e2] at hi;have hi:=hi.int_inv;obtain⟨⟨es,hes⟩,hj0,hjm,hky⟩:=hk;rcases h.sl_inv hes hx with⟨_,_,rfl,_⟩|⟨b,o',cap,c,hb,hv,hic,hmc,_⟩|⟨_,_,_,_,_,_,rfl,_⟩
  ·omega
  ·have heq:o'+p*k+j.toNat*k=o'+(p+j.toNat)*k+0:=by rw[Nat.add_mul];omega
   refine .val h hod hd (v:=.pointer (some ⟨b,o'+(p+j.toNat)*k+0,none⟩)) ?_ hky (.ptB r (p+j.toNat) 0 b o' k cap _ hb) (by simpa[St.dom,AV.ments] using hxd);rw[<-heq];simp[execOp,hop,Instr.indexAt,hi,hv,asIntOf,run_underlying he,Go.sizeOf,typeInfo,hinf,hsz,hj0,hjm,Addr.add_lit]
  ·omega
 ·exact hk.elim
theorem lJ{t k:Nat}{ag:Bool}{x:Operand}{x':X}(hop:o.op=.load t x)(hm:aX P (.load t x) (.load k ag x')=true)
 (hk:du K σ.row k ag (σ.gx x')):Snd P n w0 S0 σ o K a w:=by
 simp[aX] at hm;obtain⟨⟨h1,h2⟩,h3⟩:=hm;obtain⟨hx,hxd⟩:=h.gx h3;have fin:∀{b pos off:Nat}{v:Value}{y z:AV},a.eval x=.pointer (some ⟨b,pos+off,none⟩)->Rep w (Imm tag) w0.heap.size β v y->cM w b pos v->fO y off k ag=some z->
  σ.dom y->K z []->Snd P n w0 S0 σ o K a w:=by
  intro b pos off v y z hv hr hva hp hdy hkz;obtain⟨v',hrun,hr',hm'⟩:=qV (P:=P) h1 h2 hr hva hp;refine .val h hod hd (v:=v') ?_ hkz hr' fun r hr=>hdy r (hm' r hr);simp[execOp,hop,hv,hrun]
 unfold du at hk;split at hk
 ·rename_i y off e;rw[e] at hx;obtain⟨z,hz,hkz⟩:=dF hk;obtain⟨b,p,u,hv,hb,hva,hxx⟩:=hx.bp_inv;refine fin hv (.p _ _ hxx) hva hz ?_ hkz;intro r hr;rw[hxx.ments_nil] at hr;cases hr
 ·rename_i r i off e;rw[e] at hx hxd;unfold dy at hk;split at hk
  ·rename_i y hy;obtain⟨rfl,hko⟩:=hk;obtain⟨z,hz,hkz⟩:=dF hko;obtain⟨b,p,v,hb,_,hva,hr,hwd⟩:=h.var hy;obtain⟨b',o',sz',cap',len',hb',hv⟩:=h.pt_inv (by rw[hy];trivial) hx;rw[hb] at hb';cases hb';refine fin (pos:=p) (off:=off) (by rw[hv];simp) hr hva hz ?_ hkz;intro q hq;exact h.wfr r y hy q hq
  ·rename_i k' es hy;obtain⟨y,hy',hko⟩:=dF hk;obtain⟨z,hz,hkz⟩:=dF hko;rcases h.arr hy with⟨_,rfl⟩|⟨b,p,cap,vs,fps,hb,_,_,hva,hr,_⟩
   ·simp at hy'
   ·obtain⟨b',o',sz',cap',len',hb',hv⟩:=h.pt_inv (by rw[hy];trivial) hx;rw[hb] at hb';cases hb';refine fin hv (.p _ _ (hr i y hy').als) (hva i y hy').2 hz ?_ hkz;intro q hq;rw[(hr i y hy').als.ments_nil] at hq;cases hq
  ·exact hk.elim
 ·exact hk.elim
theorem FD{t:Nat}{x i:Operand}{x' i':X}(hop:o.op=.index t x i)(hm:aX P (.index t x i) (.stri x' i')=true)
 (hk:ov K (σ.gx x') (σ.gx i')):Snd P n w0 S0 σ o K a w:=by
 simp[aX] at hm;obtain⟨⟨h1,h2⟩,h3⟩:=hm;have hx:=(h.gx h2).1;have hi:=(h.gx h3).1;unfold ov at hk;split at hk
 ·rename_i s q j e1 e2;rw[e1] at hx;rw[e2] at hi;have hx:=hx.str_inv;have hi:=hi.int_inv;obtain⟨hj0,hko⟩:=hk;obtain⟨c,hc,hkc⟩:=dF hko;refine .val h hod hd ?_ hkc (.int_mk _ _) (cn _);simp[execOp,hop,Instr.index,hx,hi,asIntOf,run_underlying (nP h1),hj0,hc]
 ·exact hk.elim
theorem Oj{x:Operand}{j:Nat}{x':X}{j':Nat}(hop:o.op=.extract x j)(hm:aX P (.extract x j) (.ext x' j')=true)
 (hk:xp K (σ.gx x') j'):Snd P n w0 S0 σ o K a w:=by
 simp[aX] at hm;obtain⟨h1,rfl⟩:=hm;obtain⟨hx,hxd⟩:=h.gx h1;unfold xp at hk;split at hk
 ·rename_i vs e;rw[e] at hx hxd;obtain⟨us,hv,hs,hat⟩:=hx.tup_inv;obtain⟨z,hz,hkz⟩:=dF hk;have hlt:j<vs.length:=(List.getElem?_eq_some_iff.1 hz).1;refine .val h hod hd (v:=us.getD j undef) ?_ hkz (hat j z hz) fun r hr=>hxd r (by simp only[AV.ments];exact br hz hr);have:j<us.size:=by omega
  simp[execOp,hop,Instr.extract,hv,this]
 ·exact hk.elim
theorem Ke{x:Operand}{x':X}(hop:o.op=.nilCheck x)(hm:aX P (.nilCheck x) (.nilc x')=true)
 (hk:qg K σ.row (σ.gx x')):Snd P n w0 S0 σ o K a w:=by
 simp[aX] at hm;obtain⟨hx,hxd⟩:=h.gx hm;unfold qg at hk;split at hk
 ·rename_i y off e;rw[e] at hx hxd;obtain⟨b,p,u,hv,_⟩:=hx.bp_inv;exact .val h hod hd (v:=a.eval x) (by simp[execOp,hop,hv]) hk hx hxd
 ·rename_i r i off e;rw[e] at hx hxd;obtain⟨b,p,sz,cap,len,hb,hv⟩:=h.pt_inv hk.1 hx;exact .val h hod hd (v:=a.eval x) (by simp[execOp,hop,hv]) hk.2 hx hxd
 ·exact hk.elim
theorem zd{c:Call}{x':X}(hop:o.op=.call c)(hm:aX P (.call c) (.len x')=true)
 (hk:jf K σ.row (σ.gx x')):Snd P n w0 S0 σ o K a w:=by
 simp only[aX,Bool.and_eq_true] at hm;obtain⟨⟨h1,h2⟩,h3⟩:=hm;have hcal:c.callee=.builtin .len:=by
  split at h1
  ·assumption
  ·cases h1
 obtain⟨hl,hat⟩:=dI h2;obtain⟨x,hx0,hxm⟩:=hat 0 x' rfl;have hargs:c.args=#[x]:=by
  have:c.args.toList=[x]:=by
   match hh:c.args.toList,hl,hx0 with
   |[y],_,h=>simp at h;rw[h]
  exact Array.toList_inj.1 (by simpa using this)
 split at h3
 ·rename_i t ht;obtain⟨e,he⟩:=sE h3;have hrun:∀(ad:Option Addr)(l cp:Nat),a.eval x=.slice ad l cp->(execOp a.eval o).run P w=.ok (.value (.int .i64 l)) w:=by
   intro ad l cp hv;simp[execOp,hop,resolve,hcal,hargs,hv,invoke,builtin,Builtin.len_,ht,run_underlying he,goInt]
  obtain⟨hx,hxd⟩:=h.gx hxm;unfold jf at hk;split at hk
  ·rename_i f k xs e';rw[e'] at hx;rcases hx.lst_inv.lst_inv with⟨_,_,hv,rfl,_⟩|⟨b,p,cap,vs,hv,_⟩
   ·exact .val h hod hd (hrun _ _ _ hv) hk (.int_mk _ _) (cn _)
   ·exact .val h hod hd (hrun _ _ _ hv) hk (.int_mk _ _) (cn _)
  ·rename_i f k xs e';rw[e'] at hx;generalize hy:AV.tg f k xs=y at hx;generalize hv:a.eval x=v at hx;cases hx with
   |p v x hp=>subst hy;cases hp
   | tg f k len ad xs hl hp =>
     cases hy;subst hl;exact .val h hod hd (hrun _ _ _ hv) hk (.int_mk _ _) (cn _)
   |_=>cases hy
  ·rename_i r i m e';rw[e'] at hx;obtain⟨⟨k,es,hes⟩,hk⟩:=hk;rcases h.sl_inv hes hx with⟨hv,_,rfl,_⟩|⟨b,o',cap,c',hb,hv,hic,hmc,_⟩|⟨_,_,_,_,_,hv,rfl,_⟩
   ·exact .val h hod hd (hrun _ _ _ hv) hk (.int_mk _ _) (cn _)
   ·exact .val h hod hd (hrun _ _ _ hv) hk (.int_mk _ _) (cn _)
   ·exact .val h hod hd (hrun _ _ _ hv) hk (.int_mk _ _) (cn _)
  ·exact hk.elim
 ·cases h3
theorem EG{c:Call}{x':X}(hop:o.op=.call c)(hm:aX P (.call c) (.lenz x')=true)
 (hk:pO K (σ.gx x')):Snd P n w0 S0 σ o K a w:=by
 simp only[aX,Bool.and_eq_true] at hm;obtain⟨⟨h1,h2⟩,h3⟩:=hm;have hcal:c.callee=.builtin .len:=by
  split at h1
  ·assumption
  ·cases h1
 obtain⟨hl,hat⟩:=dI h2;obtain⟨x,hx0,hxm⟩:=hat 0 x' rfl;have hargs:c.args=#[x]:=by
  have:c.args.toList=[x]:=by
   match hh:c.args.toList,hl,hx0 with
   |[y],_,h=>simp at h;rw[h]
  exact Array.toList_inj.1 (by simpa using this)
 split at h3
 ·rename_i t ht;obtain⟨hx,hxd⟩:=h.gx hxm;unfold pO at hk;split at hk
  ·rename_i s e';rw[e'] at hx;have hv:=hx.str_inv;refine .val h hod hd ?_ hk (.int_mk _ _) (cn _);simp[execOp,hop,resolve,hcal,hargs,hv,invoke,builtin,Builtin.len_,ht,run_underlying (nP h3),goInt]
  ·exact hk.elim
 ·cases h3
theorem EI{c:Call}{x':X}(hop:o.op=.call c)(hm:aX P (.call c) (.capn x')=true)
 (hk:pR K (σ.gx x')):Snd P n w0 S0 σ o K a w:=by
 simp only[aX,Bool.and_eq_true] at hm;obtain⟨⟨h1,h2⟩,h3⟩:=hm;have hcal:c.callee=.builtin .cap:=by
  split at h1
  ·assumption
  ·cases h1
 obtain⟨hl,hat⟩:=dI h2;obtain⟨x,hx0,hxm⟩:=hat 0 x' rfl;have hargs:c.args=#[x]:=by
  have:c.args.toList=[x]:=by
   match hh:c.args.toList,hl,hx0 with
   |[y],_,h=>simp at h;rw[h]
  exact Array.toList_inj.1 (by simpa using this)
 split at h3
 ·rename_i t ht;obtain⟨e,he⟩:=sE h3;obtain⟨hx,hxd⟩:=h.gx hxm;unfold pR at hk;split at hk
  ·rename_i k e';rw[e'] at hx;have key:∀v fp,aQ w (Imm tag) w0.heap.size v (.lst .u k []) fp->fp=[]->v=.slice none 0 0:=by
    intro v fp hp hfp;cases hp with
    |nil _ _ ad cap hn=>obtain rfl:=hn.2 rfl;obtain rfl:=hn.1 rfl;rfl
    |lst=>simp at hfp
   have hv:=key _ _ hx.lst_inv rfl;refine .val h hod hd (v:=.int .i64 0) ?_ hk (.int_mk _ _) (cn _);simp[execOp,hop,resolve,hcal,hargs,hv,invoke,builtin,Builtin.cap_,ht,run_underlying he,goInt]
  ·exact hk.elim
 ·cases h3
omit h hod hd in
theorem xh:∀{xs:List AV}{ns:List Int},u8s xs=some ns->xs=ns.map fun n=>.sc (.int .u8 n)
 |[],ns,h=>by simp[u8s] at h;subst h;rfl
 | x :: xs, ns, h => by
   unfold u8s at h;split at h
   ·rename_i heq;cases heq
   ·rename_i n xs' heq;cases heq;split at h
    ·rename_i ms hms;cases h;rw[xh hms];rfl
    ·cases h
   ·cases h
omit h hod hd in
theorem NO{es:List AV}{i m j:Nat}(hj:j<m)(hl:i+m<=es.length):(sub es i m)[j]?=es[i+j]?:=by
 unfold sub;split
 ·rename_i e;rw[e.1,Nat.zero_add]
 ·rw[List.getElem?_take,if_pos hj,List.getElem?_drop]
theorem Oc{s t:Nat}{x:Operand}{x':X}(hop:o.op=.convert s t x)(hm:aX P (.convert s t x) (.b2s x')=true)
 (hk:wM K σ.row (σ.gx x')):Snd P n w0 S0 σ o K a w:=by
 simp only[aX,Bool.and_eq_true] at hm;obtain⟨⟨h1,h2⟩,h3⟩:=hm;split at h1
 case h_2=>cases h1
 rename_i e he;have hu8:=Ia h1;have hst:=nP h2;obtain⟨hx,hxd⟩:=h.gx h3;have fin:∀{ad:Option Addr}{l c:Nat}{ns:List Int},a.eval x=.slice ad l c->(Conv.bytesToString (.slice ad l c)).run P w=.ok (.string (b2s ns)) w->K (.sc (.string (b2s ns))) []->Snd P n w0 S0 σ o K a w:=by
  intro ad l c ns hv hrun hkk;refine .val h hod hd (v:=.string (b2s ns)) ?_ hkk (.str_mk _) (cn _);have:=run_convert_bytes_string w s t e ad l c he hu8 hst;rw[hrun] at this;simp[execOp,hop,hv,this]
 have emp:∀{ad:Option Addr}{c:Nat},(Conv.bytesToString (.slice ad 0 c)).run P w=.ok (.string (b2s [])) w:=by
  intro ad c;cases ad with
  |none=>simp[Conv.bytesToString,Sem.run_pure,b2s]
  |some ad=>exact run_bytesToString w ad 0 c [] (by simpa using run_loadCells (P:=P) w ad 0 (fun _=>undef) (by simp))
 have full:∀{b p l c:Nat}{ns:List Int}(us:Nat->Value),ns.length=l->(∀j m,ns[j]?=some m->us j=.int .u8 m/\cM w b (p+j) (us j))->(Conv.bytesToString (.slice (some ⟨b,p,none⟩) l c)).run P w=.ok (.string (b2s ns)) w:=by
  intro b p l c ns us hl hat;subst hl;refine run_bytesToString w _ _ c ns ?_;have:=run_loadCells_list (P:=P) w ⟨b,p,none⟩ (ns.map (Value.int .u8)) (fun j v hj=>by
   rw[List.getElem?_map,Option.map_eq_some_iff] at hj;obtain⟨m,hm,rfl⟩:=hj;obtain⟨e1,e2⟩:=hat j m hm;rw[e1] at e2;have:=(e2 0 (.int .u8 m) rfl).1;rw[Addr.add_lit];simpa using this)
  simpa using this
 unfold wM at hk;split at hk
 ·rename_i f w' xs e';rw[e'] at hx;obtain⟨rfl,hk⟩:=hk;obtain⟨ns,hns,hkk⟩:=dF hk;have hxs:=xh hns;rcases hx.lst_inv.lst_inv with⟨ad,cap,hv,rfl,_⟩|⟨b,p,cap,vs,hv,hc,hf,hu,hva,hxx⟩
  ·have:ns=[]:=by cases ns with|nil=>rfl|cons _ _=>cases hxs
   subst this;exact fin hv emp hkk
  ·refine fin hv (full vs (by rw[hxs];simp) fun j m hj=>?_) hkk;have hj':xs[j]?=some (.sc (.int .u8 m)):=by rw[hxs,List.getElem?_map,hj];rfl
   have h5:=hxx j _ hj';have h6:vs j=.int .u8 m:=by
    generalize vs j=u at h5;cases h5;rfl
   refine⟨h6,?_⟩;have:=(hva j _ hj').2;rwa[Nat.mul_one] at this
 ·rename_i r i m e';rw[e'] at hx;unfold tH at hk;split at hk
  case h_2=>exact hk.elim
  rename_i w' es hes;obtain⟨rfl,hk⟩:=hk;obtain⟨ns,hns,hkk⟩:=dF hk;have hxs:=xh hns;rcases h.sl_inv hes hx with⟨hv,rfl,rfl,he0,_⟩|⟨b,o',cap,c',hb,hv,hic,hmc,him⟩|⟨_,_,_,_,_,hv,rfl,_⟩
  ·subst he0;have:ns=[]:=by cases ns with|nil=>rfl|cons _ _=>simp[sub] at hxs
   subst this;exact fin hv emp hkk
  ·rcases h.arr hes with⟨hb2,_⟩|⟨b2,p2,cap2,vs,fps,hb2,_,_,hva,hr,_⟩
   ·rw[hb] at hb2;cases hb2
   ·rw[hb] at hb2;cases hb2;have hlen:ns.length=m:=by
     have:=congrArg List.length hxs;simp only[List.length_map] at this;rw[<-this];unfold sub;split
     ·rename_i e;exact e.2.symm
     ·simp;omega
    refine fin hv (full (fun j=>vs (i+j)) hlen fun j q hj=>?_) hkk;have hjm:j<m:=by rw[<-hlen];exact(List.getElem?_eq_some_iff.1 hj).1
    have hj':es[i+j]?=some (.sc (.int .u8 q)):=by
     rw[<-NO hjm him,hxs,List.getElem?_map,hj];rfl
    have h5:=hr (i+j) _ hj';have h6:vs (i+j)=.int .u8 q:=by
     generalize vs (i+j)=u at h5⊢;generalize fps (i+j)=fp at h5;cases h5;rfl
    refine⟨h6,?_⟩;have:=(hva (i+j) _ hj').2;rwa[Nat.mul_one,<-Nat.add_assoc,show o'+i+j=o'+i*1+j by omega] at this
  ·have:ns=[]:=by cases ns with|nil=>rfl|cons _ _=>(exfalso;have hl:=congrArg List.length hxs;unfold sub at hl;split at hl<;>simp at hl<;>omega)
   subst this;exact fin hv emp hkk
 ·exact hk.elim
omit h hod hd in
theorem oT{c:Call}{y z:X}(h2:eS c.args.toList [y,z]=true):∃x1 x2,c.args=#[x1,x2]/\cx x1 y=true/\cx x2 z=true:=by
 obtain⟨hl,hat⟩:=dI h2;obtain⟨x1,hx1,hm1⟩:=hat 0 y rfl;obtain⟨x2,hx2,hm2⟩:=hat 1 z rfl;refine⟨x1,x2,?_,hm1,hm2⟩;have:c.args.toList=[x1,x2]:=by
  match hh:c.args.toList,hl,hx1,hx2 with
  |[u,v],_,h,h'=>simp at h h';rw[h,h']
 exact Array.toList_inj.1 (by simpa using this)
end ops
end Vs

namespace Vs
open Go Go.RowKit
variable{P:Program}{n:Nat}{w0:World}{S0:Fx}{σ:St}{a:Act}{w:World}{tag:Nat->Tag}{β:Nat->Option Own}
theorem iR{es:List AV}{i k:Nat}(h:i+k<=es.length):(sub es i k).length=k:=by
 unfold sub;split
 ·rename_i e;exact e.2.symm
 ·simp;omega
theorem iI{es:List AV}{i k j:Nat}{x:AV}(hj:(sub es i k)[j]?=some x):es[i+j]?=some x/\j<k:=by
 unfold sub at hj;split at hj
 ·rename_i e;have:=(List.getElem?_eq_some_iff.1 hj).1;obtain⟨rfl,rfl⟩:=e;exact⟨by simpa using hj,this⟩
 ·rw[List.getElem?_take] at hj;split at hj
  ·rw[List.getElem?_drop] at hj;exact⟨hj,by assumption⟩
  ·cases hj
theorem lH{i k:Nat}:sub [] i k=[]:=by unfold sub;split<;>simp
theorem sub_zero{es:List AV}{i:Nat}:sub es i 0=[]:=by
 unfold sub;split
 ·rename_i e;exact List.eq_nil_of_length_eq_zero e.2.symm
 ·simp
theorem RR.bnd(h:RR n w0 S0 σ a w tag β){o:Option Operand}{x:Option X}(hm:gF o x=true)(hb:bOk (x.map σ.gx)):
 (o.map a.eval=none/\∀k,bV (x.map σ.gx) k=k)\/∃k j,o.map a.eval=some (.int k j)/\0<=j/\∀i,bV (x.map σ.gx) i=j.toNat:=by
 cases o with
 | none => cases x with
   |none=>exact .inl ⟨rfl,fun _=>rfl⟩
   |some x=>simp[gF] at hm
 | some o => cases x with
   |none=>simp[gF] at hm
   | some x =>
     simp only[gF] at hm;have hr:=(h.gx hm).1;simp only[Option.map_some] at hb⊢;unfold bOk at hb;split at hb
     ·rename_i e;cases e
     ·rename_i k j e;simp at e;rw[e] at hr⊢;exact .inr ⟨k,j,by rw[hr.int_inv],hb,fun _=>rfl⟩
     ·exact hb.elim
theorem fw{isSlice:Bool}{len cap l hh:Nat}{lo hi:Option Value}(hl:(lo=none/\l=0)\/∃k j,lo=some (.int k j)/\0<=j/\l=j.toNat)
 (hh':(hi=none/\hh=len)\/∃k j,hi=some (.int k j)/\0<=j/\hh=j.toNat) (h1:l<=hh) (h2:hh<=cap):
 (Instr.sliceBounds isSlice len cap lo hi none).run P w=.ok (l,hh,cap) w:=by
 rcases hl with⟨rfl,rfl⟩|⟨k,j,rfl,hj,rfl⟩<;>rcases hh' with⟨rfl,rfl⟩|⟨k',j',rfl,hj',rfl⟩
 ·simp[Instr.sliceBounds]
 ·simp[Instr.sliceBounds,run_sliceBound w k' j' cap _ hj' (by omega)]
 ·simp[Instr.sliceBounds,run_sliceBound w k j hh _ hj (by omega)]
 ·have hb:=fun c=>run_sliceBound (P:=P) w k j j'.toNat c hj (by omega);simp[Instr.sliceBounds,run_sliceBound w k' j' cap _ hj' (by omega),hb]
theorem ta{len cap l hh m:Nat}{lo hi:Option Value}{k'':IntKind}{j'':Int}(hl:(lo=none/\l=0)\/∃k j,lo=some (.int k j)/\0<=j/\l=j.toNat)
 (hh':∃k j,hi=some (.int k j)/\0<=j/\hh=j.toNat) (hm:0<=j''/\m=j''.toNat) (h1:l<=hh) (h2:hh<=m) (h3:m<=cap):
 (Instr.sliceBounds true len cap lo hi (some (.int k'' j''))).run P w=.ok (l,hh,m) w:=by
 obtain⟨k',j',rfl,hj',rfl⟩:=hh';obtain⟨hj'',rfl⟩:=hm;have hb2:=fun c=>run_sliceBound (P:=P) w k' j' j''.toNat c hj' (by omega);rcases hl with⟨rfl,rfl⟩|⟨k,j,rfl,hj,rfl⟩
 ·simp[Instr.sliceBounds,run_sliceBound w k'' j'' cap _ hj'' (by omega),hb2]
 ·have hb:=fun c=>run_sliceBound (P:=P) w k j j'.toNat c hj (by omega);simp[Instr.sliceBounds,run_sliceBound w k'' j'' cap _ hj'' (by omega),hb2,hb]
theorem aQ.sub{S:Nat->Prop}{B:Nat}{f:Fl}{k b o l hh m:Nat}{xs:List AV}{vs:Nat->Value}(hf:f.ok S B b)(hu:f≠.u)(hl:l<=hh)(hh':hh<=xs.length)(hm:hh<=m)
 (hv:∀j x,xs[j]?=some x->(vs j).cells.size=k/\cM w b (o+j*k) (vs j)) (hx:∀j x,xs[j]?=some x->aQ w S B (vs j) x []) {ad:Addr} (had:ad=⟨b,o+l*k,none⟩\/(l=hh/\ad=⟨b,o,none⟩)):
 aQ w S B (.slice (some ad) (hh-l) (m-l)) (.lst f k (Vs.sub xs l (hh-l))) []:=by
 have key:∀o',(∀j x,(Vs.sub xs l (hh-l))[j]?=some x->(vs (l+j)).cells.size=k/\cM w b (o'+j*k) (vs (l+j)))->
  aQ w S B (.slice (some ⟨b,o',none⟩) (hh-l) (m-l)) (.lst f k (Vs.sub xs l (hh-l))) []:=by
  intro o' hv';have:=aQ.lst (w:=w) (S:=S) (B:=B) f k b o' (hh-l) (m-l) (Vs.sub xs l (hh-l)) (fun j=>vs (l+j)) (fun _=>[]) (iR (by omega)) (by omega) hf (fun e=>absurd e hu) hv'
   (fun j x hj=>hx _ _ (iI hj).1)
  rw[bi _ _ fun _ _=>rfl,if_neg hu] at this;exact this
 rcases had with rfl|⟨rfl,rfl⟩
 ·refine key _ fun j x hj=>?_;have:=hv _ _ (iI hj).1;refine⟨this.1,?_⟩;have e:o+(l+j)*k=o+l*k+j*k:=by rw[Nat.add_mul];omega
  rw[<-e];exact this.2
 ·refine key _ fun j x hj=>?_;have:=(iI hj).2;omega
section ops
variable{o:Oper}{K:AV->List (Nat×Row)->Prop}{d:Nat}(h:RR n w0 S0 σ a w tag β)(hod:o.dst=some d)(hd:d<n)
include h hod hd
theorem KZ{t k:Nat}{x:Operand}{lo hi mx:Option Operand}{x' hi':X}(hop:o.op=.slice t x lo hi mx)(hm:aX P (.slice t x lo hi mx) (.slg k x' hi')=true)
 (hk:wR K k (σ.gx x') (σ.gx hi')):Snd P n w0 S0 σ o K a w:=by
 simp only[aX,Bool.and_eq_true,Option.isNone_iff_eq_none] at hm;obtain⟨⟨⟨⟨h1,h2⟩,h3⟩,h4⟩,h5⟩:=hm;subst h3 h5;obtain⟨e,inf,he,hinf,hsz,hpos⟩:=dR h1;obtain⟨hx,hxd⟩:=h.gx h2;unfold wR at hk;split at hk
 ·rename_i q kk hh e1 e2;rw[e1] at hx;obtain⟨rfl,rfl,hk⟩:=hk;have key:∀v fp,aQ w (Imm tag) w0.heap.size v (.lst .u q []) fp->fp=[]->v=.slice none 0 0:=by
   intro v fp hp hfp;cases hp with
   |nil _ _ ad cap hn=>obtain rfl:=hn.2 rfl;obtain rfl:=hn.1 rfl;rfl
   |lst=>simp at hfp
  have hv:=key _ _ hx.lst_inv rfl;have hhi:hi.map a.eval=some (.int kk 0):=by
   cases hi with
   |none=>simp[gF] at h4
   | some z =>
     simp only[gF] at h4;have:=(h.gx h4).1;rw[e2] at this;simp[this.int_inv]
  have hb:=fw (P:=P) (w:=w) (isSlice:=true) (len:=0) (cap:=0) (l:=0) (hh:=0) (lo:=none) (hi:=some (.int kk 0)) (.inl ⟨rfl,rfl⟩) (.inr ⟨kk,0,rfl,by omega,rfl⟩) (Nat.le_refl 0) (Nat.le_refl 0);have hrun:(execOp a.eval o).run P w=.ok (.value (.slice none 0 0)) w:=by
   simp[execOp,hop,Instr.sliceAt,Instr.slice,run_underlying he,hv,hhi,hb,Go.sizeOf,typeInfo,hinf,hsz]
  exact .val h hod hd hrun hk (.p _ _ (.nil0 _ _)) (by simp[St.dom,AV.ments])
 ·exact hk.elim
theorem LI{t k:Nat}{x:Operand}{lo hi mx:Option Operand}{x':X}{lo' hi' mx':Option X}(hop:o.op=.slice t x lo hi mx)(hm:aX P (.slice t x lo hi mx) (.slc k x' lo' hi' mx')=true)
 (hk:pH K σ.row k (σ.gx x') (lo'.map σ.gx) (hi'.map σ.gx) (mx'.map σ.gx)):Snd P n w0 S0 σ o K a w:=by
 simp[aX] at hm;obtain⟨⟨⟨⟨h1,h2⟩,h3⟩,h4⟩,h5⟩:=hm;obtain⟨e,inf,he,hinf,hsz,hpos⟩:=dR h1;obtain⟨hx,hxd⟩:=h.gx h2;have hrun:∀ad len cap l hh m,a.eval x=.slice ad len cap->(Instr.sliceBounds true len cap (lo.map a.eval) (hi.map a.eval) (mx.map a.eval)).run P w=.ok (l,hh,m) w->
  (execOp a.eval o).run P w=.ok (.value (.slice (if m=l then ad else ad.map (·.add (l*k))) (hh-l) (m-l))) w:=by
  intro ad len cap l hh m hv hb;simp[execOp,hop,Instr.sliceAt,Instr.slice,run_underlying he,hv,hb,Go.sizeOf,typeInfo,hinf,hsz]
 have hl:bOk (lo'.map σ.gx)->(lo.map a.eval=none/\bV (lo'.map σ.gx) 0=0)\/∃k j,lo.map a.eval=some (.int k j)/\0<=j/\bV (lo'.map σ.gx) 0=j.toNat:=fun hb1=>
  (h.bnd h3 hb1).imp (fun e=>⟨e.1,e.2 0⟩) (fun⟨k,j,e1,e2,e3⟩=>⟨k,j,e1,e2,e3 0⟩)
 have hh:∀len,bOk (hi'.map σ.gx)->(hi.map a.eval=none/\bV (hi'.map σ.gx) len=len)\/∃k j,hi.map a.eval=some (.int k j)/\0<=j/\bV (hi'.map σ.gx) len=j.toNat:=fun len hb2=>
  (h.bnd h4 hb2).imp (fun e=>⟨e.1,e.2 _⟩) (fun⟨k,j,e1,e2,e3⟩=>⟨k,j,e1,e2,e3 _⟩)
 unfold pH at hk;split at hk
 ·rename_i f w' xs e1;rw[e1] at hx hxd;obtain⟨rfl,hb1,hb2,hle,hle2,hk⟩:=hk;have hl:=hl hb1;have hh:=hh xs.length hb2;generalize bV (lo'.map σ.gx) 0=l at*
  generalize bV (hi'.map σ.gx) xs.length=u at*
  cases hmx:mx' with
  | none =>
    rw[hmx] at hk h5;have hmn:mx=none:=by cases mx with|none=>rfl|some y=>simp[gF] at h5
    subst hmn;rcases hx.lst_inv.lst_inv with⟨ad,cap,hv,rfl,had⟩|⟨b,p,cap,vs,hv,hc,hf,hu,hva,hxx⟩
    ·have hu0:u=0:=by simpa using hle2
     subst hu0;have hl0:l=0:=by omega
     subst hl0;have:=hrun ad 0 cap 0 0 cap hv (by simpa using fw (P:=P) (w:=w) (isSlice:=true) hl hh hle (Nat.zero_le cap));refine .val h hod hd this hk (.p _ _ ?_) (by simp[St.dom,AV.ments]);rw[lH];refine .nil _ _ _ _ ⟨fun e=>?_,fun e=>by simp[had.2 e]⟩
     have : ad = none := by split at e; · exact e
                            ·simpa using e
     simpa using had.1 this
    ·have:=hrun _ _ _ l u cap hv (by simpa using fw (P:=P) (w:=w) (isSlice:=true) hl hh hle (by omega));refine .val h hod hd (v:=.slice (some (if cap=l then⟨b,p,none⟩ else⟨b,p+l*w',none⟩)) (u-l) (cap-l)) ?_ hk (.p _ _ ?_) (by simp[St.dom,AV.ments])
     ·rw[this];split<;>simp[Addr.add_lit]
     ·refine aQ.sub hf hu hle hle2 (by omega) hva hxx ?_;split
      ·exact .inr ⟨by omega,rfl⟩
      ·exact .inl rfl
  | some mm =>
    rw[hmx] at hk h5;obtain⟨his,hb3,hmu,hk⟩:=hk;cases hmo:mx with
    |none=>rw[hmo] at h5;simp[gF] at h5
    | some om =>
      rw[hmo] at h5;simp only[gF] at h5;have hmr:=(h.gx h5).1;have⟨q,jj,hq,hj0,hju⟩:∃q jj,a.eval om=.int q jj/\0<=jj/\jj.toNat=u:=by
       unfold bOk at hb3;split at hb3
       ·rename_i e;cases e
       ·rename_i q jj e;simp at e;rw[e] at hmr;refine⟨q,jj,hmr.int_inv,hb3,?_⟩;simpa[e,bV] using hmu
       ·exact hb3.elim
      have hbd:∀cap,xs.length<=cap->(Instr.sliceBounds true xs.length cap (lo.map a.eval) (hi.map a.eval) (mx.map a.eval)).run P w=.ok (l,u,u) w:=by
       intro cap hcap;rw[hmo];simp only[Option.map_some,hq];rcases hh with⟨e,_⟩|hh
       ·exfalso;cases hi with
        |some y=>simp at e
        | none => cases hi' with
          |none=>simp at his
          |some y=>simp[gF] at h4
       ·exact ta hl hh ⟨hj0,hju.symm⟩ hle (Nat.le_refl _) (by omega)
      rcases hx.lst_inv.lst_inv with⟨ad,cap,hv,rfl,had⟩|⟨b,p,cap,vs,hv,hc,hf,hu,hva,hxx⟩
      ·have hu0:u=0:=by simpa using hle2
       subst hu0;have hl0:l=0:=by omega
       subst hl0;have:=hrun ad 0 cap 0 0 0 hv (by simpa using hbd cap (by simp));simp only[if_true,Nat.sub_self] at this;refine .val h hod hd this hk (.tg f w' 0 ad _ (by simp[lH]) ?_) (by simp[St.dom,AV.ments]);rw[lH];exact .nil _ _ _ _ ⟨fun _=>rfl,had.2⟩
      ·have:=hrun _ _ _ l u u hv (hbd cap hc);refine .val h hod hd (v:=.slice (some (if u=l then⟨b,p,none⟩ else⟨b,p+l*w',none⟩)) (u-l) (u-l)) ?_ hk (.tg f w' (u-l) _ _ (iR (by omega)).symm ?_) (by simp[St.dom,AV.ments])
       ·rw[this];split<;>simp[Addr.add_lit]
       ·refine aQ.sub hf hu hle hle2 (Nat.le_refl _) hva hxx ?_;split
        ·exact .inr ⟨by omega,rfl⟩
        ·exact .inl rfl
 ·rename_i r i m e1;rw[e1] at hx hxd;obtain⟨⟨es,hes⟩,hb1,hb2,hle,hle2,hmn,hk⟩:=hk;have hmn:mx=none:=by
   cases mx' with
   |some y=>simp at hmn
   |none=>cases mx with|none=>rfl|some y=>simp[gF] at h5
  subst hmn;have hl:=hl hb1;have hh:=hh m hb2;generalize bV (lo'.map σ.gx) 0=l at*
  generalize bV (hi'.map σ.gx) m=u at*
  have hdm:σ.dom (.sl r (i+l) (u-l)):=by simpa[St.dom,AV.ments] using hxd
  rcases h.sl_inv hes hx with⟨hv,rfl,rfl,rfl,hb⟩|⟨b,p,cap,c,hb,hv,hic,hmc,hlm⟩|⟨b,p,cap,q,hb,hv,rfl,hq⟩
  ·have hu0:u=0:=by omega
   subst hu0;have hl0:l=0:=by omega
   subst hl0;have:=hrun none 0 0 0 0 0 hv (by simpa using fw (P:=P) (w:=w) (isSlice:=true) hl hh hle (Nat.le_refl 0));simp at this;exact .val h hod hd this hk (.slN r hb) hdm
  ·have:=hrun _ _ _ l u c hv (by simpa using fw (P:=P) (w:=w) (isSlice:=true) hl hh hle (by omega));by_cases hcl:c=l
   ·have hul:u-l=0:=by omega
    have hcc:c-l=0:=by omega
    rw[if_pos hcl,hul,hcc] at this;rw[hul] at hk hdm;refine .val h hod hd this hk (.slE r (i+l) b p k cap _ (p+i*k) hb ?_) hdm;have:=Nat.mul_le_mul_right k (show i<=cap by omega);exact⟨by omega,by omega⟩
   ·rw[if_neg hcl] at this;simp only[Option.map_some,Addr.add_lit] at this;have e:p+i*k+l*k=p+(i+l)*k:=by rw[Nat.add_mul];omega
    rw[e] at this;exact .val h hod hd this hk (.slB r (i+l) (u-l) b p k cap _ (c-l) hb (by omega) (by omega) (by omega)) hdm
  ·have hu0:u=0:=by omega
   subst hu0;have hl0:l=0:=by omega
   subst hl0;have:=hrun _ _ _ 0 0 0 hv (by simpa using fw (P:=P) (w:=w) (isSlice:=true) hl hh hle (Nat.le_refl 0));simp at this;exact .val h hod hd this hk (.slE r i b p k cap _ q hb hq) (by simpa using hdm)
 ·exact hk.elim
end ops
end Vs

namespace Vs
open Go Go.RowKit
variable{P:Program}{n:Nat}{w0:World}{S0:Fx}{σ:St}{a:Act}{w:World}{tag:Nat->Tag}{β:Nat->Option Own}
def sG(w:World)(S:Nat->Prop)(B:Nat)(β:Nat->Option Own)(vs:Array Value)(cs:List AV):Prop:=
 vs.size=cs.length/\(∀x∈vs,x.oneCell'=true)/\∀(j:Nat)(x:AV),cs[j]?=some x->Rep w S B β (vs.getD j undef) x
theorem sG.of{S:Nat->Prop}{B:Nat}{v:Value}{x:AV}(h:Rep w S B β v x)(hw:0<x.width):sG w S B β v.cells x.cells:=by
 obtain⟨h1,h2⟩:=h.width hw;cases hx:x.isAgg with
 | true =>
   cases x<;>simp[AV.isAgg] at hx;obtain⟨vs,rfl,h3,h4,h5⟩:=h.agg_inv;exact⟨h3,h4,h5⟩
 | false =>
   have h3:x.width=1:=by cases x<;>simp_all [AV.width,AV.isAgg]
   have hc:x.cells=[x]:=by cases x<;>simp_all [AV.width,AV.isAgg,AV.cells]
   obtain⟨h4,h5⟩:=h.one hx h3;rw[h4,hc];refine⟨rfl,by simpa using h5,fun j y hj=>?_⟩;cases j with
   |zero=>simp at hj;subst hj;simpa using h
   |succ j=>simp at hj
theorem et(off:Nat):∀(l:List (Value×Nat))(cs:Array Value),(l.foldl (fun cs(p:Value×Nat)=>cs.setIfInBounds (off+p.2) p.1) cs).size=cs.size
 |[],cs=>rfl
 |p::l,cs=>by simp only[List.foldl_cons];rw[et off l];simp
theorem eM(off j:Nat):∀(l:List Value)(i:Nat)(cs:Array Value),off+i+l.length<=cs.size->
 ((l.zipIdx i).foldl (fun cs (p : Value × Nat) => cs.setIfInBounds (off + p.2) p.1) cs).getD j undef =
   if off+i<=j/\j<off+i+l.length then l.getD (j-(off+i)) undef else cs.getD j undef
 |[],i,cs,_=>by simp;intro;omega
 | v :: l, i, cs, hle => by
   simp only[List.zipIdx_cons,List.foldl_cons];simp only[List.length_cons] at hle;rw[eM off j l (i+1) _ (by simp;omega)];rw[ua _ _ _ _ _ (by omega)];by_cases h1:j=off+i
   ·subst h1;rw[if_neg (by omega),if_pos rfl,if_pos (by simp only[List.length_cons];omega)];simp
   ·rw[if_neg h1];by_cases h2:off+(i+1)<=j/\j<off+(i+1)+l.length
    ·rw[if_pos h2,if_pos (by simp only[List.length_cons];omega)];have:j-(off+i)=(j-(off+(i+1)))+1:=by omega
     rw[this];simp
    ·rw[if_neg h2,if_neg (by simp only[List.length_cons];omega)]
theorem jh{cs:List AV}{off:Nat}{x:AV}(h:off+x.cells.length<=cs.length):(Vs.fill cs off x).length=cs.length:=by simp[Vs.fill];omega
theorem zk{cs:List AV}{off j:Nat}{x:AV}(h:off+x.cells.length<=cs.length):(Vs.fill cs off x)[j]?=if off<=j/\j<off+x.cells.length then x.cells[j-off]? else cs[j]?:=by
 unfold Vs.fill;by_cases h1:j<off
 ·rw[if_neg (by omega),List.append_assoc,List.getElem?_append_left (by simp;omega)];simp[h1]
 ·by_cases h2:j<off+x.cells.length
  ·rw[if_pos ⟨by omega,h2⟩,List.append_assoc,List.getElem?_append_right (by simp;omega),List.getElem?_append_left (by simp;omega)];congr 1;simp;omega
  ·rw[if_neg (by omega),List.getElem?_append_right (by simp;omega),List.getElem?_drop];congr 1;simp;omega
theorem pD{cs:List AV}{off:Nat}{x:AV}:∀r∈aF (Vs.fill cs off x),r∈aF cs\/r∈x.ments:=by
 intro r hr;obtain⟨c,hc,hq⟩:=bB.1 hr;clear hr;unfold Vs.fill at hc;simp only[List.mem_append] at hc;rcases hc with(hc|hc)|hc
 ·exact .inl (bB.2 ⟨c,List.mem_of_mem_take hc,hq⟩)
 ·right;cases x with
  |agg ds=>simp only[AV.cells] at hc;simp only[AV.ments];exact bB.2 ⟨c,hc,hq⟩
  |top=>simp[AV.cells] at hc
  |tup ds=>simp[AV.cells] at hc
  |_=>simp[AV.cells] at hc;subst hc;exact hq
 ·exact .inl (bB.2 ⟨c,List.mem_of_mem_drop hc,hq⟩)
theorem eB{x:AV}:x.cells.length=x.width:=by cases x<;>rfl
theorem sG.fill{S:Nat->Prop}{B:Nat}{vs:Array Value}{cs:List AV}{v:Value}{x:AV}{off:Nat}(h:sG w S B β vs cs)(hr:Rep w S B β v x)(hw:0<x.width)(hle:off+x.width<=cs.length):
 sG w S B β (v.cells.zipIdx.foldl (fun cs(p:Value×Nat)=>cs.setIfInBounds (off+p.2) p.1) vs) (Vs.fill cs off x):=by
 obtain⟨h1,h2,h3⟩:=h;obtain⟨g1,g2,g3⟩:=sG.of hr hw;have hlen:v.cells.toList.length=x.width:=by rw[<-eB];simpa using g1
 have e:v.cells.zipIdx.foldl (fun cs(p:Value×Nat)=>cs.setIfInBounds (off+p.2) p.1) vs=(v.cells.toList.zipIdx 0).foldl (fun cs(p:Value×Nat)=>cs.setIfInBounds (off+p.2) p.1) vs:=by
  rw[<-Array.foldl_toList];simp
 rw[e];have hsz:=et off (v.cells.toList.zipIdx 0) vs;have hcl:off+x.cells.length<=cs.length:=by rw[eB];exact hle
 have hget:=fun j=>eM off j v.cells.toList 0 vs (by omega);generalize (v.cells.toList.zipIdx 0).foldl (fun cs(p:Value×Nat)=>cs.setIfInBounds (off+p.2) p.1) vs=us at*
 refine⟨by rw[hsz,h1,jh hcl],?_,?_⟩
 ·intro y hy;obtain⟨j,hj,rfl⟩:=Array.mem_iff_getElem.1 hy;have:=hget j;have e1:us.getD j undef=us[j]:=by simp[hj]
  rw[e1] at this;rw[this];split
  ·rename_i hh
   have hlt : j - (off + 0) < v.cells.size := by have : v.cells.toList.length = v.cells.size := by simp
                                                 omega
   apply g2;have:v.cells.toList.getD (j-(off+0)) undef=v.cells[j-(off+0)]:=by
    rw[List.getD_eq_getElem?_getD,Array.getElem?_toList,Array.getElem?_eq_getElem hlt];rfl
   rw[this];exact Array.getElem_mem _
  ·apply h2;have hlt:j<vs.size:=by omega
   have:vs.getD j undef=vs[j]:=by simp[hlt]
   rw[this];exact Array.getElem_mem _
 ·intro j y hj;rw[zk hcl] at hj;rw[hget j];have hl2:v.cells.toList.length=x.cells.length:=by rw[eB];exact hlen
  split at hj
  ·rename_i hh;rw[if_pos (by omega)];have:=g3 (j-off) y hj;simpa[List.getD,Array.getD_eq_getD_getElem?] using this
  ·rename_i hh;rw[if_neg (by omega)];exact h3 j y hj
theorem mO{P:Program}{w:World}:∀(fs:List Field)(k:Field->Nat),(∀f∈fs,(Go.sizeOf f.type).run P w=.ok (k f) w)->
 (fs.mapM (m:=Sem) fun f=>do pure (f.offset,<-Go.sizeOf f.type)).run P w=.ok (fs.map fun f=>(f.offset,k f)) w
 |[],k,_=>by simp
 | f :: fs, k, h => by
   have ih:=mO fs k fun g hg=>h g (by simp[hg]);simp only[bind_pure_comp] at ih;simp[List.mapM_cons,h f (by simp),ih]
theorem tV{P:Program}{t:Nat}{fs:Array Field}(hfs:P.underlying t=some (.struct fs)){S:Nat->Prop}{B:Nat}{g:X->AV}{ev:Operand->Value}{pl:Nat->Option (Nat×Nat)}
 (hpl:∀f off k,nG P t f off k=true->pl f=some (off,k)) (hev:∀x y,cx x y=true->Rep w S B β (ev x) (g y)):
 ∀ (ps : List (Nat × Operand)) (qs : List (Nat × Nat × X)) (vs : Array Value) (cs : List AV), ga P t ps qs = true → sG w S B β vs cs →
   (∀p∈qs,(g p.2.2).width=p.2.1/\p.1+p.2.1<=cs.length)->
   ∃us,Instr.fill pl vs (ps.map fun(i,x)=>(i,ev x))=some us/\sG w S B β us (kH cs (qs.map fun p=>(p.1,g p.2.2)))
 |[],[],vs,cs,_,hc,_=>⟨vs,rfl,hc⟩
 | (f, x) :: ps, (off, k, y) :: qs, vs, cs, hm, hc, hw => by
   simp[ga] at hm;obtain⟨⟨h1,h2⟩,h3⟩:=hm;have hpf:=hpl f off k h1;have hpos:0<k:=by
    unfold nG at h1;rw[hfs] at h1;simp only at h1;split at h1
    ·simp at h1;exact h1.2
    ·cases h1
   obtain⟨hwy,hle⟩:=hw (off,k,y) (by simp);simp only at hwy hle;have hr:=hev x y h2;have hsz:(ev x).cells.size=k:=by rw[(hr.width (by omega)).1,hwy]
   have hc':=hc.fill hr (by omega) (by omega:off+(g y).width<=cs.length);obtain⟨us,hu,hcu⟩:=tV hfs hpl hev ps qs _ _ h3 hc' (fun p hp=>by
    have:=hw p (by simp[hp]);rw[jh (by rw[eB];omega)];exact this)
   refine⟨us,?_,hcu⟩;simp only[List.map_cons,Instr.fill,hpf];rw[if_neg]
   ·exact hu
   ·have:=hc.1;simp[hsz];omega
 |[],_::_,_,_,hm,_,_=>by simp[ga] at hm
 |_::_,[],_,_,hm,_,_=>by simp[ga] at hm
theorem mW{g:X->AV}:∀(qs:List (Nat×Nat×X))(cs:List AV),∀r∈aF (kH cs (qs.map fun p=>(p.1,g p.2.2))),r∈aF cs\/∃p∈qs,r∈(g p.2.2).ments
 |[],cs,r,hr=>.inl hr
 | q :: qs, cs, r, hr => by
   simp only[List.map_cons,kH] at hr;rcases mW qs _ r hr with h|⟨p,hp,h⟩
   ·rcases pD r h with h|h
    ·exact .inl h
    ·exact .inr ⟨q,by simp,h⟩
   ·exact .inr ⟨p,by simp[hp],h⟩
section ops
variable{o:Oper}{K:AV->List (Nat×Row)->Prop}{d:Nat}(h:RR n w0 S0 σ a w tag β)(hod:o.dst=some d)(hd:d<n)
include h hod hd
theorem BF{t:Nat}{ps:Array (Nat×Operand)}{z:List AV}{qs:List (Nat×Nat×X)}(hop:o.op=.build t ps)(hm:aX P (.build t ps) (.build z qs)=true)
 (hw:∀p∈qs,(σ.gx p.2.2).width=p.2.1/\p.1+p.2.1<=z.length) (hk:K (.agg (kH z (qs.map fun p=>(p.1,σ.gx p.2.2)))) []):Snd P n w0 S0 σ o K a w:=by
 simp only[aX,Bool.and_eq_true] at hm;obtain⟨⟨h1,h2⟩,h3⟩:=hm;unfold mQ at h2;split at h2
 ·rename_i fs hfs;unfold jv at h1;split at h1
  ·rename_i inf hinf;split at h1
   ·rename_i zv hzv;have hz:=eE h1 w (Imm tag) w0.heap.size;obtain⟨zs,rfl,z1,z2,z3⟩:=hz.1.agg_inv;have hall:∀f∈fs.toList,∃i,P.info? f.type=some i:=by
     intro f hf;simp only[Array.all_eq_true] at h2;obtain⟨j,hj,rfl⟩:=List.getElem_of_mem hf;have:=h2 j (by simpa using hj);exact Option.isSome_iff_exists.1 (by simpa using this)
    have hplaces:=mO (P:=P) (w:=w) fs.toList (fun f=>((P.info? f.type).map (·.size)).getD 0) (fun f hf=>by
     obtain⟨i,hi⟩:=hall f hf;simp[Go.sizeOf,typeInfo,hi])
    obtain⟨us,hu,hcu⟩:=tV (P:=P) hfs (S:=Imm tag) (B:=w0.heap.size) (β:=β) (w:=w) (g:=σ.gx) (ev:=a.eval)
     (pl:=fun i=>(fs.map fun f=>(f.offset,((P.info? f.type).map (·.size)).getD 0))[i]?)
     (fun f off k hf=>by
      unfold nG at hf;rw[hfs] at hf;simp only at hf;split at hf
      ·rename_i g hg;simp[kl] at hf;obtain⟨⟨e1,i,e2,e3⟩,_⟩:=hf;simp[hg,e1,e2,e3]
      ·cases hf)
     (fun x y hxy=>(h.gx hxy).1) ps.toList qs zs z h3 ⟨z1,z2,fun j x hj=>.p _ _ (z3 j x hj)⟩ hw
    refine .val h hod hd (v:=.agg us) ?_ hk (.agg us _ hcu.1 hcu.2.1 hcu.2.2) ?_
    ·have hmm:(fs.mapM (m:=Sem) fun f=>do pure (f.offset,<-Go.sizeOf f.type)).run P w=.ok (fs.map fun f=>(f.offset,((P.info? f.type).map (·.size)).getD 0)) w:=by
      rw[Array.mapM_eq_mapM_toList];simp only[Sem.run_map,hplaces,Result.andThen_ok];rw[<-Array.toList_map,Array.toArray_toList]
     simp only[bind_pure_comp] at hmm;have hu':Instr.fill (fun x=>Option.map (fun f:Field=>(f.offset,((P.info? f.type).map (·.size)).getD 0)) fs[x]?) zs (ps.toList.map (fun x=>(x.fst,a.eval x.snd)))=some us:=by
      rw[<-hu];simp
     simp[execOp,hop,Instr.build,zeroValue,typeInfo,hinf,hzv,run_underlying hfs,hmm,Value.cells,hu']
    ·intro r hr;simp only[AV.ments] at hr;rcases mW qs z r hr with hr|⟨p,hp,hr⟩
     ·have:=hz.2.2.2;simp only[AV.ments] at this;rw[this] at hr;cases hr
     ·have key:∀(ps:List (Nat×Operand))(qs:List (Nat×Nat×X)),ga P t ps qs=true->∀p∈qs,σ.dom (σ.gx p.2.2):=by
       intro ps;induction ps with
       | nil => intro qs hm p hp; cases qs with
         |nil=>simp at hp
         |cons=>simp[ga] at hm
       | cons q ps ih => intro qs hm p hp; cases qs with
         |nil=>simp at hp
         | cons r qs =>
           obtain⟨f,x⟩:=q;obtain⟨off,k,y⟩:=r;simp[ga] at hm;simp only[List.mem_cons] at hp;rcases hp with rfl|hp
           ·exact(h.gx hm.1.2).2
           ·exact ih qs hm.2 p hp
      exact key _ _ h3 p hp r hr
   ·cases h1
  ·cases h1
 ·cases h2
end ops
end Vs

namespace Vs
open Go Go.RowKit
variable{P:Program}{n:Nat}{w0:World}{S0:Fx}{σ:St}{a:Act}{w w':World}{tag tag':Nat->Tag}{β β':Nat->Option Own}
theorem RR.change(h:RR n w0 S0 σ a w tag β){rows':List (Nat×Row)}(hbelow:Below w0.heap.size w w')
 (himm:∀b,Imm tag b->Imm tag' b/\w'.heap[b]?=w.heap[b]?) (hlt:∀b,tag' b≠.out->b<w'.heap.size)
 (hkeep:∀b,b<w.heap.size->tag b=.imm\/tag b=.out->tag' b=tag b/\w'.heap[b]?=w.heap[b]?)
 (hbk:∀r,1000000000<=r->cD (look r rows')->cD (look r σ.rows)/\β' r=β r)
 (hβ:∀r,(look r σ.rows).isSome->β' r=β r\/β' r=none) (hdom:∀r,(look r σ.rows).isSome->(look r rows').isSome)
 (hrows:∀r,co w' tag' w0.heap.size β' r (look r rows')) (hwf:∀r x,look r rows'=some (.var x)->∀q∈x.ments,(look q rows').isSome):
 RR n w0 S0 ⟨σ.env,rows'⟩ a w' tag' β' where
 nn:=h.nn
 frm:=h.frm.trans (hbelow.mono (Nat.zero_le _))
 keep:=fun b hb ht=>by
  obtain⟨h1,h2⟩:=h.keep b hb ht;obtain⟨h3,h4⟩:=hkeep b (Nat.lt_of_lt_of_le hb h.frm.size) (by rw[h1];exact ht);exact⟨h3.trans h1,h4.trans h2⟩
 kimm:=fun b hb=>by
  obtain⟨h1,h2⟩:=h.kimm b hb;obtain⟨h3,h4⟩:=himm b h1;exact⟨h3,h4.trans h2⟩
 bk:=fun r hr hl=>by
  obtain⟨h1,h2⟩:=hbk r hr hl;exact h2.trans (h.bk r hr h1)
 below:=h.below.trans hbelow
 sz:=h.sz
 nodef:=h.nodef
 s0lt:=h.s0lt
 lt:=hlt
 old:=fun b hb=>by
  have:=h.old b hb;rw[(hkeep b (Nat.lt_of_lt_of_le hb h.below.size) this.2).1];exact this
 env:=fun k x hk=>by
  obtain⟨h1,h2⟩:=h.env k x hk;exact⟨h1.mono himm fun r hr=>hβ r (h2 r hr),fun r hr=>hdom r (h2 r hr)⟩
 rows:=hrows
 wfr:=hwf
theorem co.mono{B r:Nat}{row:Option Row}(h:co w tag B β r row)(himm:∀b,Imm tag b->Imm tag' b/\w'.heap[b]?=w.heap[b]?)
 (hown:∀b,tag b=.own r->tag' b=.own r/\w'.heap[b]?=w.heap[b]?) (huq:∀b,tag b=.uq r->tag' b=.uq r) (hr:β' r=β r)
 (hβ:∀x,row=some (.var x)->∀q∈x.ments,β' q=β q\/β' q=none):co w' tag' B β' r row:=by
 cases row with
 |none=>exact hr.trans h
 | some row => cases row with
   |dead=>exact hr.trans h
   | var x =>
     obtain⟨b,o,v,h1,⟨h2,h3,h4⟩,h5,h6,h7⟩:=h;exact⟨b,o,v,hr.trans h1,⟨(hown b h2).1,h3,h4.mono (hown b h2).2⟩,h5.mono (hown b h2).2,h6.mono himm (hβ x rfl),h7⟩
   | arr k es =>
     rcases h with⟨h1,h2⟩|⟨b,o,cap,vs,fps,h1,⟨h2,h3,h4⟩,h5,h6,h7,h8,h9⟩
     ·exact .inl ⟨hr.trans h1,h2⟩
     ·exact .inr ⟨b,o,cap,vs,fps,hr.trans h1,⟨(hown b h2).1,h3,h4.mono (hown b h2).2⟩,h5,fun j x hj=>⟨(h6 j x hj).1,(h6 j x hj).2.mono (hown b h2).2⟩,
       fun j x hj=>(h7 j x hj).mono himm,h8,fun c hc=>huq c (h9 c hc)⟩
theorem RR.fresh(h:RR n w0 S0 σ a w tag β){d:Nat}(hd:d<n)(hnone:σ.row d=none){c:Array Value}{ty:TypeId}{own:Own}{row:Row}{v:Value}{x:AV}
 (hrow:co (w.alloc (.cells c ty)) (fun b=>if b=w.heap.size then .own d else tag b) w0.heap.size (fun r=>if r=d then some own else β r) d (some row))
 (hwf:∀y,row=.var y->∀q∈y.ments,(look q σ.rows).isSome)
 (hv:Rep (w.alloc (.cells c ty)) (Imm fun b=>if b=w.heap.size then .own d else tag b) w0.heap.size (fun r=>if r=d then some own else β r) v x) (hx:∀r∈x.ments,r=d\/(look r σ.rows).isSome):
 RR n w0 S0 (σ.app (some d) x [(d,row)]) (a.put (some d) v) (w.alloc (.cells c ty)) (fun b=>if b=w.heap.size then .own d else tag b) (fun r=>if r=d then some own else β r):=by
 have hB:w0.heap.size<=w.heap.size:=h.below.size;have himm:∀b,Imm tag b->Imm (fun b=>if b=w.heap.size then Tag.own d else tag b) b/\(w.alloc (.cells c ty)).heap[b]?=w.heap[b]?:=by
  intro b hb;have hlt:b<w.heap.size:=h.lt b (by rcases hb with e|⟨r,e⟩<;>simp[e]);refine⟨?_,Below.heap_alloc _ _ _ hlt⟩;unfold Imm at hb⊢;simp only[if_neg (show b≠w.heap.size by omega)];exact hb
 have hout:tag w.heap.size=.out:=by
  cases ht:tag w.heap.size with
  |out=>rfl
  |_=>have:=h.lt w.heap.size (by simp[ht]);omega
 have hdn:look d σ.rows=none:=hnone;have hc:=h.change (w':=w.alloc (.cells c ty)) (tag':=fun b=>if b=w.heap.size then .own d else tag b) (β':=fun r=>if r=d then some own else β r) (rows':=put d row σ.rows)
  ((Below.refl _ _).alloc hB _) himm
  (fun b hb=>by
   split at hb
   ·subst b;simp
   ·have:=h.lt b hb;simp;omega)
  (fun b hb _=>⟨if_neg (by omega),Below.heap_alloc _ _ _ hb⟩)
  (fun r hr hl=>by
   have hn:=h.nn;have hne:r≠d:=by omega
   rw[aC,if_neg hne] at hl;exact⟨hl,if_neg hne⟩)
  (fun r hr=>by
   left;rw[if_neg];rintro rfl;rw[hdn] at hr;cases hr)
  (fun r hr=>by rw[aC];split<;>simp[hr])
  (fun r=>by
   rw[aC];split
   ·rename_i e;subst e;exact hrow
   ·rename_i hne;refine(h.rows r).mono himm (fun b hb=>?_) (fun b hb=>?_) (by simp[hne]) (fun y hy q hq=>?_)
    ·have hlt:b<w.heap.size:=h.lt b (by simp[hb]);simp only[if_neg (show b≠w.heap.size by omega)];exact⟨hb,Below.heap_alloc _ _ _ hlt⟩
    ·have hlt:b<w.heap.size:=h.lt b (by simp[hb]);simp only[if_neg (show b≠w.heap.size by omega)];exact hb
    ·left;have:=h.wfr r y hy q hq;rw[if_neg];rintro rfl;rw[hdn] at this;cases this)
  (fun r y hr q hq=>by
   rw[aC] at hr⊢;split
   ·simp
   ·split at hr
    ·rename_i e;simp at hr;exact hwf y hr q hq
    ·exact h.wfr r y hr q hq)
 have:=hc.step hd hv (fun r hr=>by
  simp only[aC];rcases hx r hr with rfl|hh
  ·simp
  ·split<;>simp[hh])
 exact this
theorem sL{c:Array Value}{ty:TypeId}{v:Value}(h:v.cells=c)(h1:∀x∈v.cells,x.oneCell'=true):cM (w.alloc (.cells c ty)) w.heap.size 0 v:=by
 intro i x hx;refine⟨?_,h1 x (Array.mem_of_getElem? hx)⟩;rw[h] at hx;simp only[Nat.zero_add,World.cell?_alloc_new];exact hx
theorem kS{c:Array Value}{ty:TypeId}{t:Nat}(h:t<=c.size):kq (w.alloc (.cells c ty)) w.heap.size t:=
 ⟨c,ty,heap_alloc_new w _,h⟩
section ops
variable{o:Oper}{K:AV->List (Nat×Row)->Prop}{d:Nat}(h:RR n w0 S0 σ a w tag β)(hod:o.dst=some d)(hd:d<n)
include h hod hd
theorem pn{v:Value}{x:AV}{t:TypeId}(hnone:σ.row d=none)(hrun:(execOp a.eval o).run P w=.ok (.value (.pointer (some ⟨w.heap.size,0,none⟩))) (w.alloc (.cells v.cells t)))
 (hr:Rep w (Imm tag) w0.heap.size β v x) (hdx:σ.dom x) (hw:v.cells.size=x.width) (h1:∀x∈v.cells,x.oneCell'=true) (hk:K (.pt d 0 0) [(d,.var x)]):Snd P n w0 S0 σ o K a w:=by
 refine .value hrun hk ?_;rw[hod];have himm:∀b,Imm tag b->Imm (fun b=>if b=w.heap.size then Tag.own d else tag b) b/\(w.alloc (.cells v.cells t)).heap[b]?=w.heap[b]?:=by
  intro b hb;have hlt:b<w.heap.size:=h.lt b (by rcases hb with e|⟨r,e⟩<;>simp[e]);refine⟨?_,Below.heap_alloc _ _ _ hlt⟩;unfold Imm at hb⊢;simp only[if_neg (show b≠w.heap.size by omega)];exact hb
 refine⟨_,_,h.fresh hd hnone (own:=.blk w.heap.size 0 v.cells.size 1 1) ?_ (fun y hy q hq=>by cases hy;exact hdx q hq) (by
  have:=Rep.ptB (w:=w.alloc (.cells v.cells t)) (S:=Imm fun b=>if b=w.heap.size then Tag.own d else tag b) (B:=w0.heap.size)
   (β:=fun r=>if r=d then some (Own.blk w.heap.size 0 v.cells.size 1 1) else β r) d 0 0 w.heap.size 0 v.cells.size 1 1 (if_pos rfl)
  simpa using this) (by simp[AV.ments])⟩
 refine⟨w.heap.size,0,v,if_pos rfl,⟨if_pos rfl,h.below.size,kS (by simp)⟩,sL rfl h1,?_,hw⟩;refine hr.mono himm fun r hr=>.inl ?_;have:=hdx r hr;rw[if_neg];rintro rfl;unfold St.row at hnone;rw[hnone] at this;cases this
theorem Ca{t:Nat}{z:AV}(hop:o.op=.alloc t)(hm:aX P (.alloc t) (.alloc z)=true)(hnone:σ.row d=none)(hk:K (.pt d 0 0) [(d,.var z)]):Snd P n w0 S0 σ o K a w:=by
 simp only[aX] at hm;unfold jv at hm;split at hm
 ·rename_i inf hinf;split at hm
  ·rename_i zv hzv;obtain⟨h1,h2,h3,h4⟩:=eE hm w (Imm tag) w0.heap.size;refine pn h hod hd (v:=zv) (t:=t) hnone ?_ (.p _ _ h1) (by simp[St.dom,h4]) h2 h3 hk;simp[execOp,hop,Instr.alloc,zeroValue,typeInfo,hinf,hzv,newVar,newRow]
  ·cases hm
 ·cases hm
theorem Mb{t:Nat}{x:Operand}{k:Nat}{y:X}(hop:o.op=.box t x)(hm:aX P (.box t x) (.box k y)=true)(hnone:σ.row d=none)(hw:(σ.gx y).width=k)
 (hk:K (.pt d 0 0) [(d,.var (σ.gx y))]):Snd P n w0 S0 σ o K a w:=by
 simp[aX] at hm;obtain⟨hr,hdx⟩:=h.gx hm.1;refine pn h hod hd (v:=a.eval x) (t:=t) hnone ?_ hr hdx (hr.width (by omega)).1 (hr.width (by omega)).2 hk;simp[execOp,hop,Instr.box,newVar,newRow]
end ops
end Vs

namespace Vs
open Go Go.RowKit
variable{P:Program}{n:Nat}{w0:World}{S0:Fx}{σ:St}{a:Act}{w w':World}{tag tag':Nat->Tag}{β β':Nat->Option Own}
theorem Hl(z:Array Value)(l k i:Nat)(hz:z.size=k)(hi:i<l*k)(hk:0<k):(madeCells z (l*k))[i]?=some (z.getD (i%k) undef):=by
 have:i%k<z.size:=by rw[hz];exact Nat.mod_lt _ hk
 have h2:i<(madeCells z (l*k)).size:=by rw[size_madeCells];exact hi
 rw[Array.getElem?_eq_getElem h2];simp only[madeCells,Array.getElem_map,Array.getElem_range,hz];simp[this]
section ops
variable{o:Oper}{K:AV->List (Nat×Row)->Prop}{d:Nat}(h:RR n w0 S0 σ a w tag β)(hod:o.dst=some d)(hd:d<n)
include h hod hd
theorem Nh{t:Nat}{l c:Operand}{k:Nat}{z:AV}{bytes:Nat}{l' c':X}(hop:o.op=.makeSlice t l c)(hm:aX P (.makeSlice t l c) (.mks k z bytes l' c')=true)
 (hk:qC K (σ.row d) d k z bytes (σ.gx l') (σ.gx c')):Snd P n w0 S0 σ o K a w:=by
 simp[aX] at hm;obtain⟨⟨⟨⟨h1,h2⟩,h3⟩,h4⟩,h5⟩:=hm;obtain⟨e,inf,he,hinf,hsz,hpos⟩:=dR h1;have hl:=(h.gx h4).1;have hc:=(h.gx h5).1;have hby:inf.bytes=bytes:=by
  unfold iQ at h2;rw[he] at h2;simp[hinf] at h2;exact h2.1
 have⟨zv,hzv,hzok⟩:∃zv,inf.zero=some zv/\iv zv z=true:=by
  unfold mq jv at h3;rw[he] at h3;simp only[hinf] at h3;split at h3
  ·rename_i v hv;exact⟨v,hv,h3⟩
  ·cases h3
 unfold qC at hk;split at hk
 ·rename_i ll cc e1 e2;rw[e1] at hl;rw[e2] at hc;have hl:=hl.int_inv;have hc:=hc.int_inv;obtain⟨hnone,hzw,h0,hlc,hbytes,h63,hk⟩:=hk;have hb2:(inf.bytes:Int)*cc<=281474976710656:=by
   rw[hby,Int.mul_comm];omega
  have hrun:=run_make (P:=P) w t e inf zv he hinf hzv .i64 .i64 ll cc h0 hlc hb2 h63;obtain⟨z1,z2,z3,z4⟩:=eE hzok (w.alloc (.cells (madeCells zv.cells (cc.toNat*inf.size)) e)) (Imm fun b=>if b=w.heap.size then Tag.own d else tag b) w0.heap.size;rw[hzw] at z2;refine .value (v:=.slice (some ⟨w.heap.size,0,none⟩) ll.toNat cc.toNat) (w':=w.alloc (.cells (madeCells zv.cells (cc.toNat*inf.size)) e)) (by simp[execOp,hop,hl,hc,hrun]) hk ?_;rw[hod];refine⟨_,_,h.fresh hd hnone (own:=.blk w.heap.size 0 k cc.toNat (List.replicate ll.toNat z).length) ?_ (fun y hy=>by cases hy) ?_ (by simp[AV.ments])⟩
  ·refine .inr ⟨w.heap.size,0,cc.toNat,fun _=>zv,fun _=>[],if_pos rfl,⟨if_pos rfl,h.below.size,kS (by rw[size_madeCells,hsz];omega)⟩,by simp;omega,?_,?_,?_,?_⟩
   ·intro j x hj;refine⟨z2,fun i y hy=>?_⟩;have hjl:j<ll.toNat:=by have:=(List.getElem?_eq_some_iff.1 hj).1;simpa using this
    have hik:i<k:=by have h9:i<zv.cells.size:=(Array.getElem?_eq_some_iff.1 hy).1;omega
    refine⟨?_,z3 y (Array.mem_of_getElem? hy)⟩;rw[World.cell?_alloc_new,hsz];have hlt:0+j*k+i<cc.toNat*k:=by
     have:(j+1)*k<=cc.toNat*k:=Nat.mul_le_mul_right k (by omega);rw[Nat.add_mul] at this;omega
    rw[Hl zv.cells cc.toNat k _ z2 hlt hpos];have:(0+j*k+i)%k=i:=by rw[Nat.zero_add,Nat.mul_comm,Nat.mul_add_mod,Nat.mod_eq_of_lt hik]
    rw[this];obtain⟨hh,he⟩:=Array.getElem?_eq_some_iff.1 hy;simp[hh,he]
   ·intro j x hj;have:x=z:=by have:=List.mem_of_getElem? hj;exact List.eq_of_mem_replicate this
    subst this;exact z1
   ·rw[bi _ _ fun _ _=>rfl];exact List.nodup_nil
   ·rw[bi _ _ fun _ _=>rfl];intro c hc;cases hc
  ·have:=Rep.slB (w:=w.alloc (.cells (madeCells zv.cells (cc.toNat*inf.size)) e)) (S:=Imm fun b=>if b=w.heap.size then Tag.own d else tag b) (B:=w0.heap.size)
    (β:=fun r=>if r=d then some (Own.blk w.heap.size 0 k cc.toNat (List.replicate ll.toNat z).length) else β r) d 0 ll.toNat w.heap.size 0 k cc.toNat _ cc.toNat (if_pos rfl) (by omega) (by omega) (by simp)
   simpa using this
 ·exact hk.elim
end ops
def cL(rs:List Nat)(d:Nat)(tag:Nat->Tag)(b:Nat):Tag:=match tag b with
 | .own r=>if r∈rs then .uq d else .own r
 | .uq r=>if r∈rs then .uq d else .uq r
 |t=>t
theorem ij{rs:List Nat}{d b:Nat}(h:Imm tag b):Imm (cL rs d tag) b:=by
 unfold Imm cL at*
 rcases h with h|⟨r,h⟩
 ·simp[h]
 ·rw[h];simp only;split<;>simp
def jo(tag:Nat->Tag)(rs:List Nat)(b:Nat):Prop:=∃r∈rs,tag b=.own r\/tag b=.uq r
theorem iP{rs:List Nat}{d b:Nat}(h:jo tag rs b):Imm (cL rs d tag) b/\cL rs d tag b=.uq d:=by
 obtain⟨r,hr,h|h⟩:=h<;>simp[Imm,cL,h,hr]
theorem kO{m:Nat}{p:Nat->List Nat->Prop}(h:∀j,j<m->∃fp,p j fp):∃fps:Nat->List Nat,∀j,j<m->p j (fps j):=
 ⟨fun j=>if hj:j<m then(h j hj).choose else [],fun j hj=>by simp only[hj,dite_true];exact(h j hj).choose_spec⟩
theorem db{m:Nat}{fps:Nat->List Nat}(h1:∀j,j<m->(fps j).Nodup)(h2:∀i j,i<m->j<m->i≠j->∀b∈fps i,b∉fps j):(bP m fps).Nodup:=by
 induction m with
 |zero=>simp[bP]
 | succ m ih =>
   have e:bP (m+1) fps=bP m fps++fps m:=by simp[bP,List.range_succ]
   rw[e,List.nodup_append];refine⟨ih (fun j hj=>h1 j (by omega)) (fun i j hi hj=>h2 i j (by omega) (by omega)),h1 m (by omega),?_⟩;intro b hb c hc e;subst e;obtain⟨j,hj,hb⟩:=aU.1 hb;exact h2 j m (by omega) (by omega) (by omega) b hb hc
theorem bI{m:Nat}{fps:Nat->List Nat}(h:(bP m fps).Nodup):(∀j,j<m->(fps j).Nodup)/\(∀i j,i<m->j<m->i≠j->∀b∈fps i,b∉fps j):=by
 induction m with
 |zero=>exact⟨fun j hj=>by omega,fun i j hi=>by omega⟩
 | succ m ih =>
   have e:bP (m+1) fps=bP m fps++fps m:=by simp[bP,List.range_succ]
   rw[e,List.nodup_append] at h;obtain⟨h1,h2,h3⟩:=h;obtain⟨i1,i2⟩:=ih h1;refine⟨fun j hj=>?_,fun i j hi hj hij b hb hc=>?_⟩
   ·by_cases e:j=m
    ·subst e;exact h2
    ·exact i1 j (by omega)
   ·by_cases ei:i=m
    ·subst ei;exact h3 b (aU.2 ⟨j,by omega,hc⟩) b hb rfl
    ·by_cases ej:j=m
     ·subst ej;exact h3 b (aU.2 ⟨i,by omega,hb⟩) b hc rfl
     ·exact i2 i j (by omega) (by omega) hij b hb hc
theorem lK{cs:List AV}(h:(aF cs).Nodup):(∀(j:Nat)(x:AV),cs[j]?=some x->x.ments.Nodup)/\∀(i j:Nat)(x y:AV),i≠j->cs[i]?=some x->cs[j]?=some y->∀r∈x.ments,r∉y.ments:=by
 induction cs with
 |nil=>exact⟨fun j x hj=>by simp at hj,fun i j x y _ hi=>by simp at hi⟩
 | cons c cs ih =>
   simp only[aF,List.nodup_append] at h;obtain⟨h1,h2,h3⟩:=h;obtain⟨i1,i2⟩:=ih h2;refine⟨fun j x hj=>?_,fun i j x y hij hi hj r hr hr'=>?_⟩
   ·cases j with
    |zero=>simp at hj;subst hj;exact h1
    |succ j=>simp at hj;exact i1 j x hj
   ·cases i with
    | zero =>
      simp at hi;subst hi;cases j with
      |zero=>exact hij rfl
      |succ j=>simp at hj;exact h3 r hr r (br hj hr') rfl
    | succ i =>
      simp at hi;cases j with
      |zero=>simp at hj;subst hj;exact h3 r hr' r (br hi hr) rfl
      |succ j=>simp at hj;exact i2 i j x y (by omega) hi hj r hr hr'
theorem RR.lift(h:RR n w0 S0 σ a w tag β){rs:List Nat}{d:Nat}:∀(k:Nat)(x:AV)(v:Value),Rep w (Imm tag) w0.heap.size β v x->x.ments.Nodup->(∀r∈x.ments,r∈rs)->
 ∃fp,aQ w (Imm (cL rs d tag)) w0.heap.size v (lift σ.row k x) fp/\fp.Nodup/\∀b∈fp,jo tag x.ments b
 |0,x,v,_,_,_=>⟨[],by simp only[Vs.lift];exact .top v,List.nodup_nil,fun b hb=>by cases hb⟩
 | k + 1, x, v, hr, hnd, hrs => by
   have himm:∀b,Imm tag b->Imm (cL rs d tag) b/\w.heap[b]?=w.heap[b]?:=fun b hb=>⟨ij hb,rfl⟩;have comps:∀(cs:List AV)(vs:Array Value),(aF cs).Nodup->(∀r∈aF cs,r∈rs)->(∀(j:Nat)(x:AV),cs[j]?=some x->Rep w (Imm tag) w0.heap.size β (vs.getD j undef) x)->
    ∃ fps : Nat → List Nat, (∀ (j : Nat) (y : AV), (cs.map (Vs.lift σ.row k))[j]? = some y → aQ w (Imm (cL rs d tag)) w0.heap.size (vs.getD j undef) y (fps j)) ∧
      (bP cs.length fps).Nodup/\∀b∈bP cs.length fps,jo tag (aF cs) b:=by
    intro cs vs hn hmr hat;obtain⟨m1,m2⟩:=lK hn;have:=kO (m:=cs.length) (p:=fun j fp=>∀x,cs[j]?=some x->aQ w (Imm (cL rs d tag)) w0.heap.size (vs.getD j undef) (Vs.lift σ.row k x) fp/\fp.Nodup/\∀b∈fp,jo tag x.ments b)
     (fun j hj=>by
      have hx:cs[j]?=some cs[j]:=by simp[hj]
      obtain⟨fp,h1,h2,h3⟩:=RR.lift h k cs[j] _ (hat j _ hx) (m1 j _ hx) (fun r hr=>hmr r (br hx hr));exact⟨fp,fun x hx'=>by rw[hx] at hx';cases hx';exact⟨h1,h2,h3⟩⟩)
    obtain⟨fps,hf⟩:=this;refine⟨fps,?_,db ?_ ?_,?_⟩
    ·intro j y hj;simp only[List.getElem?_map,Option.map_eq_some_iff] at hj;obtain⟨x,hx,rfl⟩:=hj;exact(hf j (List.getElem?_eq_some_iff.1 hx).1 x hx).1
    ·intro j hj;exact(hf j hj cs[j] (by simp[hj])).2.1
    ·intro i j hi hj hij b hb hb';obtain⟨r,hr,hrt⟩:=(hf i hi cs[i] (by simp[hi])).2.2 b hb;obtain⟨q,hq,hqt⟩:=(hf j hj cs[j] (by simp[hj])).2.2 b hb';have:r=q:=by rcases hrt with e|e<;>rcases hqt with e'|e'<;>rw[e] at e'<;>cases e'<;>rfl
     subst this;exact m2 i j _ _ hij (by simp[hi]) (by simp[hj]) r hr hq
    ·intro b hb;obtain⟨j,hj,hb⟩:=aU.1 hb;obtain⟨r,hr,hrt⟩:=(hf j hj cs[j] (by simp[hj])).2.2 b hb;exact⟨r,br (List.getElem?_eq_getElem hj) hr,hrt⟩
   have none:∀y,aQ w (Imm (cL rs d tag)) w0.heap.size v y []->∃fp,aQ w (Imm (cL rs d tag)) w0.heap.size v y fp/\fp.Nodup/\∀b∈fp,jo tag x.ments b:=
    fun y hy=>⟨[],hy,List.nodup_nil,fun b hb=>by cases hb⟩
   cases x with
   | sc u =>
     simp only[Vs.lift];cases hr with|p v x hp=>exact none _ (hp.mono himm)
   | lst f q xs =>
     simp only[Vs.lift];cases hr with|p v x hp=>exact none _ (hp.mono himm)
   |tg f q xs=>simp only[Vs.lift];exact none _ (.top v)
   |bp f x off=>simp only[Vs.lift];exact none _ (.top v)
   |pt r i off=>simp only[Vs.lift];exact none _ (.top v)
   |fn f cs=>simp only[Vs.lift];exact none _ (.top v)
   |top=>simp only[Vs.lift];exact none _ (.top v)
   |ub=>simp only[Vs.lift];exact none _ (.top v)
   | agg cs =>
     simp only[Vs.lift];obtain⟨vs,rfl,h2,h3,h4⟩:=hr.agg_inv;simp only[AV.ments] at hnd hrs⊢;obtain⟨fps,f1,f2,f3⟩:=comps cs vs hnd hrs h4;have:=aQ.agg (w:=w) (S:=Imm (cL rs d tag)) (B:=w0.heap.size) vs (cs.map (Vs.lift σ.row k)) fps (by simpa using h2) h3 f1;rw[List.length_map] at this;exact⟨_,this,f2,f3⟩
   | tup cs =>
     simp only[Vs.lift];obtain⟨vs,rfl,h2,h4⟩:=hr.tup_inv;simp only[AV.ments] at hnd hrs⊢;obtain⟨fps,f1,f2,f3⟩:=comps cs vs hnd hrs h4;have:=aQ.tup (w:=w) (S:=Imm (cL rs d tag)) (B:=w0.heap.size) vs (cs.map (Vs.lift σ.row k)) fps (by simpa using h2) f1;rw[List.length_map] at this;exact⟨_,this,f2,f3⟩
   | sl r i m =>
     simp only[Vs.lift];have hrr:r∈rs:=hrs r (by simp[AV.ments]);cases hx:σ.row r with
     |none=>simp only[kY];exact none _ (.top v)
     | some row => cases row with
       |var y=>simp only[kY];exact none _ (.top v)
       |dead=>simp only[kY];exact none _ (.top v)
       | arr q es =>
         simp only[kY];rcases h.sl_inv hx hr with⟨rfl,rfl,rfl,rfl,_⟩|⟨b,o,cap,c,hb,rfl,hic,hmc,hlm⟩|⟨b,o,cap,p,hb,rfl,rfl,hp⟩
         ·rw[lH];exact none _ (.nil0 _ _)
         ·rcases h.arr hx with⟨e,_⟩|⟨b',o',cap',vs,fps,hb',⟨t1,t2,t3⟩,hlc,hva,hxx,hnd',huq⟩
          ·rw[hb] at e;cases e
          ·rw[hb] at hb';cases hb';obtain⟨n1,n2⟩:=bI hnd';have hsb:Imm (cL rs d tag) b:=(iP ⟨r,hrr,.inl t1⟩).1;have:=aQ.lst (w:=w) (S:=Imm (cL rs d tag)) (B:=w0.heap.size) .u q b (o+i*q) m c (sub es i m) (fun j=>vs (i+j)) (fun j=>fps (i+j)) (iR hlm) hmc ⟨hsb,t2⟩
            (fun _=>by
             obtain⟨cc,ty,e1,e2⟩:=t3;refine⟨cc,ty,e1,?_⟩;have:(i+c)*q<=cap*q:=Nat.mul_le_mul_right q (Nat.le_of_eq hic);rw[Nat.add_mul] at this;omega)
            (fun j x hj=>by
             have:=hva _ _ (iI hj).1;refine⟨this.1,?_⟩;have e:o+(i+j)*q=o+i*q+j*q:=by rw[Nat.add_mul];omega
             rw[<-e];exact this.2)
            (fun j x hj=>(hxx _ _ (iI hj).1).mono himm)
           refine⟨_,this,?_,?_⟩
           ·rw[if_pos rfl];simp only[List.singleton_append,List.nodup_cons];refine⟨?_,db (fun j hj=>n1 _ (by omega)) (fun i' j' hi hj hij=>n2 _ _ (by omega) (by omega) (by omega))⟩;intro hb2;obtain⟨j,hj,hb2⟩:=aU.1 hb2;have:=huq b (aU.2 ⟨i+j,by omega,hb2⟩);rw[t1] at this;cases this
           ·intro b2 hb2;rw[if_pos rfl] at hb2;simp only[List.singleton_append,List.mem_cons] at hb2;rcases hb2 with rfl|hb2
            ·exact⟨r,by simp[AV.ments],.inl t1⟩
            ·obtain⟨j,hj,hb2⟩:=aU.1 hb2;exact⟨r,by simp[AV.ments],.inr (huq b2 (aU.2 ⟨i+j,by omega,hb2⟩))⟩
         ·rcases h.arr hx with⟨e,_⟩|⟨b',o',cap',vs,fps,hb',⟨t1,t2,t3⟩,hlc,hva,hxx,hnd',huq⟩
          ·rw[hb] at e;cases e
          ·rw[hb] at hb';cases hb';have hsb:Imm (cL rs d tag) b:=(iP ⟨r,hrr,.inl t1⟩).1;rw[sub_zero];have:=aQ.lst (w:=w) (S:=Imm (cL rs d tag)) (B:=w0.heap.size) .u q b p 0 0 [] (fun _=>undef) (fun _=>[]) rfl (Nat.le_refl _) ⟨hsb,t2⟩
            (fun _=>by obtain⟨cc,ty,e1,e2⟩:=t3;exact⟨cc,ty,e1,by omega⟩) (fun j x hj=>by simp at hj) (fun j x hj=>by simp at hj)
           refine⟨_,this,?_,?_⟩
           ·rw[bi _ _ fun _ _=>rfl];simp
           ·intro b2 hb2;rw[bi _ _ fun _ _=>rfl] at hb2;simp at hb2;subst hb2;exact⟨r,by simp[AV.ments],.inl t1⟩
end Vs

namespace Vs
open Go Go.RowKit
variable{P:Program}{n:Nat}{w0:World}{S0:Fx}{σ:St}{a:Act}{w w':World}{tag tag':Nat->Tag}{β β':Nat->Option Own}
theorem ck(d:Nat)(row:Row)(r:Nat):∀(rs:List Nat)(rows:List (Nat×Row)),look r (bc (bX rs++[(d,row)]) rows)=if r=d then some row else if r∈rs then some .dead else look r rows
 |[],rows=>by simp[bc,bX,aC]
 | q :: rs, rows => by
   have ih:=ck d row r rs (put q .dead rows);have e:bc (bX (q::rs)++[(d,row)]) rows=bc (bX rs++[(d,row)]) (put q .dead rows):=rfl;rw[e,ih,aC];by_cases h1:r=d
   ·simp[h1]
   ·by_cases h2:r∈rs
    ·simp[h1,h2]
    ·by_cases h3:r=q<;>simp[h1,h2,h3]
theorem RR.move(h:RR n w0 S0 σ a w tag β){rs:List Nat}{d:Nat}{row:Row}{own:Option Own}(hdr:d∉rs)(hd:look d σ.rows=none/\d<1000000000\/own=β d/\cD (look d σ.rows))
 (hbelow:Below w0.heap.size w w') (himm:∀b,Imm tag b->Imm tag' b/\w'.heap[b]?=w.heap[b]?) (hlt:∀b,tag' b≠.out->b<w'.heap.size)
 (hkeep:∀b,b<w.heap.size->tag b=.imm\/tag b=.out->tag' b=tag b/\w'.heap[b]?=w.heap[b]?) (hown:∀b q,q∉rs->q≠d->tag b=.own q->tag' b=.own q/\w'.heap[b]?=w.heap[b]?)
 (huq:∀b q,q∉rs->q≠d->tag b=.uq q->tag' b=.uq q)
 (hrow:co w' tag' w0.heap.size (fun r=>if r=d then own else if r∈rs then none else β r) d (some row))
 (hwf:∀y,row=.var y->∀q∈y.ments,(look q σ.rows).isSome):
 RR n w0 S0 ⟨σ.env,bc (bX rs++[(d,row)]) σ.rows⟩ a w' tag' (fun r=>if r=d then own else if r∈rs then none else β r):=by
 have hsome:∀r,(look r σ.rows).isSome->(look r (bc (bX rs++[(d,row)]) σ.rows)).isSome:=by
  intro r hr;rw[ck];split
  ·rfl
  ·split
   ·rfl
   ·exact hr
 have hβ:∀r,(look r σ.rows).isSome->(if r=d then own else if r∈rs then none else β r)=β r\/(if r=d then own else if r∈rs then none else β r)=none:=by
  intro r hr;by_cases e:r=d
  ·subst e;rw[if_pos rfl];rcases hd with hd|hd
   ·rw[hd.1] at hr;cases hr
   ·exact .inl hd.1
  ·rw[if_neg e];split
   ·exact .inr rfl
   ·exact .inl rfl
 refine h.change hbelow himm hlt hkeep (fun r hr hl=>?_) hβ hsome ?_ ?_
 ·rw[ck] at hl;by_cases e:r=d
  ·subst e;rcases hd with hd|hd
   ·have:=hd.2;omega
   ·exact⟨hd.2,by rw[if_pos rfl];exact hd.1⟩
  ·rw[if_neg e] at hl⊢;by_cases er:r∈rs
   ·rw[if_pos er] at hl;exact hl.elim
   ·rw[if_neg er] at hl⊢;exact⟨hl,rfl⟩
 ·intro r;rw[ck];by_cases e:r=d
  ·subst e;rw[if_pos rfl];exact hrow
  ·rw[if_neg e];by_cases er:r∈rs
   ·rw[if_pos er];show(if r=d then own else if r∈rs then none else β r)=none;rw[if_neg e,if_pos er]
   ·rw[if_neg er];refine(h.rows r).mono himm (fun b hb=>hown b r er e hb) (fun b hb=>huq b r er e hb) ?_ ?_
    ·rw[if_neg e,if_neg er]
    ·intro x hx q hq;exact hβ q (h.wfr r x hx q hq)
 ·intro r y hr q hq;rw[ck] at hr;apply hsome;by_cases e:r=d
  ·rw[if_pos e] at hr;simp at hr;exact hwf y hr q hq
  ·rw[if_neg e] at hr;by_cases er:r∈rs
   ·rw[if_pos er] at hr;cases hr
   ·rw[if_neg er] at hr;exact h.wfr r y hr q hq
theorem CP{ps:List (Nat×Operand)}{qs:List X}:∀{k:Nat},pF k ps qs=true->ps.length=qs.length/\∀(j:Nat)(y:X),qs[j]?=some y->∃x,ps[j]?=some (k+j,x)/\cx x y=true:=by
 induction ps generalizing qs with
 | nil => intro k h; cases qs with
   |nil=>simp
   |cons=>simp[pF] at h
 | cons p ps ih => intro k h; cases qs with
   |nil=>obtain⟨i,x⟩:=p;simp[pF] at h
   | cons q qs =>
     obtain⟨i,x⟩:=p;simp[pF] at h;obtain⟨⟨rfl,h2⟩,h3⟩:=h;obtain⟨h4,h5⟩:=ih h3;refine⟨by simp[h4],fun j y hj=>?_⟩;cases j with
     |zero=>simp at hj;subst hj;exact⟨x,by simp,h2⟩
     |succ j=>simp at hj;obtain⟨u,hu,hc⟩:=h5 j y hj;exact⟨u,by simp[hu];omega,hc⟩
theorem uQ{k:Nat}{ev:Operand->Value}(hk:0<k):∀(ps:List (Nat×Operand))(i:Nat)(cs:Array Value),(∀(j:Nat) p,ps[j]?=some p->p.1=i+j/\(ev p.2).cells.size=k)->(i+ps.length)*k<=cs.size->
 ∃ us, Instr.fill (fun i => some (i * k, k)) cs (ps.map fun (i, x) => (i, ev x)) = some us ∧ us.size = cs.size ∧
   (∀(j:Nat) p,ps[j]?=some p->∀c x,(ev p.2).cells[c]?=some x->us[(i+j)*k+c]?=some x)/\∀c,c<i*k->us[c]?=cs[c]?
 |[],i,cs,_,_=>⟨cs,rfl,rfl,fun j p hj=>by simp at hj,fun c _=>rfl⟩
 | (q, x) :: ps, i, cs, hp, hle => by
   obtain⟨e,hsz⟩:=hp 0 (q,x) rfl;simp only at e hsz;have e:q=i:=by omega
   subst e;have hlen:(ev x).cells.toList.length=k:=by simpa using hsz
   simp only[List.length_cons] at hle;have hle1:q*k+k<=cs.size:=by
    have:(q+1)*k<=(q+(ps.length+1))*k:=Nat.mul_le_mul_right k (by omega);rw[Nat.add_mul,Nat.one_mul] at this;omega
   have hfold:(ev x).cells.zipIdx.foldl (fun cs(p:Value×Nat)=>cs.setIfInBounds (q*k+p.2) p.1) cs=((ev x).cells.toList.zipIdx 0).foldl (fun cs(p:Value×Nat)=>cs.setIfInBounds (q*k+p.2) p.1) cs:=by
    rw[<-Array.foldl_toList];simp
   have hsize:=et (q*k) ((ev x).cells.toList.zipIdx 0) cs;have hget:=fun j=>eM (q*k) j (ev x).cells.toList 0 cs (by omega);obtain⟨us,hu,hus,hat,hlow⟩:=uQ hk ps (q+1) (((ev x).cells.toList.zipIdx 0).foldl (fun cs(p:Value×Nat)=>cs.setIfInBounds (q*k+p.2) p.1) cs)
    (fun j p hj=>by
     have:=hp (j+1) p (by simpa using hj)
     exact ⟨by omega, this.2⟩) (by rw [hsize]; have : q + 1 + ps.length = q + (ps.length + 1) := by omega
                                   rw[this];exact hle)
   refine⟨us,?_,by rw[hus,hsize],?_,?_⟩
   ·simp only[List.map_cons,Instr.fill];rw[if_neg (by simp[hsz];omega),hfold];exact hu
   ·intro j p hj c y hy;cases j with
    | zero =>
      simp at hj;subst hj;simp only at hy;have hc:c<k:=by have:=(Array.getElem?_eq_some_iff.1 hy).1;omega
      rw[Nat.add_zero,hlow _ (by rw[Nat.add_mul];omega)];have hb:q*k+c<(((ev x).cells.toList.zipIdx 0).foldl (fun cs(p:Value×Nat)=>cs.setIfInBounds (q*k+p.2) p.1) cs).size:=by rw[hsize];omega
      have:=hget (q*k+c);rw[if_pos (by omega)] at this;rw[Array.getElem?_eq_getElem hb];have e1:((((ev x).cells.toList.zipIdx 0).foldl (fun cs(p:Value×Nat)=>cs.setIfInBounds (q*k+p.2) p.1) cs)).getD (q*k+c) undef=(((ev x).cells.toList.zipIdx 0).foldl (fun cs(p:Value×Nat)=>cs.setIfInBounds (q*k+p.2) p.1) cs)[q*k+c]:=by simp only[Array.getD,hb,dite_true];rfl
      rw[e1] at this;rw[this];have e2:q*k+c-(q*k+0)=c:=by omega
      rw[e2,List.getD_eq_getElem?_getD,Array.getElem?_toList,hy];rfl
    | succ j =>
      simp at hj;have:=hat j p hj c y hy;have e:q+1+j=q+(j+1):=by omega
      rwa[e] at this
   ·intro c hc;rw[hlow c (by rw[Nat.add_mul];omega)];have hb':c<cs.size:=by omega
    have hb:c<(((ev x).cells.toList.zipIdx 0).foldl (fun cs(p:Value×Nat)=>cs.setIfInBounds (q*k+p.2) p.1) cs).size:=by rw[hsize];omega
    have:=hget c;rw[if_neg (by omega)] at this;rw[Array.getElem?_eq_getElem hb,Array.getElem?_eq_getElem hb'];simp only[Array.getD,hb,hb',dite_true] at this;congr 1
theorem RR.lifts(h:RR n w0 S0 σ a w tag β){rs:List Nat}{d k:Nat}{cs:List AV}{vs:Nat->Value}(hn:(aF cs).Nodup)(hmr:∀r∈aF cs,r∈rs)
 (hat:∀(j:Nat)(x:AV),cs[j]?=some x->Rep w (Imm tag) w0.heap.size β (vs j) x):
 ∃ fps : Nat → List Nat, (∀ (j : Nat) (y : AV), (cs.map (Vs.lift σ.row k))[j]? = some y → aQ w (Imm (cL rs d tag)) w0.heap.size (vs j) y (fps j)) ∧
   (bP cs.length fps).Nodup/\∀b∈bP cs.length fps,jo tag (aF cs) b:=by
 obtain⟨m1,m2⟩:=lK hn;have:=kO (m:=cs.length) (p:=fun j fp=>∀x,cs[j]?=some x->aQ w (Imm (cL rs d tag)) w0.heap.size (vs j) (Vs.lift σ.row k x) fp/\fp.Nodup/\∀b∈fp,jo tag x.ments b)
  (fun j hj=>by
   have hx:cs[j]?=some cs[j]:=by simp[hj]
   obtain⟨fp,h1,h2,h3⟩:=h.lift k cs[j] _ (hat j _ hx) (m1 j _ hx) (fun r hr=>hmr r (br hx hr));exact⟨fp,fun x hx'=>by rw[hx] at hx';cases hx';exact⟨h1,h2,h3⟩⟩)
 obtain⟨fps,hf⟩:=this;refine⟨fps,?_,db ?_ ?_,?_⟩
 ·intro j y hj;simp only[List.getElem?_map,Option.map_eq_some_iff] at hj;obtain⟨x,hx,rfl⟩:=hj;exact(hf j (List.getElem?_eq_some_iff.1 hx).1 x hx).1
 ·intro j hj;exact(hf j hj cs[j] (by simp[hj])).2.1
 ·intro i j hi hj hij b hb hb';obtain⟨r,hr,hrt⟩:=(hf i hi cs[i] (by simp[hi])).2.2 b hb;obtain⟨q,hq,hqt⟩:=(hf j hj cs[j] (by simp[hj])).2.2 b hb';have:r=q:=by rcases hrt with e|e<;>rcases hqt with e'|e'<;>rw[e] at e'<;>cases e'<;>rfl
  subst this;exact m2 i j _ _ hij (by simp[hi]) (by simp[hj]) r hr hq
 ·intro b hb;obtain⟨j,hj,hb⟩:=aU.1 hb;obtain⟨r,hr,hrt⟩:=(hf j hj cs[j] (by simp[hj])).2.2 b hb;exact⟨r,br (List.getElem?_eq_getElem hj) hr,hrt⟩
theorem jQ{rs:List Nat}{d b:Nat}(h:cL rs d tag b≠.out):tag b≠.out:=by
 intro e;apply h;simp[cL,e]
theorem uY{rs:List Nat}{d b:Nat}(hb:tag b=.imm\/tag b=.out):cL rs d tag b=tag b:=by
 rcases hb with e|e<;>simp[cL,e]
section ops
variable{o:Oper}{K:AV->List (Nat×Row)->Prop}{d:Nat}(h:RR n w0 S0 σ a w tag β)(hod:o.dst=some d)(hd:d<n)
include h hod hd
theorem xM{t len k:Nat}{fr:Bool}{ps:Array (Nat×Operand)}{qs:List X}(hop:o.op=.buildSlice t len ps)(hm:aX P (.buildSlice t len ps) (.bsl k fr qs)=true)
 (hnone:σ.row d=none) (hw:∀p∈qs,(σ.gx p).width=k) (hnd:(aF (qs.map σ.gx)).Nodup)
 (hk:K (.sl d 0 qs.length) (bX (aF (qs.map σ.gx))++[(d,.arr k ((qs.map σ.gx).map (Vs.lift σ.row 2)))])):Snd P n w0 S0 σ o K a w:=by
 simp[aX] at hm;obtain⟨⟨⟨⟨h1,h2⟩,rfl⟩,h4⟩,h5⟩:=hm;obtain⟨e,inf,he,hinf,hsz,hpos⟩:=dR h1;have⟨zv,hzv,hzs⟩:∃zv,inf.zero=some zv/\zv.cells.size=k:=by
  unfold sO at h2;rw[he] at h2;simp only[hinf] at h2;split at h2
  ·rename_i v hv;exact⟨v,hv,by simpa using h2⟩
  ·cases h2
 obtain⟨hpl,hpat⟩:=CP h5;have hdn:look d σ.rows=none:=hnone;have hrep:∀(j:Nat) p,ps.toList[j]?=some p->p.1=0+j/\(a.eval p.2).cells.size=k/\∀c∈(a.eval p.2).cells,c.oneCell'=true:=by
  intro j p hj;have hlt:j<qs.length:=by rw[<-hpl];exact(List.getElem?_eq_some_iff.1 hj).1
  obtain⟨x,hx,hmx⟩:=hpat j qs[j] (by simp[hlt]);rw[hj] at hx;cases hx;refine⟨rfl,?_⟩;have hwq:=hw qs[j] (List.getElem_mem _);refine⟨?_,((h.gx hmx).1.width (by omega)).2⟩;rw[((h.gx hmx).1.width (by omega)).1,hwq]
 obtain⟨us,hus,hussz,hat,_⟩:=uQ (ev:=a.eval) hpos ps.toList 0 (madeCells zv.cells (qs.length*k)) (fun j p hj=>⟨(hrep j p hj).1,(hrep j p hj).2.1⟩) (by rw[size_madeCells,hpl];simp);rw[size_madeCells] at hussz;have hrun:(execOp a.eval o).run P w=.ok (.value (.slice (some ⟨w.heap.size,0,none⟩) qs.length qs.length)) (w.alloc (.cells us e)):=by
  have hus':Instr.fill (fun i=>some (i*k,k)) (madeCells zv.cells (qs.length*k)) (ps.toList.map fun x=>(x.fst,a.eval x.snd))=some us:=hus;by_cases h0:qs.length*k=0
  ·have hq0:qs.length=0:=by
    rcases Nat.mul_eq_zero.1 h0 with e|e<;>omega
   have hps:ps.toList=[]:=List.eq_nil_of_length_eq_zero (by omega);have hps':ps=#[]:=by simpa using hps
   have hus0:us=#[]:=Array.eq_empty_of_size_eq_zero (by omega);have hr0:Array.range 0=#[]:=rfl;simp[execOp,hop,Instr.buildSlice,run_underlying he,Go.sizeOf,typeInfo,hinf,hq0,hps',Instr.fill,newRow,hus0,hr0]
  ·have hh:((Array.range (qs.length*k)).map fun i=>zv.cells[i%zv.cells.size]!)=madeCells zv.cells (qs.length*k):=rfl;simp[execOp,hop,Instr.buildSlice,run_underlying he,Go.sizeOf,typeInfo,hinf,hsz,h0,zeroValue,hzv,hh,hus',newRow,show¬(16777216<qs.length*k) by omega]
 refine .value hrun hk ?_;rw[hod]
 -- the values of the parts
 have hvs:∀(j:Nat)(x:AV),(qs.map σ.gx)[j]?=some x->∃p,ps.toList[j]?=some p/\Rep w (Imm tag) w0.heap.size β (a.eval p.2) x/\σ.dom x:=by
  intro j x hj;simp only[List.getElem?_map,Option.map_eq_some_iff] at hj;obtain⟨y,hy,rfl⟩:=hj;obtain⟨z,hz,hmz⟩:=hpat j y hy;exact⟨_,hz,(h.gx hmz).1,(h.gx hmz).2⟩
 have hdr:d∉aF (qs.map σ.gx):=by
  intro hmem;obtain⟨c,hc,hr⟩:=bB.1 hmem;obtain⟨j,hj,rfl⟩:=List.getElem_of_mem hc;obtain⟨p,_,_,hdm⟩:=hvs j _ (List.getElem?_eq_getElem hj);have:=hdm d hr;rw[hdn] at this;cases this
 obtain⟨fps,f1,f2,f3⟩:=h.lifts (rs:=aF (qs.map σ.gx)) (d:=d) (k:=2) (vs:=fun j=>(ps.toList[j]?.map fun p=>a.eval p.2).getD undef) hnd (fun r hr=>hr)
  (fun j x hj=>by obtain⟨p,hp,hr,_⟩:=hvs j x hj;simpa[hp] using hr)
 have hB:w0.heap.size<=w.heap.size:=h.below.size;have hlt0:∀b,tag b≠.out->b<w.heap.size:=h.lt;have himm2:∀b,Imm (cL (aF (qs.map σ.gx)) d tag) b->Imm (fun b=>if b=w.heap.size then Tag.own d else cL (aF (qs.map σ.gx)) d tag b) b/\(w.alloc (.cells us e)).heap[b]?=w.heap[b]?:=by
  intro b hb;have hlt:b<w.heap.size:=hlt0 b (jQ (rs:=aF (qs.map σ.gx)) (d:=d) (by rcases hb with e|⟨r,e⟩<;>simp[e]));refine⟨?_,Below.heap_alloc _ _ _ hlt⟩;unfold Imm at hb⊢;simp only[if_neg (show b≠w.heap.size by omega)];exact hb
 have hmove:=h.move (w':=w.alloc (.cells us e)) (tag':=fun b=>if b=w.heap.size then Tag.own d else cL (aF (qs.map σ.gx)) d tag b) (rs:=aF (qs.map σ.gx)) (d:=d)
  (row:=.arr k ((qs.map σ.gx).map (Vs.lift σ.row 2))) (own:=some (.blk w.heap.size 0 k qs.length ((qs.map σ.gx).map (Vs.lift σ.row 2)).length)) hdr (.inl ⟨hdn,by have:=h.nn;omega⟩) ((Below.refl _ _).alloc hB _)
  (fun b hb=>himm2 b (ij hb))
  (fun b hb=>by
   by_cases e:b=w.heap.size
   ·subst e;simp
   ·rw[if_neg e] at hb;have:=hlt0 b (jQ hb);simp;omega)
  (fun b hb ht=>⟨by rw[if_neg (by omega)];exact uY ht,Below.heap_alloc _ _ _ hb⟩)
  (fun b q hq hqd hb=>by
   have hlt:=hlt0 b (by simp[hb]);refine⟨?_,Below.heap_alloc _ _ _ hlt⟩;rw[if_neg (by omega)];simp[cL,hb,hq])
  (fun b q hq hqd hb=>by
   have hlt:=hlt0 b (by simp[hb]);rw[if_neg (by omega)];simp[cL,hb,hq])
  (.inr ⟨w.heap.size, 0, qs.length, fun j => (ps.toList[j]?.map fun p => a.eval p.2).getD undef, fps, if_pos rfl, ⟨if_pos rfl, hB, kS (by omega)⟩, by simp,
    fun j x hj=>by
     simp only[List.getElem?_map,Option.map_eq_some_iff] at hj;obtain⟨_,⟨y,hy,rfl⟩,rfl⟩:=hj;obtain⟨p,hp,_⟩:=hvs j (σ.gx y) (by simp[hy]);simp only[hp,Option.map_some,Option.getD_some];refine⟨(hrep j p hp).2.1,fun i c hc=>⟨?_,(hrep j p hp).2.2 c (Array.mem_of_getElem? hc)⟩⟩;rw[World.cell?_alloc_new];have:=hat j p hp i c hc;simpa using this,
    fun j x hj=>(f1 j x hj).mono himm2,
    by simpa using f2,
    fun c hc=>by
     have hc':c∈bP (qs.map σ.gx).length fps:=by simpa using hc
     have hof:=f3 c hc';have hlt:c<w.heap.size:=hlt0 c (by obtain⟨r,_,e|e⟩:=hof<;>simp[e]);show(if c=w.heap.size then Tag.own d else cL (aF (qs.map σ.gx)) d tag c)=.uq d;rw[if_neg (by omega)];exact(iP hof).2⟩)
  (fun y hy=>by cases hy)
 have hst:=hmove.step hd (v:=.slice (some ⟨w.heap.size,0,none⟩) qs.length qs.length) (x:=.sl d 0 qs.length) (by
  have:=Rep.slB (w:=w.alloc (.cells us e)) (S:=Imm fun b=>if b=w.heap.size then Tag.own d else cL (aF (qs.map σ.gx)) d tag b) (B:=w0.heap.size)
   (β:=fun r=>if r=d then some (Own.blk w.heap.size 0 k qs.length ((qs.map σ.gx).map (Vs.lift σ.row 2)).length) else if r∈aF (qs.map σ.gx) then none else β r)
   d 0 qs.length w.heap.size 0 k qs.length _ qs.length (if_pos rfl) (by omega) (by omega) (by simp)
  simpa using this) (fun r hr=>by
  simp[AV.ments] at hr;subst hr;rw[ck,if_pos rfl];rfl)
 exact⟨_,_,hst⟩
end ops
end Vs

