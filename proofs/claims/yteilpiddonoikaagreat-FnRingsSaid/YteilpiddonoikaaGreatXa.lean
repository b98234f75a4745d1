/-
  Part of the proof that the law FnRings returns true at every input; no condition beside the row's own.
-/
import Derived.Calls
import Derived.Below
set_option linter.defProp false
set_option linter.unusedSimpArgs false
set_option linter.unusedVariables false
namespace Vs
open Go
inductive Fl where | o | s | m | u
 deriving DecidableEq
def Fl.als:Fl→Fl
 | .u=>.m
 | f=>f
def Fl.fix:Fl→Fl
 | .o=>.s
 | f=>f
inductive AV where
 | sc (v:Value)
 | lst (f:Fl) (n:Nat) (xs:List AV)
 | tg (f:Fl) (n:Nat) (xs:List AV)
 | agg (cs:List AV)
 | bp (f:Fl) (x:AV) (off:Nat)
 | sl (r i n:Nat)
 | pt (r i off:Nat)
 | fn (f:Nat) (cs:List AV)
 | tup (vs:List AV)
 | ub
 | top
instance:Inhabited AV:=⟨.top⟩
abbrev AV.i (n:Int):AV:=.sc (.int .i64 n)
abbrev AV.u8 (n:Int):AV:=.sc (.int .u8 n)
abbrev AV.u64 (n:Int):AV:=.sc (.int .u64 n)
abbrev AV.b (b:Bool):AV:=.sc (.bool b)
abbrev AV.z (s:ByteArray):AV:=.sc (.string s)
def AV.width:AV→Nat
 | .agg cs=>cs.length
 | .top=>0
 | .tup _=>0
 | _=>1
def AV.isAgg:AV→Bool
 | .agg _=>true
 | _=>false
def AV.cells:AV→List AV
 | .agg cs=>cs
 | .top=>[]
 | .tup _=>[]
 | x=>[x]
def AV.flat:AV→Bool
 | .sc _=>true
 | .agg cs=>cs.all fun | .sc _=>true | _=>false
 | _=>false
mutual
def AV.nrm:AV→AV
 | .sc v=>.sc v
 | .lst _ n xs=>.lst .o n (fR xs)
 | .tg _ n xs=>.lst .o n (fR xs)
 | .agg cs=>.agg (fR cs)
 | .bp _ x off=>.bp .o x.nrm off
 | .fn f cs=>.fn f (fR cs)
 | _=>.top
def fR:List AV→List AV
 | []=>[]
 | c::cs=>c.nrm::fR cs
end
mutual
def AV.als:AV→AV
 | .sc v=>.sc v
 | .lst f n xs=>.lst f.als n (ct xs)
 | .agg cs=>.agg (ct cs)
 | _=>.top
def ct:List AV→List AV
 | []=>[]
 | c::cs=>c.als::ct cs
end
mutual
def AV.fix:AV→AV
 | .sc v=>.sc v
 | .lst f n xs=>.lst f.fix n (fF xs)
 | .agg cs=>.agg (fF cs)
 | .tup cs=>.tup (fF cs)
 | .fn f cs=>.fn f (fF cs)
 | _=>.top
def fF:List AV→List AV
 | []=>[]
 | c::cs=>c.fix::fF cs
end
mutual
def AV.ments:AV→List Nat
 | .sl r _ _=>[r]
 | .pt r _ _=>[r]
 | .agg cs=>aD cs
 | .fn _ cs=>aD cs
 | .tup cs=>aD cs
 | _=>[]
def aD:List AV→List Nat
 | []=>[]
 | c::cs=>c.ments++aD cs
end
mutual
def AV.allU:AV→Prop
 | .sc _=>True
 | .lst f _ xs=>f=.u∧jT xs
 | .agg cs=>jT cs
 | .tup cs=>jT cs
 | _=>False
def jT:List AV→Prop
 | []=>True
 | c::cs=>c.allU∧jT cs
end
mutual
def AV.allO:AV→Prop
 | .sc _=>True
 | .lst f _ xs=>f=.o∧lW xs
 | .agg cs=>lW cs
 | .tup cs=>lW cs
 | _=>False
def lW:List AV→Prop
 | []=>True
 | c::cs=>c.allO∧lW cs
end
mutual
def AV.ou:AV→Prop
 | .sc _=>True
 | .lst f _ xs=>(f=.u∧ouL xs)∨(f=.o∧lW xs)
 | .agg cs=>ouL cs
 | .tup cs=>ouL cs
 | _=>False
def ouL:List AV→Prop
 | []=>True
 | c::cs=>c.ou∧ouL cs
end
mutual
def AV.noU:AV→Prop
 | .sc _=>True
 | .lst f _ xs=>f ≠ .u∧wn xs
 | .agg cs=>wn cs
 | .tup cs=>wn cs
 | _=>False
def wn:List AV→Prop
 | []=>True
 | c::cs=>c.noU∧wn cs
end
def sub (es:List AV) (i n:Nat):List AV:=if i=0∧n=es.length then es else (es.drop i).take n
def cG {α:Type} (es:List α) (i:Nat) (ys:List α):List α:=if i+ys.length≤es.length then es.take i++ys++es.drop (i+ys.length) else es
inductive Row where
 | var (x:AV)
 | arr (n:Nat) (es:List AV)
 | dead
def cd:Option Row→Prop
 | some (.var _)=>True
 | some (.arr _ _)=>True
 | _=>False
def aq {α:Type} (k:Nat):List (Nat×α)→Option α
 | []=>none
 | (j,x)::l=>if j=k then some x else aq k l
def put {α:Type} (k:Nat) (x:α):List (Nat×α)→List (Nat×α)
 | []=>[(k,x)]
 | (j,y)::l=>if j=k then (k,x)::l else (j,y)::put k x l
def me (o:Option Row) (i n:Nat):AV:=match o with
 | some (.arr w es)=>.lst .o w (fR (sub es i n))
 | _=>.top
def kP (h:AV→AV) (o:Option Row) (i off:Nat):AV:=match o with
 | some (.var y)=>if i=0 then .bp .o (h y) off else .top
 | some (.arr _ es) => match es[i]? with
   | some y=>.bp .o y.nrm off
   | none=>.top
 | _=>.top
def snp (ρ:Nat→Option Row):Nat→AV→AV
 | 0,_=>.top
 | k + 1, x => match x with
   | .sl r i n=>me (ρ r) i n
   | .pt r i off=>kP (snp ρ k) (ρ r) i off
   | .agg cs=>.agg (cs.map (snp ρ k))
   | .fn f cs=>.fn f (cs.map (snp ρ k))
   | x=>x.nrm
def ke (o:Option Row) (i n:Nat):AV:=match o with
 | some (.arr w es)=>.lst .u w (sub es i n)
 | _=>.top
def lift (ρ:Nat→Option Row):Nat→AV→AV
 | 0,_=>.top
 | k + 1, x => match x with
   | .sl r i n=>ke (ρ r) i n
   | .agg cs=>.agg (cs.map (lift ρ k))
   | .tup cs=>.tup (cs.map (lift ρ k))
   | .sc v=>.sc v
   | .lst f n xs=>.lst f n xs
   | _=>.top
def adopt:Nat→Nat→AV→AV×List (Nat×Row)×Nat
 | 0,c,_=>(.top,[],c)
 | k + 1, c, x => match x with
   | .lst .u n es=>(.sl c 0 es.length,[(c,.arr n (fF es))],c+1000)
   | .agg cs=>let (l,u,c):=go k c cs; (.agg l,u,c)
   | .tup cs=>let (l,u,c):=go k c cs; (.tup l,u,c)
   | x=>(x.fix,[],c)
where
 go (k:Nat):Nat→List AV→List AV×List (Nat×Row)×Nat
  | c,[]=>([],[],c)
  | c, x :: xs =>
    let (y,u,c):=adopt k c x
    let (ys,us,c):=go k c xs
    (y::ys,u++us,c)
inductive X where
 | t (n:Nat)
 | c (a:AV)
inductive AOp where
 | mv (x:X)
 | pick (c a b:X)
 | alloc (z:AV)
 | box (n:Nat) (x:X)
 | build (z:List AV) (ps:List (Nat×Nat×X))
 | bsl (n:Nat) (fr:Bool) (ps:List X)
 | load (n:Nat) (ag:Bool) (x:X)
 | store (n:Nat) (x v:X)
 | bin (op:BinOp) (x y:X)
 | beq (neg:Bool) (x y:X)
 | un (op:UnOp) (x:X)
 | conv (k:IntKind) (x:X)
 | mkf (f:Nat) (cs:List X)
 | mks (n:Nat) (z:AV) (bytes:Nat) (l c:X)
 | slc (n:Nat) (x:X) (lo hi mx:Option X)
 | slz (x:X) (lo hi:Option X)
 | fad (off:Nat) (x:X)
 | idx (n:Nat) (x i:X)
 | fld (off n:Nat) (ag:Bool) (x:X)
 | stri (x i:X)
 | ext (x:X) (j:Nat)
 | call (f:Nat) (xs:List X)
 | dyn (x:X) (xs:List X)
 | callM (f:Nat) (xs:List X) (rs:List Nat)
 | dynM (x:X) (xs:List X) (rs:List Nat)
 | len (x:X)
 | lenz (x:X)
 | capn (x:X)
 | slg (n:Nat) (x hi:X)
 | apz (n:Nat) (z:AV) (bytes:Nat) (x l:X)
 | b2s (x:X)
 | isn (neg:Bool) (x:X)
 | aeq (neg:Bool) (x y:X)
 | apq (n:Nat) (x y:X)
 | slx (n:Nat) (x:X) (lo hi:Option X)
 | slm (n:Nat) (x lo hi mx:X)
 | clr (n:Nat) (z:AV) (x:X)
 | cpy (n:Nat) (x y:X)
 | ldv (av:List Nat) (n:Nat) (ag:Bool) (x:X)
 | str (n:Nat) (x v:X)
 | lda (n:Nat) (ag:Bool) (x:X)
 | stv (n:Nat) (x v:X)
 | fdv (av:List Nat) (off:Nat) (x:X)
 | idv (av:List Nat) (n:Nat) (x i:X)
 | lnv (av:List Nat) (x:X)
 | stw (r n:Nat) (x v:X)
 | bsm (n:Nat) (ps:List X)
 | app (n bytes:Nat) (mv:Bool) (x y:X)
 | nilc (x:X)
 | mn (x y:X)
 | mx (x y:X)
 | bad
structure aM where
 d:Option Nat
 op:AOp
 gd:Option (Nat×Bool)
inductive HOp where
 | inn (t n k:Nat) (x:X) (mids:List (Nat×X)) (d f:Nat) (xs:List X)
 | har (d f:Nat) (xs:List X) (rs:List Nat)
inductive Can where
 | s (d:Nat)
 | f (far:Bool) (d r j:Nat)
 | r (d:Nat)
 | z (d:Nat)
 | e (far:Bool) (d k j:Nat)
 | w (r:Nat)
inductive aj where
 | skip
 | reg (ops:List aM) (can:List Can)
 | regh (pre:List aM) (h:HOp) (post:List aM) (can:List Can)
 | drw (ops:List aM) (can:List Can)
 | seq (a b:aj)
 | seqr (a:aj) (lv lr:List Nat) (b:aj)
 | seqa (x a:aj) (lv lr:List Nat) (b:aj)
 | seqb (a:aj) (lv:List Nat) (b:aj)
 | cond (x:X) (a b:aj)
 | blk (id:Nat) (a:aj)
 | loop (a:aj)
 | exit (id:Nat)
 | ret
structure St where
 env:List (Nat×AV)
 rows:List (Nat×Row)
def St.get (σ:St) (k:Nat):AV:=(aq k σ.env).getD .top
def St.row (σ:St) (r:Nat):Option Row:=aq r σ.rows
def St.gx (σ:St):X→AV
 | .t n=>σ.get n
 | .c a=>a
def aN (l:List (Nat×Row)) (rows:List (Nat×Row)):List (Nat×Row):=l.foldl (fun rs p=>put p.1 p.2 rs) rows
def St.app (σ:St) (d:Option Nat) (v:AV) (u:List (Nat×Row)):St :=
 { env:=match d with | some d=>put d v σ.env | none=>σ.env,rows:=aN u σ.rows }
def St.know (σ:St) (s:Nat) (b:Bool):St:={ σ with env:=put s (.b b) σ.env }
def I64 (n:Int):Prop:=-9223372036854775808≤n∧n≤9223372036854775807
def fill (cs:List AV) (off:Nat) (v:AV):List AV:=cs.take off++v.cells++cs.drop (off+v.cells.length)
def jQ:List AV→List (Nat×AV)→List AV
 | cs,[]=>cs
 | cs,(off,v)::l=>jQ (fill cs off v) l
def dH (x:AV) (off n:Nat) (ag:Bool):Option AV :=
 if ag then (if x.isAgg=true∧off+n≤x.width then some (if off=0∧n=x.width then .agg x.cells else .agg ((x.cells.drop off).take n)) else none)
 else x.cells[off]?
def setPart (x:AV) (off:Nat) (v:AV):Option AV :=
 if x.isAgg=true then
  (if v.isAgg = true then (if off = 0 ∧ v.width = x.width then some v else if off + v.width ≤ x.width then some (.agg (fill x.cells off v)) else none)
   else if off+1≤x.width then some (.agg (fill x.cells off v)) else none)
 else if off=0∧v.isAgg=false∧x.width=1 then some v else none
def bits (op:BinOp) (k:IntKind) (x y:Int):Int :=
 let a:=BitVec.ofInt k.bits x
 let b:=BitVec.ofInt k.bits y
 k.wrap (match op with | .and=>(a &&& b).toNat | .or=>(a ||| b).toNat | .xor=>(a ^^^ b).toNat | _=>(a &&& ~~~b).toNat)
def ofI (k:IntKind) (n:Int) (K:AV→Prop):Prop:=K (.sc (.int k (k.wrap n)))
def cQ (op:BinOp) (k:IntKind) (a b:Int) (K:AV→Prop):Prop :=
 match op with
 | .add=>ofI k (a+b) K
 | .sub=>ofI k (a - b) K
 | .mul=>ofI k (a * b) K
 | .quo=>b ≠ 0∧ofI k (a.tdiv b) K
 | .rem=>b ≠ 0∧K (.sc (.int k (a.tmod b)))
 | .and=>K (.sc (.int k (bits .and k a b)))
 | .or=>K (.sc (.int k (bits .or k a b)))
 | .xor=>K (.sc (.int k (bits .xor k a b)))
 | .andNot=>K (.sc (.int k (bits .andNot k a b)))
 | .eql=>K (.b (a==b))
 | .neq=>K (.b (a != b))
 | .lss=>K (.b (decide (a < b)))
 | .leq=>K (.b (decide (a≤b)))
 | .gtr=>K (.b (decide (a > b)))
 | .geq=>K (.b (decide (a ≥ b)))
 | _=>False
def dr (op:BinOp) (k:IntKind) (a y:Int) (K:AV→Prop):Prop :=
 0≤y∧match op with
 | .shl=>ofI k (a * 2 ^ (min y.toNat k.bits)) K
 | .shr=>K (.sc (.int k (a.fdiv (2 ^ (min y.toNat k.bits)))))
 | _=>False
def cx (op:BinOp) (x y:AV) (K:AV→Prop):Prop :=
 match x,y with
 | .sc (.int k a), .sc (.int k' b) =>
   match op with
   | .shl=>dr .shl k a b K
   | .shr=>dr .shr k a b K
   | op=>k=k'∧cQ op k a b K
 | .sc (.string a), .sc (.string b) =>
   match op with
   | .add=>a.size+b.size≤9223372036854775807∧K (.z (a++b))
   | .eql=>K (.b (a.toList==b.toList))
   | .neq=>K (.b (!(a.toList==b.toList)))
   | _=>False
 | _,_=>False
def unV (op:UnOp) (x:AV) (K:AV→Prop):Prop :=
 match op,x with
 | .neg,.sc (.int k n)=>ofI k (0 - n) K
 | .not,.sc (.bool b)=>K (.b (!b))
 | _,_=>False
def cv (rs:List Nat):List (Nat×Row):=rs.map fun r=>(r,.dead)
def kW (n:Nat) (o:Option Row) (i k:Nat):Option (List AV):=match o with
 | some (.arr w es)=>if w=n then some (ct (sub es i k)) else none
 | _=>none
def cY (n:Nat) (ρ:Nat→Option Row):AV→Option (List AV)
 | .lst _ w xs=>if w=n then some xs else none
 | .tg _ w xs=>if w=n then some xs else none
 | .sl r i k=>kW n (ρ r) i k
 | _=>none
def sr (n r m:Nat) (o:Option Row):Option (List AV×List (Nat×Row)):=match o with
 | some (.arr w ys)=>if w=n∧m=ys.length then some (ys,[(r,.dead)]) else none
 | _=>none
def jS (o:Option (List AV)):Option (List AV×List (Nat×Row)):=match o with
 | some ys=>some (ys,[])
 | none=>none
def kS (ρ:Nat→Option Row) (n:Nat) (mv:Bool) (y:AV):Option (List AV×List (Nat×Row)):=match mv,y with
 | true,.sl r 0 m=>sr n r m (ρ r)
 | _,y=>jS (cY n ρ y)
def bOk (o:Option AV):Prop:=match o with
 | none=>True
 | some (.sc (.int _ n))=>0≤n
 | _=>False
def bV (o:Option AV) (dflt:Nat):Nat:=match o with
 | some (.sc (.int _ n))=>n.toNat
 | _=>dflt
def u8s:List AV→Option (List Int)
 | []=>some []
 | .sc (.int .u8 n) :: xs => match u8s xs with
   | some ns=>some (n::ns)
   | none=>none
 | _=>none
def b2s (ns:List Int):ByteArray:=ns.foldl (fun r n=>r.push (UInt8.ofNat n.toNat)) ByteArray.empty
def opt {α:Type} (o:Option α) (K:α→Prop):Prop:=match o with
 | some v=>K v
 | none=>False
section
variable (K:AV→List (Nat×Row)→Prop)
def k1 (v:AV):Prop:=K v []
def jM (c a b:AV):Prop:=match c with
 | .sc (.bool t)=>(t=true→K a [])∧(t=false→K b [])
 | _=>False
def Ev (off n:Nat) (ag:Bool) (y:AV):Prop:=opt (dH y.als off n ag) (k1 K)
def eN (o:Option Row) (i off n:Nat) (ag:Bool):Prop:=match o with
 | some (.var y)=>i=0∧opt (dH y off n ag) (k1 K)
 | some (.arr _ es)=>opt es[i]? (Ev K off n ag)
 | _=>False
def ef (ρ:Nat→Option Row) (n:Nat) (ag:Bool) (x:AV):Prop:=match x with
 | .bp _ y off=>opt (dH y off n ag) (k1 K)
 | .pt r i off=>eN K (ρ r) i off n ag
 | _=>False
def Et (r:Nat) (y:AV):Prop:=K .top [(r,.var y)]
def vL (u:List (Nat×Row)) (r w i:Nat) (es:List AV) (y:AV):Prop:=K .top (u++[(r,.arr w (es.set i y))])
def oE (ρ:Nat→Option Row) (r w i off:Nat) (es:List AV) (v y:AV):Prop :=
 r ∉ v.ments∧v.ments.Nodup∧(lift ρ 2 v).width=v.width∧opt (setPart y off (lift ρ 2 v)) (vL K (cv v.ments) r w i es)
def cX (ρ:Nat→Option Row) (o:Option Row) (r i off:Nat) (v:AV):Prop:=match o with
 | some (.var y)=>i=0∧opt (setPart y off v) (Et K r)
 | some (.arr w es)=>opt es[i]? (oE K ρ r w i off es v)
 | _=>False
def cK (ρ:Nat→Option Row) (n:Nat) (x v:AV):Prop:=match x with
 | .pt r i off=>v.width=n∧cX K ρ (ρ r) r i off v
 | _=>False
def iPt (av:List Nat):AV→Prop
 | .sl r _ _=>r ∉ av
 | .lst _ _ _=>True
 | _=>False
def vP:Option Row→Prop
 | some (.var _)=>True
 | _=>False
def wh:Option Row→Prop
 | some (.arr _ _)=>True
 | _=>False
def vPt (av:List Nat) (ρ:Nat→Option Row):AV→Prop
 | .pt r _ _=>r ∉ av∧vP (ρ r)
 | .bp _ _ _=>True
 | _=>False
def aPt (ρ:Nat→Option Row):AV→Prop
 | .pt r _ _=>wh (ρ r)
 | _=>False
def aPb (ρ:Nat→Option Row):AV→Prop
 | .pt r _ _=>wh (ρ r)
 | .bp _ _ _=>True
 | _=>False
def wPt (r:Nat) (ρ:Nat→Option Row):AV→Prop
 | .pt q _ _=>q=r∧vP (ρ q)
 | _=>False
def vPv (ρ:Nat→Option Row):AV→Prop
 | .pt r _ _=>vP (ρ r)
 | _=>False
def sD (neg:Bool) (x y:AV):Prop:=match x,y with
 | .sc (.bool a),.sc (.bool b)=>K (.sc (.bool (if neg then !(a==b) else (a==b)))) []
 | _,_=>False
def Bh (neg:Bool) (x y:AV):Prop:=match x,y with
 | .agg [.sc (.int .i64 a),.sc (.int .i64 b)],.agg [.sc (.int .i64 c),.sc (.int .i64 e)]=>K (.sc (.bool (if neg then !(a==c&&b==e) else (a==c&&b==e)))) []
 | _,_=>False
def mV (k:IntKind) (x:AV):Prop:=match x with
 | .sc (.int _ n)=>K (.sc (.int k (k.wrap n))) []
 | _=>False
def sn (o:Option Row) (d n:Nat) (z:AV) (bytes:Nat) (l c:AV):Prop:=match l,c with
 | .sc (.int .i64 l),.sc (.int .i64 c)=>o=none∧z.width=n∧0≤l∧l≤c∧c * bytes≤140737488355328∧c≤9223372036854775807∧K (.sl d 0 l.toNat) [(d,.arr n (List.replicate l.toNat z))]
 | _,_=>False
def nw (ρ:Nat→Option Row) (n:Nat) (x:AV) (lo hi mx:Option AV):Prop:=match x with
 | .lst f w xs=>w=n∧bOk lo∧bOk hi∧bV lo 0≤bV hi xs.length∧bV hi xs.length≤xs.length ∧
  match mx with
  | none=>K (.lst f n (sub xs (bV lo 0) (bV hi xs.length - bV lo 0))) []
  | some m=>hi.isSome∧bOk (some m)∧bV (some m) 0=bV hi xs.length∧K (.tg f n (sub xs (bV lo 0) (bV hi xs.length - bV lo 0))) []
 | .sl r i m=>(∃ es,ρ r=some (.arr n es))∧bOk lo∧bOk hi∧bV lo 0≤bV hi m∧bV hi m≤m∧mx=none∧K (.sl r (i+bV lo 0) (bV hi m - bV lo 0)) []
 | _=>False
def Hv (x:AV) (lo hi:Option AV):Prop:=match x with
 | .sc (.string s)=>bOk lo∧bOk hi∧bV lo 0≤bV hi s.size∧bV hi s.size≤s.size∧K (.sc (.string (s.extract (bV lo 0) (bV hi s.size)))) []
 | _=>False
def kj (ρ:Nat→Option Row) (off:Nat) (x:AV):Prop:=match x with
 | .bp f y o=>K (.bp f y (o+off)) []
 | .pt r i o=>cd (ρ r)∧K (.pt r i (o+off)) []
 | _=>False
def PU (f:Fl) (y:AV):Prop:=K (.bp f y 0) []
def iU (ρ:Nat→Option Row) (n:Nat) (x i:AV):Prop:=match x,i with
 | .lst f w xs,.sc (.int _ j)=>w=n∧0≤j∧opt xs[j.toNat]? (PU K f.als)
 | .sl r a m,.sc (.int _ j)=>(∃ es,ρ r=some (.arr n es))∧0≤j∧j < m∧K (.pt r (a+j.toNat) 0) []
 | _,_=>False
def Bm (off n:Nat) (ag:Bool) (x:AV):Prop:=x.isAgg=true∧opt (dH x off n ag) (k1 K)
def QW (c:UInt8):Prop:=K (.sc (.int .u8 c.toNat)) []
def oH (x i:AV):Prop:=match x,i with
 | .sc (.string s),.sc (.int _ j)=>0≤j∧opt s[j.toNat]? (QW K)
 | _,_=>False
def xo (x:AV) (j:Nat):Prop:=match x with
 | .tup vs=>opt vs[j]? (k1 K)
 | _=>False
def jK (ρ:Nat→Option Row) (x:AV):Prop:=match x with
 | .lst _ _ xs=>K (.i xs.length) []
 | .tg _ _ xs=>K (.i xs.length) []
 | .sl r _ n=>(∃ w es,ρ r=some (.arr w es))∧K (.i n) []
 | _=>False
def oi (x:AV):Prop:=match x with
 | .lst .u _ []=>K (.i 0) []
 | _=>False
def wZ (n:Nat) (x hi:AV):Prop:=match x,hi with
 | .lst .u w [],.sc (.int _ h)=>w=n∧h=0∧K (.lst .u n []) []
 | _,_=>False
def nj (x:AV):Prop:=match x with
 | .sc (.string s)=>K (.i s.size) []
 | _=>False
def HC (ns:List Int):Prop:=K (.sc (.string (b2s ns))) []
def yd (o:Option Row) (i m:Nat):Prop:=match o with
 | some (.arr w es)=>w=1∧opt (u8s (sub es i m)) (HC K)
 | _=>False
def Ih (ρ:Nat→Option Row) (x:AV):Prop:=match x with
 | .lst _ w xs=>w=1∧opt (u8s xs) (HC K)
 | .sl r i m=>yd K (ρ r) i m
 | _=>False
def ui (o:Option Row) (r n:Nat) (z:AV) (i m:Nat):Prop:=match o with
 | some (.arr w es)=>w=n∧z.width=n∧K (.tup []) [(r,.arr w (cG es i (List.replicate m z)))]
 | _=>False
def CD (ρ:Nat→Option Row) (n:Nat) (z x:AV):Prop:=match x with
 | .sl r i m=>ui K (ρ r) r n z i m
 | _=>False
def tp (o:Option Row) (r n i m:Nat) (ys:List AV):Prop:=match o with
 | some (.arr w es)=>w=n∧K (.i (min ys.length m:Nat)) [(r,.arr w (cG es i (ys.take (min ys.length m))))]
 | _=>False
def zu (ρ:Nat→Option Row) (n:Nat) (x y:AV):Prop:=match x with
 | .sl r i m=>opt (cY n ρ y) (tp K (ρ r) r n i m)
 | _=>False
def pk (neg e:Bool):Prop:=K (cond e .ub (.b neg)) []
def tV (ρ:Nat→Option Row) (neg:Bool) (x:AV):Prop:=match x with
 | .lst _ _ xs=>pk K neg xs.isEmpty
 | .tg _ _ xs=>pk K neg xs.isEmpty
 | .sl r _ n=>(∃ w es,ρ r=some (.arr w es))∧pk K neg (n==0)
 | _=>False
def Ly (o:Option Row) (r n i m:Nat) (ys:List AV):Prop:=match o with
 | some (.arr w es)=>w=n∧i+m+ys.length≤es.length∧K (.sl r i (m+ys.length)) [(r,.arr w (cG es (i+m) ys))]
 | _=>False
def Lc (ρ:Nat→Option Row) (n:Nat) (x y:AV):Prop:=match x with
 | .sl r i m=>opt (cY n ρ y) (Ly K (ρ r) r n i m)
 | _=>False
def tQ (o:Option Row) (r n i m:Nat) (lo hi:Option AV):Prop:=match o with
 | some (.arr w es)=>w=n∧bOk lo∧bOk hi∧bV lo 0≤bV hi m∧i+bV hi m≤es.length∧K (.sl r (i+bV lo 0) (bV hi m - bV lo 0)) []
 | _=>False
def zT (ρ:Nat→Option Row) (n:Nat) (x:AV) (lo hi:Option AV):Prop:=match x with
 | .sl r i m=>tQ K (ρ r) r n i m lo hi
 | _=>False
def yu (o:Option Row) (n m:Nat) (lo hi mx:AV):Prop:=match o,lo,hi,mx with
 | some (.arr w _),.sc (.int _ l),.sc (.int _ h),.sc (.int _ q)=>w=n∧0≤l∧l≤h∧h≤q∧q≤(m:Int)∧K .top []
 | _,_,_,_=>False
def My (ρ:Nat→Option Row) (n:Nat) (x lo hi mx:AV):Prop:=match x with
 | .sl r _ m=>yu K (ρ r) n m lo hi mx
 | _=>False
def nK (o:Option Row) (d n bytes r i m:Nat) (p:List AV×List (Nat×Row)):Prop:=match o with
 | some (.arr w es)=>w=n∧r ∉ p.2.map (·.1)∧(m+p.1.length) * bytes≤140737488355328∧K (.sl d 0 (m+p.1.length)) ((r,.dead)::p.2++[(d,.arr n (sub es i m++p.1))])
 | _=>False
def tE (d n bytes w:Nat) (es:List AV) (p:List AV×List (Nat×Row)):Prop :=
 w=n∧0 < p.1.length∧(es.length+p.1.length) * bytes≤140737488355328∧K (.sl d 0 (es.length+p.1.length)) (p.2++[(d,.arr n (ct es++p.1))])
def rj (ρ:Nat→Option Row) (d n bytes:Nat) (mv:Bool) (x y:AV):Prop:=match x with
 | .sl r i m=>ρ d=none∧opt (kS ρ n mv y) (nK K (ρ r) d n bytes r i m)
 | .tg _ w es=>ρ d=none∧opt (kS ρ n mv y) (tE K d n bytes w es)
 | _=>False
def BH (o:Option Row) (d n:Nat) (z:AV) (bytes:Nat) (x l:AV):Prop:=match x,l with
 | .lst .u w [],.sc (.int .i64 l)=>o=none∧w=n∧z.width=n∧n=1∧0 < l∧l * bytes≤140737488355328∧K (.sl d 0 l.toNat) [(d,.arr n (List.replicate l.toNat z))]
 | _,_=>False
def qN (ρ:Nat→Option Row) (x:AV):Prop:=match x with
 | .bp f y o=>K (.bp f y o) []
 | .pt r i o=>cd (ρ r)∧K (.pt r i o) []
 | _=>False
def eMn (x y:AV):Prop:=match x,y with
 | .sc (.int k a),.sc (.int k' b)=>k=k'∧K (.sc (.int k (if b < a then b else a))) []
 | _,_=>False
def eMx (x y:AV):Prop:=match x,y with
 | .sc (.int k a),.sc (.int k' b)=>k=k'∧K (.sc (.int k (if a < b then b else a))) []
 | _,_=>False
end
structure Oks where
 p:Nat→List AV→AV→Prop
 m:Nat→List AV→List (Nat×Row)→AV→List (Nat×Row)→Prop
 h:Nat→List AV→List (Nat×Row)→AV→List (Nat×Row)→Prop
mutual
def AV.rg (h:Nat→Nat):AV→AV
 | .sl q i n=>.sl (h q) i n
 | .pt q i o=>.pt (h q) i o
 | .agg cs=>.agg (rgL h cs)
 | .fn f cs=>.fn f (rgL h cs)
 | .tup cs=>.tup (rgL h cs)
 | x=>x
def rgL (h:Nat→Nat):List AV→List AV
 | []=>[]
 | c::cs=>c.rg h::rgL h cs
end
def Row.rg (h:Nat→Nat):Row→Row
 | .var x=>.var (x.rg h)
 | x=>x
def pos (r:Nat):List Nat→Nat
 | []=>0
 | x::xs=>if x=r then 0 else pos r xs+1
def cnm (rs:List Nat) (r:Nat):Nat:=1000000000+pos r rs
def bkn (d:Nat) (rs:List Nat) (q:Nat):Nat:=if 1000000000≤q then rs.getD (q - 1000000000) 0 else q+100000 * (d+1)
def gP (ρ:Nat→Option Row) (rs:List Nat) (r:Nat):Nat×Row:=(cnm rs r,((ρ r).getD .dead).rg (cnm rs))
def cB (d:Nat) (rs:List Nat) (p:Nat×Row):Nat×Row:=(bkn d rs p.1,p.2.rg (bkn d rs))
def nb:Option Row→List Nat
 | some (.var x)=>x.ments
 | _=>[]
section
variable (ok:Oks)
def callM (ρ:Nat→Option Row) (d f:Nat) (args:List AV) (rs:List Nat) (K:AV→List (Nat×Row)→Prop):Prop :=
 ∃ res outs, ok.m f (args.map (AV.rg (cnm rs))) (rs.map (gP ρ rs)) res outs ∧
   (rs.Nodup∧(∀ r∈rs,cd (ρ r))∧(∀ r∈rs,∀ q∈nb (ρ r),q∈rs)∧(∀ r∈aD args,r∈rs)) ∧
   ((outs.map fun p => bkn d rs p.1).Nodup ∧ (∀ p ∈ outs, 1000000000 ≤ p.1 → p.1 - 1000000000 < rs.length) ∧
     (∀ p∈outs,p.1 < 1000000000→ρ (bkn d rs p.1)=none∧bkn d rs p.1 < 1000000000)) ∧
   K (res.rg (bkn d rs)) (cv rs++outs.map (cB d rs))
def oQ (ρ:Nat→Option Row) (d:Nat) (x:AV) (xs:List AV) (rs:List Nat) (K:AV→List (Nat×Row)→Prop):Prop:=match x with
 | .fn f cs=>callM ok ρ d f (xs++cs) rs K
 | _=>False
def gl (ρ:Nat→Option Row) (d f:Nat) (args:List AV) (K:AV→List (Nat×Row)→Prop):Prop :=
 ∃ res, ok.p f (args.map (snp ρ 4)) res ∧ (res.allU ∨ aD args = [] ∧ (res.ou ∨ res.noU)) ∧ (∀ p ∈ (adopt 4 d res).2.1, ρ p.1 = none ∧ p.1 < 1000000000) ∧
   K (adopt 4 d res).1 (adopt 4 d res).2.1
def BZ (ρ:Nat→Option Row) (d:Nat) (x:AV) (xs:List AV) (K:AV→List (Nat×Row)→Prop):Prop:=match x with
 | .fn f cs=>gl ok ρ d f (xs++cs) K
 | _=>False
def eff (g:X→AV) (ρ:Nat→Option Row) (d:Nat):AOp→(AV→List (Nat×Row)→Prop)→Prop
 | .mv x,K=>K (g x) []
 | .pick c a b,K=>jM K (g c) (g a) (g b)
 | .alloc z,K=>ρ d=none∧K (.pt d 0 0) [(d,.var z)]
 | .box n x,K=>ρ d=none∧(g x).width=n∧K (.pt d 0 0) [(d,.var (g x))]
 | .build z ps,K=>(∀ p∈ps,(g p.2.2).width=p.2.1∧p.1+p.2.1≤z.length)∧K (.agg (jQ z (ps.map fun p=>(p.1,g p.2.2)))) []
 | .bsl n fr ps,K=>(fr=true→aD (ps.map g)=[])∧ρ d=none∧(∀ p∈ps,(g p).width=n)∧(aD (ps.map g)).Nodup ∧
  K (.sl d 0 ps.length) (cv (aD (ps.map g))++[(d,.arr n ((ps.map g).map (lift ρ 2)))])
 | .load n ag x,K=>ef K ρ n ag (g x)
 | .store n x v,K=>cK K ρ n (g x) (g v)
 | .bin op x y,K=>cx op (g x) (g y) (k1 K)
 | .beq neg x y,K=>sD K neg (g x) (g y)
 | .un op x,K=>unV op (g x) (k1 K)
 | .conv k x,K=>mV K k (g x)
 | .mkf f cs,K=>K (.fn f (cs.map g)) []
 | .mks n z bytes l c,K=>sn K (ρ d) d n z bytes (g l) (g c)
 | .slc n x lo hi mx,K=>nw K ρ n (g x) (lo.map g) (hi.map g) (mx.map g)
 | .slz x lo hi,K=>Hv K (g x) (lo.map g) (hi.map g)
 | .fad off x,K=>kj K ρ off (g x)
 | .idx n x i,K=>iU K ρ n (g x) (g i)
 | .idv av n x i,K=>iPt av (g x)∧iU K ρ n (g x) (g i)
 | .lnv av x,K=>iPt av (g x)∧jK K ρ (g x)
 | .stw r n x v,K=>wPt r ρ (g x)∧cK K ρ n (g x) (g v)
 | .fld off n ag x,K=>Bm K off n ag (g x)
 | .stri x i,K=>oH K (g x) (g i)
 | .ext x j,K=>xo K (g x) j
 | .call f xs,K=>gl ok ρ d f (xs.map g) K
 | .dyn x xs,K=>BZ ok ρ d (g x) (xs.map g) K
 | .callM f xs rs,K=>callM ok ρ d f (xs.map g) rs K
 | .dynM x xs rs,K=>oQ ok ρ d (g x) (xs.map g) rs K
 | .len x,K=>jK K ρ (g x)
 | .lenz x,K=>nj K (g x)
 | .capn x,K=>oi K (g x)
 | .slg n x hi,K=>wZ K n (g x) (g hi)
 | .apz n z bytes x l,K=>BH K (ρ d) d n z bytes (g x) (g l)
 | .b2s x,K=>Ih K ρ (g x)
 | .isn neg x,K=>tV K ρ neg (g x)
 | .aeq neg x y,K=>Bh K neg (g x) (g y)
 | .apq n x y,K=>Lc K ρ n (g x) (g y)
 | .slx n x lo hi,K=>zT K ρ n (g x) (lo.map g) (hi.map g)
 | .slm n x lo hi mx,K=>My K ρ n (g x) (g lo) (g hi) (g mx)
 | .clr n z x,K=>CD K ρ n z (g x)
 | .cpy n x y,K=>zu K ρ n (g x) (g y)
 | .ldv av n ag x,K=>vPt av ρ (g x)∧ef K ρ n ag (g x)
 | .str n x v,K=>aPt ρ (g x)∧(g v).ments=[]∧cK K ρ n (g x) (g v)
 | .lda n ag x,K=>aPb ρ (g x)∧ef K ρ n ag (g x)
 | .stv n x v,K=>vPv ρ (g x)∧cK K ρ n (g x) (g v)
 | .fdv av off x,K=>vPt av ρ (g x)∧kj K ρ off (g x)
 | .bsm n ps,K=>(∀ r∈aD (ps.map g),wh (ρ r))∧ρ d=none∧(∀ p∈ps,(g p).width=n)∧(aD (ps.map g)).Nodup ∧
  K (.sl d 0 ps.length) (cv (aD (ps.map g))++[(d,.arr n ((ps.map g).map (lift ρ 2)))])
 | .app n bytes mv x y,K=>rj K ρ d n bytes mv (g x) (g y)
 | .nilc x,K=>qN K ρ (g x)
 | .mn x y,K=>eMn K (g x) (g y)
 | .mx x y,K=>eMx K (g x) (g y)
 | .bad,_=>False
def dC (σ:St) (s:Nat) (w:Bool) (x:AV) (A B:St→Prop):Prop:=match x with
 | .sc (.bool t)=>(t=w→A (σ.know s w))∧(t=!w→B (σ.know s (!w)))
 | .tup []=>B σ
 | _=>False
def KJ (d:Option Nat) (R:St→Prop) (σ:St) (v:AV) (u:List (Nat×Row)):Prop:=R (σ.app d v u)
def wg (d:Option Nat) (o:AOp) (R:St→Prop) (σ:St):Prop:=eff ok σ.gx σ.row (d.getD 0) o (KJ d R σ)
def IU (d:Option Nat) (R:St→Prop) (σ:St):Prop:=R (σ.app d (.tup []) [])
def Rc (o:aM) (σ:St) (R:St→Prop):Prop :=
 match o.gd with
 | none=>wg ok o.d o.op R σ
 | some (s,w)=>dC σ s w (σ.get s) (wg ok o.d o.op R) (IU o.d R)
def cI:List aM→(St→Prop)→St→Prop
 | [],K,σ=>K σ
 | o::os,K,σ=>Rc ok o σ (cI os K)
mutual
def AV.fz:AV→Bool
 | .sc _=>true
 | .lst f _ xs=>(match f with | .o=>fzL xs | _=>false)
 | .agg cs=>fzL cs
 | .tup cs=>fzL cs
 | .fn _ cs=>fzL cs
 | .bp f x _=>(match f with | .o=>x.fz | _=>false)
 | .sl _ _ _=>true
 | .pt _ _ _=>true
 | .top=>true
 | .ub=>true
 | _=>false
def fzL:List AV→Bool
 | []=>true
 | c::cs=>c.fz&&fzL cs
end
mutual
def AV.ouB:AV→Bool
 | .sc _=>true
 | .lst f _ xs=>(match f with | .o=>fzL xs | .u=>db xs | _=>false)
 | .agg cs=>db cs
 | .top=>true
 | _=>false
def db:List AV→Bool
 | []=>true
 | c::cs=>c.ouB&&db cs
end
def Row.fz:Row→Bool
 | .var x=>x.fz
 | .arr _ es=>db es
 | .dead=>true
def St.fz (σ:St):Bool:=σ.env.all (fun p=>p.2.fz)&&σ.rows.all (fun p=>p.2.fz)
def oq:List (Nat×X)→St→St
 | [],σ=>σ
 | (d,x)::ms,σ=>oq ms (σ.app (some d) (σ.gx x) [])
def rH (τ:St) (t len:Nat):X→AV
 | .t j=>if j=t then .sl 1000000000 0 len else τ.get j
 | .c a=>a
def vy (τ:St) (t:Nat):X→Prop
 | .t j=>j=t∨(τ.get j).ments=[]
 | .c a=>a.ments=[]
def innC (K:St→Prop) (τ:St) (t n k d f:Nat) (xs:List X) (r i off:Nat) (es:List AV) (y:AV) (ys:List AV):Prop :=
 ys.all AV.flat=true∧τ.fz=true∧(∀ x∈xs,vy τ t x) ∧
 ∃ v ys', ok.m f (xs.map (rH τ t ys.length)) [(1000000000, .arr k ys)] (.sc v) [(1000000000, .arr k ys')] ∧ ys'.all AV.flat = true ∧
   opt (setPart y off (.lst .u k ys')) fun z=>K (τ.app (some d) (.sc v) [(r,.arr n (es.set i z))])
def Ds (K:St→Prop) (τ:St) (t n k d f:Nat) (xs:List X) (r i off:Nat) (es:List AV) (y:AV):AV→Prop
 | .lst .u w ys=>w=k∧innC ok K τ t n k d f xs r i off es y ys
 | _=>False
def FK (K:St→Prop) (τ:St) (t n k d f:Nat) (xs:List X) (r i off:Nat):Option Row→Prop
 | some (.arr w es)=>w=n∧opt es[i]? fun y=>opt (dH y off 1 false) (Ds ok K τ t n k d f xs r i off es y)
 | _=>False
def FA (K:St→Prop) (σ τ:St) (t n k d f:Nat) (xs:List X):AV→Prop
 | .pt r i off=>FK ok K τ t n k d f xs r i off (σ.row r)
 | _=>False
def QA (d:Nat) (K:St→Prop) (σ:St) (v:AV) (u:List (Nat×Row)):Prop:=K (σ.app (some d) v u)
def stH (h:HOp) (K:St→Prop) (σ:St):Prop:=match h with
 | .inn t n k x mids d f xs=>FA ok K σ (oq mids (σ.app (some t) .top [])) t n k d f xs (σ.gx x)
 | .har d f xs rs=>σ.fz=true∧callM ⟨ok.p,ok.h,ok.h⟩ σ.row d f (xs.map σ.gx) rs (QA d K σ)
def AV.hush (r:Nat) (a:AV):AV:=if r∈a.ments then .top else a
mutual
def AV.ren (r d:Nat):AV→AV
 | .sl q i n=>.sl (if q=r then d else q) i n
 | .pt q i o=>.pt (if q=r then d else q) i o
 | .agg cs=>.agg (gt r d cs)
 | .fn f cs=>.fn f (gt r d cs)
 | .tup cs=>.tup (gt r d cs)
 | x=>x
def gt (r d:Nat):List AV→List AV
 | []=>[]
 | c::cs=>c.ren r d::gt r d cs
end
def Row.map (h:AV→AV):Row→Row
 | .var x=>.var (h x)
 | x=>x
def Row.hush (r:Nat):Row→Row
 | .var x=>if r∈x.ments then .dead else .var x
 | x=>x
def del {α:Type} (k:Nat):List (Nat×α)→List (Nat×α)
 | []=>[]
 | (j,x)::l=>if j=k then del k l else (j,x)::del k l
def St.canSl (σ : St) (d r i n : Nat) : St :=
    if r=d∨1000000000≤r then σ
    else
     { env:=put d (.sl d i n) ((σ.env.map fun p=>(p.1,p.2.hush d)).map fun p=>(p.1,p.2.ren r d)),
       rows:=((del d σ.rows).map fun p=>(p.1,p.2.hush d)).map fun p=>(if p.1=r then d else p.1,p.2.map (·.ren r d)) }
def St.canSr (σ : St) (d r i n : Nat) : St :=
    if r=d then σ
    else
     { env:=put d (.sl d i n) ((σ.env.map fun p=>(p.1,p.2.hush d)).map fun p=>(p.1,p.2.ren r d)),
       rows:=((del d σ.rows).map fun p=>(p.1,p.2.hush d)).map fun p=>(if p.1=r then d else p.1,p.2.map (·.ren r d)) }
def St.canNil (σ : St) (d n : Nat) : St :=
    { env:=put d (.sl d 0 0) (σ.env.map fun p=>(p.1,p.2.hush d)),
      rows:=put d (.arr n []) ((del d σ.rows).map fun p=>(p.1,p.2.hush d)) }
def St.canV (σ:St) (d:Nat) (x:AV):St:=match x with
 | .sl r i n=>σ.canSl d r i n
 | .lst .u n []=>σ.canNil d n
 | _=>σ
def St.canW (σ:St) (d:Nat) (x:AV):St:=match x with
 | .sl r i n=>σ.canSr d r i n
 | .lst .u n []=>σ.canNil d n
 | _=>σ
def St.canZr (σ:St) (d i m:Nat) (r:Nat):Option Row→St
 | some (.arr q es)=>⟨put d (.lst .m q (ct (sub es i m))) σ.env,put r .dead σ.rows⟩
 | _=>σ
def gJ:List AV→Nat→AV→List AV
 | [],_,_=>[]
 | _::xs,0,y=>y::xs
 | x::xs,j+1,y=>x::gJ xs j y
def St.canZcr (σ:St) (d:Nat) (all:List AV) (j r i m:Nat):Option Row→St
 | some (.arr q es)=>⟨put d (.agg (gJ all j (.lst .m q (ct (sub es i m))))) σ.env,put r .dead σ.rows⟩
 | _=>σ
def St.canZc (σ:St) (d:Nat) (all:List AV):Nat→List AV→St
 | _,[]=>σ
 | j,.sl r i m::_=>σ.canZcr d all j r i m (aq r σ.rows)
 | j,_::cs=>σ.canZc d all (j+1) cs
def St.canZ (σ:St) (d:Nat) (x:AV):St:=match x with
 | .sl r i m=>σ.canZr d i m r (aq r σ.rows)
 | .agg cs=>σ.canZc d cs 0 cs
 | _=>σ
def pf:List AV→Nat→AV
 | [],_=>.top
 | x::_,0=>x
 | _::xs,j+1=>pf xs j
def fP (j:Nat):Option Row→AV
 | some (.var (.agg cs))=>pf cs j
 | some (.var (.sl q i m))=>if j=0 then .sl q i m else .top
 | some (.var (.lst f m xs))=>if j=0 then .lst f m xs else .top
 | _=>.top
def St.canFN (σ:St) (d r j m:Nat):Option Row→St
 | some (.var (.agg cs))=>⟨σ.env.map fun p=>(p.1,p.2.hush d),put d (.arr m []) (put r (.var (.agg (gJ cs j (.sl d 0 0)))) ((del d σ.rows).map fun p=>(p.1,p.2.hush d)))⟩
 | some (.var (.lst .u _ []))=>⟨σ.env.map fun p=>(p.1,p.2.hush d),put d (.arr m []) (put r (.var (.sl d 0 0)) ((del d σ.rows).map fun p=>(p.1,p.2.hush d)))⟩
 | _=>σ
def St.canG (σ:St) (far:Bool) (d r j:Nat):AV→St
 | .sl q _ _=>if q=d∨far=false∧1000000000≤q then σ else
  ⟨(σ.env.map fun p=>(p.1,p.2.hush d)).map fun p=>(p.1,p.2.ren q d),((del d σ.rows).map fun p=>(p.1,p.2.hush d)).map fun p=>(if p.1=q then d else p.1,p.2.map (·.ren q d))⟩
 | .lst .u m []=>σ.canFN d r j m (aq r ((del d σ.rows).map fun p=>(p.1,p.2.hush d)))
 | _=>σ
def St.canEN (σ:St) (d k j m:Nat):Option AV→St
 | some (.agg cs)=>⟨put k (.agg (gJ cs j (.sl d 0 0))) (σ.env.map fun p=>(p.1,p.2.hush d)),put d (.arr m []) ((del d σ.rows).map fun p=>(p.1,p.2.hush d))⟩
 | _=>σ
def St.canE (σ:St) (far:Bool) (d k j:Nat):AV→St
 | .sl q _ _=>if q=d∨far=false∧1000000000≤q then σ else
  ⟨(σ.env.map fun p=>(p.1,p.2.hush d)).map fun p=>(p.1,p.2.ren q d),((del d σ.rows).map fun p=>(p.1,p.2.hush d)).map fun p=>(if p.1=q then d else p.1,p.2.map (·.ren q d))⟩
 | .lst .u m []=>σ.canEN d k j m (aq k (σ.env.map fun p=>(p.1,p.2.hush d)))
 | _=>σ
def St.canXcr (σ:St) (r:Nat) (all:List AV) (j q i m:Nat):Option Row→St
 | some (.arr k es)=>⟨σ.env,put r (.var (.agg (gJ all j (.lst .m k (ct (sub es i m)))))) (put q .dead σ.rows)⟩
 | _=>σ
def St.canXc (σ:St) (r:Nat) (all:List AV):Nat→List AV→St
 | _,[]=>σ
 | j,.sl q i m::_=>σ.canXcr r all j q i m (aq q σ.rows)
 | j,_::cs=>σ.canXc r all (j+1) cs
def St.canX (σ:St) (r:Nat):Option Row→St
 | some (.arr n es)=>⟨σ.env,put r (.arr n (ct es)) σ.rows⟩
 | some (.var (.agg cs))=>σ.canXc r cs 0 cs
 | _=>σ
def St.can1 (σ:St):Can→St
 | .s d=>σ.canV d (σ.get d)
 | .f far d r j=>σ.canG far d r j (fP j (aq r σ.rows))
 | .r d=>σ.canW d (σ.get d)
 | .z d=>σ.canZ d (σ.get d)
 | .e far d k j=>σ.canE far d k j (fP j (some (.var (σ.get k))))
 | .w r=>σ.canX r (aq r σ.rows)
def St.can (σ:St):List Can→St
 | []=>σ
 | d::ds=>(σ.can1 d).can ds
def Can.low (n:Nat):Can→Bool
 | .s d=>decide (d < n)
 | .f _ d _ _=>decide (d < 1000000000)&&decide (n≤d)
 | .r d=>decide (d < n)
 | .z d=>decide (d < n)
 | .e _ d k _=>decide (d < 1000000000)&&decide (n≤d)&&decide (k < n)
 | .w _=>true
def St.res (σ:St) (lv lr:List Nat):St :=
 { env:=lv.map fun k=>(k,σ.get k),rows:=lr.map fun r=>(r,(σ.row r).getD .dead) }
def Row.ments:Row→List Nat
 | .var x=>x.ments
 | _=>[]
def St.resOk (σ:St) (lv lr:List Nat):Prop :=
 (∀ k∈lv,∀ r∈(σ.get k).ments,r∈lr)∧(∀ q∈lr,∀ r∈((σ.row q).getD .dead).ments,r∈lr)∧lr.Nodup
inductive Ex where
 | nrm
 | ex (id:Nat)
 | ret
def thn (K:St→Prop) (Q:Ex→St→Prop):Ex→St→Prop
 | .nrm,σ=>K σ
 | e,σ=>Q e σ
def inb (id:Nat) (Q:Ex→St→Prop):Ex→St→Prop
 | .ex j,σ=>if j=id then Q .nrm σ else Q (.ex j) σ
 | e,σ=>Q e σ
def tst (x:AV) (A B:Prop):Prop:=match x with
 | .sc (.bool t)=>(t=true→A)∧(t=false→B)
 | .ub=>A∧B
 | _=>False
def xg (Q:Ex→St→Prop) (can:List Can) (σ:St):Prop:=Q .nrm (σ.can can)
def St.rb (σ:St) (lv:List Nat):St:=⟨lv.map fun k=>(k,snp σ.row 4 (σ.get k)),[]⟩
def AV.scal:AV→AV
 | .sc v=>.sc v
 | _=>.top
def St.scal (σ:St):St:=⟨σ.env.map fun p=>(p.1,p.2.scal),[]⟩
def rbQ (Q:Ex→St→Prop) (e:Ex) (τ:St):Prop:=Q e τ.scal
def AWP:aj→(Ex→St→Prop)→St→Prop
 | .skip,Q,σ=>Q .nrm σ
 | .reg ops can,Q,σ=>cI ok ops (xg Q can) σ
 | .drw ops can,Q,σ=>cI ok ops (xg Q can) σ
 | .regh pre h post can,Q,σ=>cI ok pre (stH ok h (cI ok post (xg Q can))) σ
 | .seq a b,Q,σ=>AWP a (thn (AWP b Q) Q) σ
 | .seqr a lv lr b,Q,σ=>AWP a (thn (fun τ=>τ.resOk lv lr∧AWP b Q (τ.res lv lr)) Q) σ
 | .seqa x a lv lr b,Q,σ=>AWP x (thn (AWP a (thn (fun τ=>τ.resOk lv lr∧AWP b Q (τ.res lv lr)) Q)) Q) σ
 | .seqb a lv b,Q,σ=>AWP a (thn (fun τ=>AWP b (rbQ Q) (τ.rb lv)) Q) σ
 | .cond x a b,Q,σ=>tst (σ.gx x) (AWP a Q σ) (AWP b Q σ)
 | .blk id a,Q,σ=>AWP a (inb id Q) σ
 | .loop a,Q,σ=>∃ (lv lr:List Nat) (I:St→Prop) (μ:St→Nat),σ.resOk lv lr∧I (σ.res lv lr) ∧
  ∀ τ,I τ→AWP a (thn (fun τ'=>τ'.resOk lv lr∧I (τ'.res lv lr)∧μ (τ'.res lv lr) < μ τ) Q) τ
 | .exit id,Q,σ=>Q (.ex id) σ
 | .ret,Q,σ=>Q .ret σ
inductive RV where
 | t (n:Nat)
 | c (n k:Nat) (ag:Bool)
def RV.val (σ:St):RV→Option AV
 | .t n=>some (σ.get n)
 | .c n k ag => match σ.get n with
   | .pt r 0 0 => match σ.row r with
     | some (.var y)=>dH y 0 k ag
     | _=>none
   | _=>none
def RVs.val (σ:St):List RV→Option (List AV)
 | []=>some []
 | r :: rs => match r.val σ, RVs.val σ rs with
   | some x,some xs=>some (x::xs)
   | _,_=>none
def gb:List AV→AV
 | [x]=>x
 | xs=>.tup xs
def fin (rs:List RV) (res:AV):Ex→St→Prop
 | .nrm,σ | .ret,σ=>∃ xs,RVs.val σ rs=some xs∧(aD xs).Nodup∧lift σ.row 3 (gb xs)=res
 | _,_=>False
def St.start (args:List AV):St:={ env:=go 0 args,rows:=[] }
where go:Nat→List AV→List (Nat×AV)
 | _,[]=>[]
 | n,a::as=>(n,a)::go (n+1) as
def Qu (a:aj) (rs:List RV) (args:List AV) (res:AV):Prop:=AWP ok a (fin rs res) (St.start args)
end
end Vs

namespace Vs
open Go
theorem gD (xs:List AV):fR xs=xs.map AV.nrm:=by
 induction xs with
 | nil=>simp [fR]
 | cons x xs ih=>simp [fR,ih]
theorem gG (xs:List AV):ct xs=xs.map AV.als:=by
 induction xs with
 | nil=>simp [ct]
 | cons x xs ih=>simp [ct,ih]
theorem eT (xs:List AV):fF xs=xs.map AV.fix:=by
 induction xs with
 | nil=>simp [fF]
 | cons x xs ih=>simp [fF,ih]
theorem nF (r d:Nat) (xs:List AV):gt r d xs=xs.map (AV.ren r d):=by
 induction xs with
 | nil=>simp [gt]
 | cons x xs ih=>simp [gt,ih]
theorem yY (xs:List AV):jT xs↔∀ x∈xs,x.allU:=by
 induction xs with
 | nil=>simp [jT]
 | cons x xs ih=>simp [jT,ih]
theorem Pd (ρ:Nat→Option Row) (k:Nat) (v:Value):snp ρ (k+1) (.sc v)=.sc v:=by simp [snp,AV.nrm]
theorem Kr (ρ:Nat→Option Row) (k:Nat) (f:Fl) (n:Nat) (xs:List AV):snp ρ (k+1) (.lst f n xs)=.lst .o n (xs.map AV.nrm):=by simp [snp,AV.nrm,gD]
theorem Qt (ρ:Nat→Option Row) (k:Nat) (f:Fl) (n:Nat) (xs:List AV):snp ρ (k+1) (.tg f n xs)=.lst .o n (xs.map AV.nrm):=by simp [snp,AV.nrm,gD]
theorem Kx (ρ:Nat→Option Row) (k:Nat) (cs:List AV):snp ρ (k+1) (.agg cs)=.agg (cs.map (snp ρ k)):=by simp [snp]
theorem Qm (ρ:Nat→Option Row) (k:Nat) (f:Nat) (cs:List AV):snp ρ (k+1) (.fn f cs)=.fn f (cs.map (snp ρ k)):=by simp [snp]
theorem Qr (ρ:Nat→Option Row) (k:Nat) (f:Fl) (x:AV) (off:Nat):snp ρ (k+1) (.bp f x off)=.bp .o x.nrm off:=by simp [snp,AV.nrm]
theorem Rg (ρ:Nat→Option Row) (k:Nat) (r i n:Nat):snp ρ (k+1) (.sl r i n)=me (ρ r) i n:=by simp only [snp]
theorem Ct (w:Nat) (es:List AV) (i n:Nat):me (some (.arr w es)) i n=.lst .o w ((sub es i n).map AV.nrm):=by simp [me,gD]
theorem Ra (ρ:Nat→Option Row) (k:Nat) (r i off:Nat):snp ρ (k+1) (.pt r i off)=kP (snp ρ k) (ρ r) i off:=by simp only [snp]
theorem zZ (h:AV→AV) (y:AV) (off:Nat):kP h (some (.var y)) 0 off=.bp .o (h y) off:=by simp [kP]
theorem Kq (ρ:Nat→Option Row) (k:Nat) (v:Value):lift ρ (k+1) (.sc v)=.sc v:=by simp [lift]
theorem FD (ρ:Nat→Option Row) (k:Nat) (f:Fl) (n:Nat) (xs:List AV):lift ρ (k+1) (.lst f n xs)=.lst f n xs:=by simp [lift]
theorem Ir (ρ:Nat→Option Row) (k:Nat) (cs:List AV):lift ρ (k+1) (.agg cs)=.agg (cs.map (lift ρ k)):=by simp [lift]
theorem CZ (ρ:Nat→Option Row) (k:Nat) (cs:List AV):lift ρ (k+1) (.tup cs)=.tup (cs.map (lift ρ k)):=by simp [lift]
theorem MM (ρ:Nat→Option Row) (k:Nat) (r i n:Nat):lift ρ (k+1) (.sl r i n)=ke (ρ r) i n:=by simp only [lift]
theorem wj (w:Nat) (es:List AV) (i n:Nat):ke (some (.arr w es)) i n=.lst .u w (sub es i n):=rfl
theorem kT (k c:Nat) (v:Value):adopt (k+1) c (.sc v)=(.sc v,[],c):=by simp [adopt,AV.fix]
theorem yn (k c n:Nat) (es:List AV):adopt (k+1) c (.lst .u n es)=(.sl c 0 es.length,[(c,.arr n (es.map AV.fix))],c+1000):=by simp [adopt,eT]
theorem yN (k c n:Nat) (es:List AV):adopt (k+1) c (.lst .o n es)=(.lst .s n (es.map AV.fix),[],c):=by simp [adopt,AV.fix,eT,Fl.fix]
theorem xJ (k c n:Nat) (es:List AV):adopt (k+1) c (.lst .m n es)=(.lst .m n (es.map AV.fix),[],c):=by simp [adopt,AV.fix,eT,Fl.fix]
theorem yT (k c n:Nat) (es:List AV):adopt (k+1) c (.lst .s n es)=(.lst .s n (es.map AV.fix),[],c):=by simp [adopt,AV.fix,eT,Fl.fix]
theorem qc (k c:Nat) (xs:List AV):adopt (k+1) c (.tup xs)=(.tup (adopt.go k c xs).1,(adopt.go k c xs).2.1,(adopt.go k c xs).2.2):=by simp [adopt]
theorem qa (k c:Nat) (xs:List AV):adopt (k+1) c (.agg xs)=(.agg (adopt.go k c xs).1,(adopt.go k c xs).2.1,(adopt.go k c xs).2.2):=by simp [adopt]
theorem pZ (k c:Nat):adopt.go k c []=([],[],c):=by simp [adopt.go]
theorem od (k c:Nat) (x:AV) (xs:List AV):adopt.go k c (x::xs) =
 ((adopt k c x).1::(adopt.go k (adopt k c x).2.2 xs).1,(adopt k c x).2.1++(adopt.go k (adopt k c x).2.2 xs).2.1,(adopt.go k (adopt k c x).2.2 xs).2.2):=by simp [adopt.go]
theorem dQ (v:Value):(AV.sc v).nrm=.sc v:=by simp [AV.nrm]
theorem hY (f:Fl) (n:Nat) (xs:List AV):(AV.lst f n xs).nrm=.lst .o n (xs.map AV.nrm):=by simp [AV.nrm,gD]
theorem gV (cs:List AV):(AV.agg cs).nrm=.agg (cs.map AV.nrm):=by simp [AV.nrm,gD]
theorem QL (f:Fl) (x:AV) (off:Nat):(AV.bp f x off).nrm=.bp .o x.nrm off:=by simp [AV.nrm]
theorem dX (v:Value):(AV.sc v).als=.sc v:=by simp [AV.als]
theorem hG (f:Fl) (n:Nat) (xs:List AV):(AV.lst f n xs).als=.lst f.als n (xs.map AV.als):=by simp [AV.als,gG]
theorem iq (cs:List AV):(AV.agg cs).als=.agg (cs.map AV.als):=by simp [AV.als,gG]
theorem eX (v:Value):(AV.sc v).fix=.sc v:=by simp [AV.fix]
theorem gm (f:Fl) (n:Nat) (xs:List AV):(AV.lst f n xs).fix=.lst f.fix n (xs.map AV.fix):=by simp [AV.fix,eT]
theorem gp (cs:List AV):(AV.agg cs).fix=.agg (cs.map AV.fix):=by simp [AV.fix,eT]
theorem fJ (xs:List Int):(xs.map AV.i).map AV.nrm=xs.map AV.i:=by simp [dQ]
theorem fK (xs:List Int):(xs.map AV.i).map AV.als=xs.map AV.i:=by simp [dX]
theorem eH (xs:List Int):(xs.map AV.i).map AV.fix=xs.map AV.i:=by simp [eX]
theorem Ch (xs:List Bool):(xs.map AV.b).map AV.nrm=xs.map AV.b:=by simp [dQ]
theorem zf (xs:List Bool):(xs.map AV.b).map AV.als=xs.map AV.b:=by simp [dX]
theorem pP (xs:List Bool):(xs.map AV.b).map AV.fix=xs.map AV.b:=by simp [eX]
theorem ln (xs:List ByteArray):(xs.map AV.z).map AV.nrm=xs.map AV.z:=by simp [dQ]
theorem lx (xs:List ByteArray):(xs.map AV.z).map AV.als=xs.map AV.z:=by simp [dX]
theorem jw (xs:List ByteArray):(xs.map AV.z).map AV.fix=xs.map AV.z:=by simp [eX]
theorem xt (xs:List Int):(xs.map AV.u8).map AV.nrm=xs.map AV.u8:=by simp [dQ]
theorem CC  : AV.als ∘ AV.i=AV.i:=by funext x; simp [dX]
theorem zt  : AV.als ∘ AV.b=AV.b:=by funext x; simp [dX]
theorem AY  : AV.als ∘ AV.z=AV.z:=by funext x; simp [dX]
theorem vh (xs:List Int):(xs.map AV.u8).map AV.als=xs.map AV.u8:=by simp [dX]
theorem nu (xs:List Int):(xs.map AV.u8).map AV.fix=xs.map AV.u8:=by simp [eX]
theorem Lk {α:Type} (a:α):(some a).isSome=true:=rfl
theorem c_eq {α:Type} (a:α):(a=a)=True:=eq_self a
theorem Sy (p:Prop):(True∧p)=p:=true_and p
theorem Ro (p:Prop):(p∧True)=p:=and_true p
theorem LE (n:Nat) (xs:List AV):(∃ es,some (Row.arr n xs)=some (Row.arr n es))=True:=by simp
theorem HD (n:Nat) (xs:List AV):(∃ w es,some (Row.arr n xs)=some (Row.arr w es))=True:=by simp
theorem Qc (p:Prop):(False→p)=True:=by simp
theorem PK (p:Prop):(True→p)=p:=by simp
theorem LM {α:Type} (q:α→Prop):(∀ p∈([]:List α),q p)=True:=by simp
theorem JM {α:Type} (x:α) (l:List α) (q:α→Prop):(∀ p∈x::l,q p)=(q x∧∀ p∈l,q p):=by simp
theorem FW  : sub [] 0 0=[]:=rfl
theorem ED (n:Nat):0+n=n:=Nat.zero_add n
theorem Dj (n:Nat):n+0=n:=Nat.add_zero n
theorem QK (n:Nat):n - 0=n:=Nat.sub_zero n
theorem PH (d:Nat):(d∈([]:List Nat))=False:=by simp
theorem RD (d x:Nat) (l:List Nat):(d∈x::l)=(d=x∨d∈l):=by simp
theorem Sf (p:Prop):(p∨False)=p:=or_false p
theorem Sn (p:Prop):(False∨p)=p:=false_or p
theorem Sw (p:Prop):(p∨True)=True:=or_true p
theorem Sg (p:Prop):(True∨p)=True:=true_or p
theorem Qj  : (¬ False)=True:=not_false_eq_true
theorem Rs  : (¬ True)=False:=not_true_eq_false
theorem Sx (n:Nat):(n≤n)=True:=by simp
theorem RI (n:Nat):(0≤n)=True:=by simp
theorem Mm {α:Type} (f:α→AV) (l:List α):sub (l.map f) 0 l.length=l.map f:=by simp [sub]
theorem lf (h:Nat→Nat) (xs:List AV):rgL h xs=xs.map (AV.rg h):=by
 induction xs with
 | nil=>simp [rgL]
 | cons x xs ih=>simp [rgL,ih]
theorem Ob (h:Nat→Nat) (v:Value):(AV.sc v).rg h=.sc v:=by simp [AV.rg]
theorem Dd (h:Nat→Nat) (f:Fl) (n:Nat) (xs:List AV):(AV.lst f n xs).rg h=.lst f n xs:=by simp [AV.rg]
theorem Ow (h:Nat→Nat) (f:Fl) (n:Nat) (xs:List AV):(AV.tg f n xs).rg h=.tg f n xs:=by simp [AV.rg]
theorem NO (h:Nat→Nat) (f:Fl) (x:AV) (off:Nat):(AV.bp f x off).rg h=.bp f x off:=by simp [AV.rg]
theorem IQ (h:Nat→Nat):AV.top.rg h=.top:=by simp [AV.rg]
theorem Gz (h:Nat→Nat) (cs:List AV):(AV.agg cs).rg h=.agg (cs.map (AV.rg h)):=by simp [AV.rg,lf]
theorem Oj (h:Nat→Nat) (f:Nat) (cs:List AV):(AV.fn f cs).rg h=.fn f (cs.map (AV.rg h)):=by simp [AV.rg,lf]
theorem FN (h:Nat→Nat) (cs:List AV):(AV.tup cs).rg h=.tup (cs.map (AV.rg h)):=by simp [AV.rg,lf]
theorem Ox (h:Nat→Nat) (q i n:Nat):(AV.sl q i n).rg h=.sl (h q) i n:=by simp [AV.rg]
theorem OK (h:Nat→Nat) (q i n:Nat):(AV.pt q i n).rg h=.pt (h q) i n:=by simp [AV.rg]
theorem xP (h:Nat→Nat) (x:AV):(Row.var x).rg h=.var (x.rg h):=rfl
theorem xH (h:Nat→Nat) (n:Nat) (xs:List AV):(Row.arr n xs).rg h=.arr n xs:=rfl
theorem uN (h:Nat→Nat):Row.dead.rg h=.dead:=rfl
theorem sy (r x:Nat) (xs:List Nat):pos r (x::xs)=if x=r then 0 else pos r xs+1:=rfl
theorem HA (rs:List Nat) (r:Nat):cnm rs r=1000000000+pos r rs:=rfl
theorem DY (d:Nat) (rs:List Nat) (q:Nat):bkn d rs q=if 1000000000≤q then rs.getD (q - 1000000000) 0 else q+100000 * (d+1):=rfl
theorem Ic (ρ:Nat→Option Row) (rs:List Nat) (r:Nat):gP ρ rs r=(cnm rs r,((ρ r).getD .dead).rg (cnm rs)):=rfl
theorem sx (d:Nat) (rs:List Nat) (p:Nat×Row):cB d rs p=(bkn d rs p.1,p.2.rg (bkn d rs)):=rfl
theorem xu (x:AV):nb (some (.var x))=x.ments:=rfl
theorem wv (n:Nat) (xs:List AV):nb (some (.arr n xs))=[]:=rfl
theorem xM (x y:Nat) (l:List Nat):(x::l).getD 0 y=x:=rfl
theorem xO (x y:Nat) (l:List Nat) (n:Nat):(x::l).getD (n+1) y=l.getD n y:=by simp
theorem QB (r d:Nat) (v:Value):(AV.sc v).ren r d=.sc v:=by simp [AV.ren]
theorem Ll (r d:Nat) (f:Fl) (n:Nat) (xs:List AV):(AV.lst f n xs).ren r d=.lst f n xs:=by simp [AV.ren]
theorem Qq (r d:Nat) (f:Fl) (n:Nat) (xs:List AV):(AV.tg f n xs).ren r d=.tg f n xs:=by simp [AV.ren]
theorem PD (r d:Nat) (f:Fl) (x:AV) (off:Nat):(AV.bp f x off).ren r d=.bp f x off:=by simp [AV.ren]
theorem Mq (r d:Nat):AV.top.ren r d=.top:=by simp [AV.ren]
theorem Mt (r d:Nat) (cs:List AV):(AV.agg cs).ren r d=.agg (cs.map (AV.ren r d)):=by simp [AV.ren,nF]
theorem QM (r d f:Nat) (cs:List AV):(AV.fn f cs).ren r d=.fn f (cs.map (AV.ren r d)):=by simp [AV.ren,nF]
theorem KT (r d:Nat) (cs:List AV):(AV.tup cs).ren r d=.tup (cs.map (AV.ren r d)):=by simp [AV.ren,nF]
theorem QT (r d q i n:Nat):(AV.sl q i n).ren r d=.sl (if q=r then d else q) i n:=by simp [AV.ren]
theorem Rf (r d q i n:Nat):(AV.pt q i n).ren r d=.pt (if q=r then d else q) i n:=by simp [AV.ren]
theorem Jd (ok:Oks) (Q:Ex→St→Prop) (σ:St):AWP ok .skip Q σ=Q .nrm σ:=by simp only [AWP]
theorem Lu (ok:Oks) (Q:Ex→St→Prop) (σ:St) (ops:List aM) (can:List Can):AWP ok (.reg ops can) Q σ=cI ok ops (xg Q can) σ:=by simp only [AWP]
theorem Kl (ok:Oks) (Q:Ex→St→Prop) (σ:St) (ops:List aM) (can:List Can):AWP ok (.drw ops can) Q σ=cI ok ops (xg Q can) σ:=by simp only [AWP]
theorem Da (ok:Oks) (Q:Ex→St→Prop) (σ:St) (pre:List aM) (h:HOp) (post:List aM) (can:List Can):AWP ok (.regh pre h post can) Q σ=cI ok pre (stH ok h (cI ok post (xg Q can))) σ:=by simp only [AWP]
theorem KA (ok:Oks) (Q:Ex→St→Prop) (σ:St) (a b:aj):AWP ok (.seq a b) Q σ=AWP ok a (thn (AWP ok b Q) Q) σ:=by simp only [AWP]
def rY (ok:Oks) (v:AV) (a b:aj) (Q:Ex→St→Prop) (σ:St):Prop:=tst v (AWP ok a Q σ) (AWP ok b Q σ)
theorem Hz (ok:Oks) (Q:Ex→St→Prop) (σ:St) (x:X) (a b:aj):AWP ok (.cond x a b) Q σ=rY ok (σ.gx x) a b Q σ:=by simp only [AWP,rY]
theorem Pt (ok:Oks) (Q:Ex→St→Prop) (σ:St) (a b:aj):rY ok (.sc (.bool true)) a b Q σ=AWP ok a Q σ:=by simp [rY,tst]
theorem PW (ok:Oks) (Q:Ex→St→Prop) (σ:St) (a b:aj):rY ok .ub a b Q σ=(AWP ok a Q σ∧AWP ok b Q σ):=by simp [rY,tst]
theorem PZ (ok:Oks) (Q:Ex→St→Prop) (σ:St) (a b:aj):rY ok (.sc (.bool false)) a b Q σ=AWP ok b Q σ:=by simp [rY,tst]
theorem JH (ok:Oks) (Q:Ex→St→Prop) (σ:St) (x a:aj) (lv lr:List Nat) (b:aj):AWP ok (.seqa x a lv lr b) Q σ=AWP ok x (thn (AWP ok (.seqr a lv lr b) Q) Q) σ:=by simp only [AWP]
theorem Gd (ok:Oks) (Q:Ex→St→Prop) (σ:St) (a:aj) (lv:List Nat) (b:aj):AWP ok (.seqb a lv b) Q σ=AWP ok a (thn (fun τ=>AWP ok b (rbQ Q) (τ.rb lv)) Q) σ:=by simp only [AWP]
theorem Si (env:List (Nat×AV)) (rows:List (Nat×Row)) (lv:List Nat):St.rb ⟨env,rows⟩ lv=⟨lv.map fun k=>(k,snp (St.row ⟨env,rows⟩) 4 (St.get ⟨env,rows⟩ k)),[]⟩:=rfl
theorem QY (Q:Ex→St→Prop) (e:Ex) (env:List (Nat×AV)) (rows:List (Nat×Row)):rbQ Q e ⟨env,rows⟩=Q e ⟨env.map fun p=>(p.1,p.2.scal),[]⟩:=rfl
theorem MA (v:Value):(AV.sc v).scal=.sc v:=rfl
theorem Kd (ok:Oks) (Q:Ex→St→Prop) (σ:St) (id:Nat) (a:aj):AWP ok (.blk id a) Q σ=AWP ok a (inb id Q) σ:=by simp only [AWP]
theorem DH (ok:Oks) (Q:Ex→St→Prop) (σ:St) (id:Nat):AWP ok (.exit id) Q σ=Q (.ex id) σ:=by simp only [AWP]
theorem LS (ok:Oks) (Q:Ex→St→Prop) (σ:St):AWP ok .ret Q σ=Q .ret σ:=by simp only [AWP]
theorem Lg (K:St→Prop) (Q:Ex→St→Prop) (σ:St):thn K Q .nrm σ=K σ:=rfl
theorem OX (K:St→Prop) (Q:Ex→St→Prop) (i:Nat) (σ:St):thn K Q (.ex i) σ=Q (.ex i) σ:=rfl
theorem La (K:St→Prop) (Q:Ex→St→Prop) (σ:St):thn K Q .ret σ=Q .ret σ:=rfl
theorem LX (i:Nat) (Q:Ex→St→Prop) (σ:St):inb i Q .nrm σ=Q .nrm σ:=rfl
theorem Rn (i j:Nat) (Q:Ex→St→Prop) (σ:St):inb i Q (.ex j) σ=if j=i then Q .nrm σ else Q (.ex j) σ:=rfl
theorem Mx (i:Nat) (Q:Ex→St→Prop) (σ:St):inb i Q .ret σ=Q .ret σ:=rfl
theorem Qv (ok:Oks) (g:X→AV) (ρ:Nat→Option Row) (d:Nat) (K:AV→List (Nat×Row)→Prop) (x:X):eff ok g ρ d (.mv x) K=K (g x) []:=rfl
theorem JI (ok:Oks) (g:X→AV) (ρ:Nat→Option Row) (d:Nat) (K:AV→List (Nat×Row)→Prop) (c a b:X):eff ok g ρ d (.pick c a b) K=jM K (g c) (g a) (g b):=rfl
theorem MD (K:AV→List (Nat×Row)→Prop) (a b:AV):jM K (.sc (.bool true)) a b=K a []:=by simp [jM]
theorem Mg (K:AV→List (Nat×Row)→Prop) (a b:AV):jM K (.sc (.bool false)) a b=K b []:=by simp [jM]
theorem Cd (ok:Oks) (g:X→AV) (ρ:Nat→Option Row) (d:Nat) (K:AV→List (Nat×Row)→Prop) (z:AV):eff ok g ρ d (.alloc z) K=(ρ d=none∧K (.pt d 0 0) [(d,.var z)]):=rfl
theorem Kf (ok:Oks) (g:X→AV) (ρ:Nat→Option Row) (d:Nat) (K:AV→List (Nat×Row)→Prop) (n:Nat) (x:X):eff ok g ρ d (.box n x) K=(ρ d=none∧(g x).width=n∧K (.pt d 0 0) [(d,.var (g x))]):=rfl
theorem Ao (ok:Oks) (g:X→AV) (ρ:Nat→Option Row) (d:Nat) (K:AV→List (Nat×Row)→Prop) (z:List AV) (ps:List (Nat×Nat×X)):eff ok g ρ d (.build z ps) K =
 ((∀ p∈ps,(g p.2.2).width=p.2.1∧p.1+p.2.1≤z.length)∧K (.agg (jQ z (ps.map fun p=>(p.1,g p.2.2)))) []):=rfl
theorem JR (ok:Oks) (g:X→AV) (ρ:Nat→Option Row) (d:Nat) (K:AV→List (Nat×Row)→Prop) (n:Nat) (fr:Bool) (ps:List X):eff ok g ρ d (.bsl n fr ps) K=((fr=true→aD (ps.map g)=[])∧ρ d=none∧(∀ p∈ps,(g p).width=n)∧(aD (ps.map g)).Nodup ∧
 K (.sl d 0 ps.length) (cv (aD (ps.map g))++[(d,.arr n ((ps.map g).map (lift ρ 2)))])):=rfl
theorem vj (x:AV):cd (some (.var x))=True:=rfl
theorem xD (n:Nat) (x:List AV):cd (some (.arr n x))=True:=rfl
theorem xI (rs:List Nat):cv rs=rs.map fun r=>(r,.dead):=rfl
theorem So (K:AV→List (Nat×Row)→Prop) (v:AV):k1 K v=K v []:=rfl
theorem DN (ok:Oks) (g:X→AV) (ρ:Nat→Option Row) (d:Nat) (K:AV→List (Nat×Row)→Prop) (n:Nat) (ag:Bool) (x:X):eff ok g ρ d (.load n ag x) K=ef K ρ n ag (g x):=rfl
theorem IA (ρ:Nat→Option Row) (K:AV→List (Nat×Row)→Prop) (n:Nat) (ag:Bool) (f:Fl) (y:AV) (off:Nat):ef K ρ n ag (.bp f y off)=opt (dH y off n ag) (k1 K):=rfl
theorem GJ (ρ:Nat→Option Row) (K:AV→List (Nat×Row)→Prop) (n:Nat) (ag:Bool) (r i off:Nat):ef K ρ n ag (.pt r i off)=eN K (ρ r) i off n ag:=rfl
theorem uW (K:AV→List (Nat×Row)→Prop) (y:AV) (i off n:Nat) (ag:Bool):eN K (some (.var y)) i off n ag=(i=0∧opt (dH y off n ag) (k1 K)):=rfl
theorem tT (K:AV→List (Nat×Row)→Prop) (w:Nat) (es:List AV) (i off n:Nat) (ag:Bool):eN K (some (.arr w es)) i off n ag=opt es[i]? (Ev K off n ag):=rfl
theorem HZ (K:AV→List (Nat×Row)→Prop) (off n:Nat) (ag:Bool) (y:AV):Ev K off n ag y=opt (dH y.als off n ag) (k1 K):=rfl
theorem Bc (ok:Oks) (g:X→AV) (ρ:Nat→Option Row) (d:Nat) (K:AV→List (Nat×Row)→Prop) (n:Nat) (x v:X):eff ok g ρ d (.store n x v) K=cK K ρ n (g x) (g v):=rfl
theorem zA (ρ:Nat→Option Row) (K:AV→List (Nat×Row)→Prop) (n r i off:Nat) (v:AV):cK K ρ n (.pt r i off) v=(v.width=n∧cX K ρ (ρ r) r i off v):=rfl
theorem ra (ρ:Nat→Option Row) (K:AV→List (Nat×Row)→Prop) (y:AV) (r i off:Nat) (v:AV):cX K ρ (some (.var y)) r i off v=(i=0∧opt (setPart y off v) (Et K r)):=rfl
theorem Jp (K:AV→List (Nat×Row)→Prop) (r:Nat) (y:AV):Et K r y=K .top [(r,.var y)]:=rfl
theorem rm (ρ:Nat→Option Row) (K:AV→List (Nat×Row)→Prop) (w:Nat) (es:List AV) (r i off:Nat) (v:AV):cX K ρ (some (.arr w es)) r i off v=opt es[i]? (oE K ρ r w i off es v):=rfl
theorem Hk (ρ:Nat→Option Row) (K:AV→List (Nat×Row)→Prop) (w:Nat) (es:List AV) (r i off:Nat) (v y:AV):oE K ρ r w i off es v y =
 (r ∉ v.ments∧v.ments.Nodup∧(lift ρ 2 v).width=v.width∧opt (setPart y off (lift ρ 2 v)) (vL K (cv v.ments) r w i es)):=rfl
theorem CT (K:AV→List (Nat×Row)→Prop) (u:List (Nat×Row)) (r w i:Nat) (es:List AV) (y:AV):vL K u r w i es y=K .top (u++[(r,.arr w (es.set i y))]):=rfl
theorem MB (ok:Oks) (g:X→AV) (ρ:Nat→Option Row) (d:Nat) (K:AV→List (Nat×Row)→Prop) (n:Nat) (ps:List X):eff ok g ρ d (.bsm n ps) K=((∀ r∈aD (ps.map g),wh (ρ r))∧ρ d=none∧(∀ p∈ps,(g p).width=n)∧(aD (ps.map g)).Nodup ∧
 K (.sl d 0 ps.length) (cv (aD (ps.map g))++[(d,.arr n ((ps.map g).map (lift ρ 2)))])):=rfl
theorem Kp (ok:Oks) (g:X→AV) (ρ:Nat→Option Row) (d:Nat) (K:AV→List (Nat×Row)→Prop) (n:Nat) (x v:X):eff ok g ρ d (.stv n x v) K=(vPv ρ (g x)∧cK K ρ n (g x) (g v)):=rfl
theorem Kn (ok:Oks) (g:X→AV) (ρ:Nat→Option Row) (d:Nat) (K:AV→List (Nat×Row)→Prop) (n:Nat) (ag:Bool) (x:X):eff ok g ρ d (.lda n ag x) K=(aPb ρ (g x)∧ef K ρ n ag (g x)):=rfl
theorem Ka (ok:Oks) (g:X→AV) (ρ:Nat→Option Row) (d:Nat) (K:AV→List (Nat×Row)→Prop) (av:List Nat) (off:Nat) (x:X):eff ok g ρ d (.fdv av off x) K=(vPt av ρ (g x)∧kj K ρ off (g x)):=rfl
theorem Qw (ρ:Nat→Option Row) (r i off:Nat):aPb ρ (.pt r i off)=wh (ρ r):=rfl
theorem QI (ρ:Nat→Option Row) (f:Fl) (y:AV) (off:Nat):aPb ρ (.bp f y off)=True:=rfl
theorem QX (ρ:Nat→Option Row) (r i off:Nat):vPv ρ (.pt r i off)=vP (ρ r):=rfl
theorem KE (ok:Oks) (g:X→AV) (ρ:Nat→Option Row) (d:Nat) (K:AV→List (Nat×Row)→Prop) (av:List Nat) (n:Nat) (ag:Bool) (x:X):eff ok g ρ d (.ldv av n ag x) K=(vPt av ρ (g x)∧ef K ρ n ag (g x)):=rfl
theorem Ku (ok:Oks) (g:X→AV) (ρ:Nat→Option Row) (d:Nat) (K:AV→List (Nat×Row)→Prop) (n:Nat) (x v:X):eff ok g ρ d (.str n x v) K=(aPt ρ (g x)∧(g v).ments=[]∧cK K ρ n (g x) (g v)):=rfl
theorem QG (ρ:Nat→Option Row) (av:List Nat) (r i off:Nat):vPt av ρ (.pt r i off)=(r ∉ av∧vP (ρ r)):=rfl
theorem PR (ρ:Nat→Option Row) (av:List Nat) (f:Fl) (y:AV) (off:Nat):vPt av ρ (.bp f y off)=True:=rfl
theorem QF (ρ:Nat→Option Row) (r i off:Nat):aPt ρ (.pt r i off)=wh (ρ r):=rfl
theorem Ed (x:AV):vP (some (.var x))=True:=rfl
theorem GE (n:Nat) (x:List AV):wh (some (.arr n x))=True:=rfl
theorem KX (ok:Oks) (g:X→AV) (ρ:Nat→Option Row) (d:Nat) (K:AV→List (Nat×Row)→Prop) (op:BinOp) (x y:X):eff ok g ρ d (.bin op x y) K=cx op (g x) (g y) (k1 K):=rfl
theorem Kt (ok:Oks) (g:X→AV) (ρ:Nat→Option Row) (d:Nat) (K:AV→List (Nat×Row)→Prop) (neg:Bool) (x y:X):eff ok g ρ d (.beq neg x y) K=sD K neg (g x) (g y):=rfl
theorem Pq (K:AV→List (Nat×Row)→Prop) (a b:Bool):sD K false (.sc (.bool a)) (.sc (.bool b))=K (.sc (.bool (a==b))) []:=rfl
theorem Ru (K:AV→List (Nat×Row)→Prop) (a b:Bool):sD K true (.sc (.bool a)) (.sc (.bool b))=K (.sc (.bool (!(a==b)))) []:=rfl
theorem JS (ok:Oks) (g:X→AV) (ρ:Nat→Option Row) (d:Nat) (K:AV→List (Nat×Row)→Prop) (neg:Bool) (x y:X):eff ok g ρ d (.aeq neg x y) K=Bh K neg (g x) (g y):=rfl
theorem Pb (K:AV→List (Nat×Row)→Prop) (a b c e:Int):Bh K false (.agg [.sc (.int .i64 a),.sc (.int .i64 b)]) (.agg [.sc (.int .i64 c),.sc (.int .i64 e)])=K (.sc (.bool (a==c&&b==e))) []:=rfl
theorem Qy (K:AV→List (Nat×Row)→Prop) (a b c e:Int):Bh K true (.agg [.sc (.int .i64 a),.sc (.int .i64 b)]) (.agg [.sc (.int .i64 c),.sc (.int .i64 e)])=K (.sc (.bool (!(a==c&&b==e)))) []:=rfl
theorem Qb (ok:Oks) (g:X→AV) (ρ:Nat→Option Row) (d:Nat) (K:AV→List (Nat×Row)→Prop) (op:UnOp) (x:X):eff ok g ρ d (.un op x) K=unV op (g x) (k1 K):=rfl
theorem Hq (ok:Oks) (g:X→AV) (ρ:Nat→Option Row) (d:Nat) (K:AV→List (Nat×Row)→Prop) (q:IntKind) (x:X):eff ok g ρ d (.conv q x) K=mV K q (g x):=rfl
theorem KB (K:AV→List (Nat×Row)→Prop) (q q':IntKind) (n:Int):mV K q (.sc (.int q' n))=K (.sc (.int q (q.wrap n))) []:=rfl
theorem Lr (ok:Oks) (g:X→AV) (ρ:Nat→Option Row) (d:Nat) (K:AV→List (Nat×Row)→Prop) (f:Nat) (cs:List X):eff ok g ρ d (.mkf f cs) K=K (.fn f (cs.map g)) []:=rfl
theorem Na (ok:Oks) (g:X→AV) (ρ:Nat→Option Row) (d:Nat) (K:AV→List (Nat×Row)→Prop) (n:Nat) (z:AV) (bytes:Nat) (l c:X):eff ok g ρ d (.mks n z bytes l c) K=sn K (ρ d) d n z bytes (g l) (g c):=rfl
theorem QP (d:Nat) (K:AV→List (Nat×Row)→Prop) (o:Option Row) (n:Nat) (z:AV) (bytes:Nat) (l c:Int):sn K o d n z bytes (.sc (.int .i64 l)) (.sc (.int .i64 c)) =
 (o=none∧z.width=n∧0≤l∧l≤c∧c * bytes≤140737488355328∧c≤9223372036854775807∧K (.sl d 0 l.toNat) [(d,.arr n (List.replicate l.toNat z))]):=rfl
theorem LF (ok:Oks) (g:X→AV) (ρ:Nat→Option Row) (d:Nat) (K:AV→List (Nat×Row)→Prop) (n:Nat) (x:X) (lo hi mx:Option X):eff ok g ρ d (.slc n x lo hi mx) K=nw K ρ n (g x) (lo.map g) (hi.map g) (mx.map g):=rfl
theorem GC (ρ:Nat→Option Row) (K:AV→List (Nat×Row)→Prop) (f:Fl) (n w:Nat) (xs:List AV) (lo hi:Option AV):nw K ρ n (.lst f w xs) lo hi none =
 (w=n∧bOk lo∧bOk hi∧bV lo 0≤bV hi xs.length∧bV hi xs.length≤xs.length∧K (.lst f n (sub xs (bV lo 0) (bV hi xs.length - bV lo 0))) []):=rfl
theorem Am (ρ:Nat→Option Row) (K:AV→List (Nat×Row)→Prop) (f:Fl) (n w:Nat) (xs:List AV) (lo hi:Option AV) (m:AV):nw K ρ n (.lst f w xs) lo hi (some m) =
 (w=n∧bOk lo∧bOk hi∧bV lo 0≤bV hi xs.length∧bV hi xs.length≤xs.length∧hi.isSome∧bOk (some m)∧bV (some m) 0=bV hi xs.length∧K (.tg f n (sub xs (bV lo 0) (bV hi xs.length - bV lo 0))) []):=rfl
theorem MP (ρ:Nat→Option Row) (K:AV→List (Nat×Row)→Prop) (n r i m:Nat) (lo hi mx:Option AV):nw K ρ n (.sl r i m) lo hi mx =
 ((∃ es,ρ r=some (.arr n es))∧bOk lo∧bOk hi∧bV lo 0≤bV hi m∧bV hi m≤m∧mx=none∧K (.sl r (i+bV lo 0) (bV hi m - bV lo 0)) []):=rfl
theorem Ko (ok:Oks) (g:X→AV) (ρ:Nat→Option Row) (d:Nat) (K:AV→List (Nat×Row)→Prop) (x:X) (lo hi:Option X):eff ok g ρ d (.slz x lo hi) K=Hv K (g x) (lo.map g) (hi.map g):=rfl
theorem Rp (K:AV→List (Nat×Row)→Prop) (s:ByteArray) (lo hi:Option AV):Hv K (.sc (.string s)) lo hi =
 (bOk lo∧bOk hi∧bV lo 0≤bV hi s.size∧bV hi s.size≤s.size∧K (.sc (.string (s.extract (bV lo 0) (bV hi s.size)))) []):=rfl
theorem GP  : bOk none=True:=rfl
theorem Sj (q:IntKind) (j:Int):bOk (some (.sc (.int q j)))=(0≤j):=rfl
theorem JW (n:Nat):bV none n=n:=rfl
theorem bV_i (n:Nat) (q:IntKind) (j:Int):bV (some (.sc (.int q j))) n=j.toNat:=rfl
theorem Kb (ok:Oks) (g:X→AV) (ρ:Nat→Option Row) (d:Nat) (K:AV→List (Nat×Row)→Prop) (off:Nat) (x:X):eff ok g ρ d (.fad off x) K=kj K ρ off (g x):=rfl
theorem Np (ρ:Nat→Option Row) (K:AV→List (Nat×Row)→Prop) (off o:Nat) (f:Fl) (y:AV):kj K ρ off (.bp f y o)=K (.bp f y (o+off)) []:=rfl
theorem Nj (ρ:Nat→Option Row) (K:AV→List (Nat×Row)→Prop) (off r i o:Nat):kj K ρ off (.pt r i o)=(cd (ρ r)∧K (.pt r i (o+off)) []):=rfl
theorem JZ (ok:Oks) (g:X→AV) (ρ:Nat→Option Row) (d:Nat) (K:AV→List (Nat×Row)→Prop) (n:Nat) (x i:X):eff ok g ρ d (.idx n x i) K=iU K ρ n (g x) (g i):=rfl
theorem LH (ok:Oks) (g:X→AV) (ρ:Nat→Option Row) (d:Nat) (K:AV→List (Nat×Row)→Prop) (av:List Nat) (n:Nat) (x i:X):eff ok g ρ d (.idv av n x i) K=(iPt av (g x)∧iU K ρ n (g x) (g i)):=rfl
theorem PS (av:List Nat) (r i n:Nat):iPt av (.sl r i n)=(r ∉ av):=rfl
theorem Me (av:List Nat) (f:Fl) (n:Nat) (xs:List AV):iPt av (.lst f n xs)=True:=rfl
theorem Mh (ok:Oks) (g:X→AV) (ρ:Nat→Option Row) (d:Nat) (K:AV→List (Nat×Row)→Prop) (av:List Nat) (x:X):eff ok g ρ d (.lnv av x) K=(iPt av (g x)∧jK K ρ (g x)):=rfl
theorem Lo (ok:Oks) (g:X→AV) (ρ:Nat→Option Row) (d:Nat) (K:AV→List (Nat×Row)→Prop) (r n:Nat) (x v:X):eff ok g ρ d (.stw r n x v) K=(wPt r ρ (g x)∧cK K ρ n (g x) (g v)):=rfl
theorem Rh (ρ:Nat→Option Row) (r q i off:Nat):wPt r ρ (.pt q i off)=(q=r∧vP (ρ q)):=rfl
theorem GN (ρ:Nat→Option Row) (K:AV→List (Nat×Row)→Prop) (n w:Nat) (f:Fl) (xs:List AV) (q:IntKind) (j:Int):iU K ρ n (.lst f w xs) (.sc (.int q j))=(w=n∧0≤j∧opt xs[j.toNat]? (PU K f.als)):=rfl
theorem Mf (K:AV→List (Nat×Row)→Prop) (f:Fl) (y:AV):PU K f y=K (.bp f y 0) []:=rfl
theorem RX  : Fl.als .o=.o:=rfl
theorem Se  : Fl.als .s=.s:=rfl
theorem Sc  : Fl.als .m=.m:=rfl
theorem RN  : Fl.als .u=.m:=rfl
theorem LR (ρ:Nat→Option Row) (K:AV→List (Nat×Row)→Prop) (n r a m:Nat) (q:IntKind) (j:Int):iU K ρ n (.sl r a m) (.sc (.int q j))=((∃ es,ρ r=some (.arr n es))∧0≤j∧j < m∧K (.pt r (a+j.toNat) 0) []):=rfl
theorem LW (ok:Oks) (g:X→AV) (ρ:Nat→Option Row) (d:Nat) (K:AV→List (Nat×Row)→Prop) (off n:Nat) (ag:Bool) (x:X):eff ok g ρ d (.fld off n ag x) K=Bm K off n ag (g x):=rfl
theorem Di (K:AV→List (Nat×Row)→Prop) (off n:Nat) (ag:Bool) (cs:List AV):Bm K off n ag (.agg cs)=opt (dH (.agg cs) off n ag) (k1 K):=by simp [Bm,AV.isAgg]
theorem FQ (ok:Oks) (g:X→AV) (ρ:Nat→Option Row) (d:Nat) (K:AV→List (Nat×Row)→Prop) (x i:X):eff ok g ρ d (.stri x i) K=oH K (g x) (g i):=rfl
theorem Nq (K:AV→List (Nat×Row)→Prop) (s:ByteArray) (q:IntKind) (j:Int):oH K (.sc (.string s)) (.sc (.int q j))=(0≤j∧opt s[j.toNat]? (QW K)):=rfl
theorem Nn (K:AV→List (Nat×Row)→Prop) (c:UInt8):QW K c=K (.sc (.int .u8 c.toNat)) []:=rfl
theorem Ls (ok:Oks) (g:X→AV) (ρ:Nat→Option Row) (d:Nat) (K:AV→List (Nat×Row)→Prop) (x:X) (j:Nat):eff ok g ρ d (.ext x j) K=xo K (g x) j:=rfl
theorem Hy (K:AV→List (Nat×Row)→Prop) (vs:List AV) (j:Nat):xo K (.tup vs) j=opt vs[j]? (k1 K):=rfl
theorem HV (ok:Oks) (g:X→AV) (ρ:Nat→Option Row) (d:Nat) (K:AV→List (Nat×Row)→Prop) (f:Nat) (xs:List X):eff ok g ρ d (.call f xs) K=gl ok ρ d f (xs.map g) K:=rfl
theorem MQ (ok:Oks) (g:X→AV) (ρ:Nat→Option Row) (d:Nat) (K:AV→List (Nat×Row)→Prop) (x:X) (xs:List X):eff ok g ρ d (.dyn x xs) K=BZ ok ρ d (g x) (xs.map g) K:=rfl
theorem zQ (ok:Oks) (g:X→AV) (ρ:Nat→Option Row) (d:Nat) (K:AV→List (Nat×Row)→Prop) (f:Nat) (xs:List X) (rs:List Nat):eff ok g ρ d (.callM f xs rs) K=callM ok ρ d f (xs.map g) rs K:=rfl
theorem EH (ok:Oks) (g:X→AV) (ρ:Nat→Option Row) (d:Nat) (K:AV→List (Nat×Row)→Prop) (x:X) (xs:List X) (rs:List Nat):eff ok g ρ d (.dynM x xs rs) K=oQ ok ρ d (g x) (xs.map g) rs K:=rfl
theorem Ew (ok:Oks) (ρ:Nat→Option Row) (d:Nat) (K:AV→List (Nat×Row)→Prop) (f:Nat) (cs xs:List AV) (rs:List Nat):oQ ok ρ d (.fn f cs) xs rs K=callM ok ρ d f (xs++cs) rs K:=rfl
theorem MT (ok:Oks) (ρ:Nat→Option Row) (d:Nat) (K:AV→List (Nat×Row)→Prop) (f:Nat) (cs xs:List AV):BZ ok ρ d (.fn f cs) xs K=gl ok ρ d f (xs++cs) K:=rfl
theorem KW (ok:Oks) (g:X→AV) (ρ:Nat→Option Row) (d:Nat) (K:AV→List (Nat×Row)→Prop) (x:X):eff ok g ρ d (.len x) K=jK K ρ (g x):=rfl
theorem Jj (ρ:Nat→Option Row) (K:AV→List (Nat×Row)→Prop) (f:Fl) (n:Nat) (xs:List AV):jK K ρ (.lst f n xs)=K (.sc (.int .i64 xs.length)) []:=rfl
theorem KO (ρ:Nat→Option Row) (K:AV→List (Nat×Row)→Prop) (f:Fl) (n:Nat) (xs:List AV):jK K ρ (.tg f n xs)=K (.sc (.int .i64 xs.length)) []:=rfl
theorem KG (ρ:Nat→Option Row) (K:AV→List (Nat×Row)→Prop) (r i n:Nat):jK K ρ (.sl r i n)=((∃ w es,ρ r=some (.arr w es))∧K (.sc (.int .i64 n)) []):=rfl
theorem Ga (ok:Oks) (g:X→AV) (ρ:Nat→Option Row) (d:Nat) (K:AV→List (Nat×Row)→Prop) (x:X):eff ok g ρ d (.lenz x) K=nj K (g x):=rfl
theorem Fw (ok:Oks) (g:X→AV) (ρ:Nat→Option Row) (d:Nat) (K:AV→List (Nat×Row)→Prop) (x:X):eff ok g ρ d (.capn x) K=oi K (g x):=rfl
theorem Lb (K:AV→List (Nat×Row)→Prop) (n:Nat):oi K (.lst .u n [])=K (.i 0) []:=rfl
theorem LV (ok:Oks) (g:X→AV) (ρ:Nat→Option Row) (d:Nat) (K:AV→List (Nat×Row)→Prop) (n:Nat) (x hi:X):eff ok g ρ d (.slg n x hi) K=wZ K n (g x) (g hi):=rfl
theorem Pw (K:AV→List (Nat×Row)→Prop) (n w:Nat) (k:IntKind) (h:Int):wZ K n (.lst .u w []) (.sc (.int k h))=(w=n∧h=0∧K (.lst .u n []) []):=rfl
theorem Mi (ok:Oks) (g:X→AV) (ρ:Nat→Option Row) (d:Nat) (K:AV→List (Nat×Row)→Prop) (n:Nat) (z:AV) (bytes:Nat) (x l:X):eff ok g ρ d (.apz n z bytes x l) K=BH K (ρ d) d n z bytes (g x) (g l):=rfl
theorem OZ (K:AV→List (Nat×Row)→Prop) (o:Option Row) (d n w:Nat) (z:AV) (bytes:Nat) (l:Int):BH K o d n z bytes (.lst .u w []) (.sc (.int .i64 l))=(o=none∧w=n∧z.width=n∧n=1∧0 < l∧l * bytes≤140737488355328∧K (.sl d 0 l.toNat) [(d,.arr n (List.replicate l.toNat z))]):=rfl
theorem Lv (K:AV→List (Nat×Row)→Prop) (s:ByteArray):nj K (.sc (.string s))=K (.sc (.int .i64 s.size)) []:=rfl
theorem Kj (ok:Oks) (g:X→AV) (ρ:Nat→Option Row) (d:Nat) (K:AV→List (Nat×Row)→Prop) (x:X):eff ok g ρ d (.b2s x) K=Ih K ρ (g x):=rfl
theorem Ij (ρ:Nat→Option Row) (K:AV→List (Nat×Row)→Prop) (f:Fl) (n:Nat) (xs:List AV):Ih K ρ (.lst f n xs)=(n=1∧opt (u8s xs) (HC K)):=rfl
theorem JT (ρ:Nat→Option Row) (K:AV→List (Nat×Row)→Prop) (r i n:Nat):Ih K ρ (.sl r i n)=yd K (ρ r) i n:=rfl
theorem Ap (K:AV→List (Nat×Row)→Prop) (w:Nat) (es:List AV) (i m:Nat):yd K (some (.arr w es)) i m=(w=1∧opt (u8s (sub es i m)) (HC K)):=rfl
theorem Mo (K:AV→List (Nat×Row)→Prop) (ns:List Int):HC K ns=K (.sc (.string (b2s ns))) []:=rfl
theorem Lz (ok:Oks) (g:X→AV) (ρ:Nat→Option Row) (d:Nat) (K:AV→List (Nat×Row)→Prop) (neg:Bool) (x:X):eff ok g ρ d (.isn neg x) K=tV K ρ neg (g x):=rfl
theorem Dv (ρ:Nat→Option Row) (K:AV→List (Nat×Row)→Prop) (neg:Bool) (f:Fl) (n:Nat) (xs:List AV):tV K ρ neg (.lst f n xs)=pk K neg xs.isEmpty:=rfl
theorem KH (ρ:Nat→Option Row) (K:AV→List (Nat×Row)→Prop) (neg:Bool) (f:Fl) (n:Nat) (xs:List AV):tV K ρ neg (.tg f n xs)=pk K neg xs.isEmpty:=rfl
theorem Nf (ρ:Nat→Option Row) (K:AV→List (Nat×Row)→Prop) (neg:Bool) (r i n:Nat):tV K ρ neg (.sl r i n)=((∃ w es,ρ r=some (.arr w es))∧pk K neg (n==0)):=rfl
theorem Lw (K:AV→List (Nat×Row)→Prop) (neg e:Bool):pk K neg e=K (cond e .ub (.sc (.bool neg))) []:=rfl
theorem OT (x:AV):cond true AV.ub x=AV.ub:=rfl
theorem Qh (x:AV):cond false AV.ub x=x:=rfl
theorem zp {α β:Type} (f:α→β) (xs:List α):(xs.map f).isEmpty=xs.isEmpty:=List.isEmpty_map
theorem LO (ok:Oks) (g:X→AV) (ρ:Nat→Option Row) (d:Nat) (K:AV→List (Nat×Row)→Prop) (n:Nat) (x y:X):eff ok g ρ d (.apq n x y) K=Lc K ρ n (g x) (g y):=rfl
theorem MN (ρ:Nat→Option Row) (K:AV→List (Nat×Row)→Prop) (n r i m:Nat) (y:AV):Lc K ρ n (.sl r i m) y=opt (cY n ρ y) (Ly K (ρ r) r n i m):=rfl
theorem HM (K:AV→List (Nat×Row)→Prop) (w n r i m:Nat) (es ys:List AV):Ly K (some (.arr w es)) r n i m ys=(w=n∧i+m+ys.length≤es.length∧K (.sl r i (m+ys.length)) [(r,.arr w (cG es (i+m) ys))]):=rfl
theorem Li (ok:Oks) (g:X→AV) (ρ:Nat→Option Row) (d:Nat) (K:AV→List (Nat×Row)→Prop) (n:Nat) (x:X) (lo hi:Option X):eff ok g ρ d (.slx n x lo hi) K=zT K ρ n (g x) (lo.map g) (hi.map g):=rfl
theorem JU (ok:Oks) (g:X→AV) (ρ:Nat→Option Row) (d:Nat) (K:AV→List (Nat×Row)→Prop) (n:Nat) (x lo hi mx:X):eff ok g ρ d (.slm n x lo hi mx) K=My K ρ n (g x) (g lo) (g hi) (g mx):=rfl
theorem Km (ρ:Nat→Option Row) (K:AV→List (Nat×Row)→Prop) (n r i m:Nat) (lo hi mx:AV):My K ρ n (.sl r i m) lo hi mx=yu K (ρ r) n m lo hi mx:=rfl
theorem Cj (K:AV→List (Nat×Row)→Prop) (w n m:Nat) (es:List AV) (k1 k2 k3:IntKind) (l h q:Int):yu K (some (.arr w es)) n m (.sc (.int k1 l)) (.sc (.int k2 h)) (.sc (.int k3 q))=(w=n∧0≤l∧l≤h∧h≤q∧q≤(m:Int)∧K .top []):=rfl
theorem Ln (ρ:Nat→Option Row) (K:AV→List (Nat×Row)→Prop) (n r i m:Nat) (lo hi:Option AV):zT K ρ n (.sl r i m) lo hi=tQ K (ρ r) r n i m lo hi:=rfl
theorem Ab (K:AV→List (Nat×Row)→Prop) (w n r i m:Nat) (es:List AV) (lo hi:Option AV):tQ K (some (.arr w es)) r n i m lo hi =
 (w=n∧bOk lo∧bOk hi∧bV lo 0≤bV hi m∧i+bV hi m≤es.length∧K (.sl r (i+bV lo 0) (bV hi m - bV lo 0)) []):=rfl
theorem MI (ok:Oks) (g:X→AV) (ρ:Nat→Option Row) (d:Nat) (K:AV→List (Nat×Row)→Prop) (n:Nat) (z:AV) (x:X):eff ok g ρ d (.clr n z x) K=CD K ρ n z (g x):=rfl
theorem Ke (ρ:Nat→Option Row) (K:AV→List (Nat×Row)→Prop) (n r i m:Nat) (z:AV):CD K ρ n z (.sl r i m)=ui K (ρ r) r n z i m:=rfl
theorem BQ (K:AV→List (Nat×Row)→Prop) (w n r i m:Nat) (es:List AV) (z:AV):ui K (some (.arr w es)) r n z i m=(w=n∧z.width=n∧K (.tup []) [(r,.arr w (cG es i (List.replicate m z)))]):=rfl
theorem Lh (ok:Oks) (g:X→AV) (ρ:Nat→Option Row) (d:Nat) (K:AV→List (Nat×Row)→Prop) (n:Nat) (x y:X):eff ok g ρ d (.cpy n x y) K=zu K ρ n (g x) (g y):=rfl
theorem JN (ρ:Nat→Option Row) (K:AV→List (Nat×Row)→Prop) (n r i m:Nat) (y:AV):zu K ρ n (.sl r i m) y=opt (cY n ρ y) (tp K (ρ r) r n i m):=rfl
theorem zn (K:AV→List (Nat×Row)→Prop) (w n r i m:Nat) (es ys:List AV):tp K (some (.arr w es)) r n i m ys=(w=n∧K (.sc (.int .i64 (min ys.length m:Nat))) [(r,.arr w (cG es i (ys.take (min ys.length m))))]):=rfl
theorem Kc (ok:Oks) (g:X→AV) (ρ:Nat→Option Row) (d:Nat) (K:AV→List (Nat×Row)→Prop) (n bytes:Nat) (mv:Bool) (x y:X):eff ok g ρ d (.app n bytes mv x y) K=rj K ρ d n bytes mv (g x) (g y):=rfl
theorem Kz (ρ:Nat→Option Row) (d:Nat) (K:AV→List (Nat×Row)→Prop) (n bytes:Nat) (mv:Bool) (r i m:Nat) (y:AV):rj K ρ d n bytes mv (.sl r i m) y=(ρ d=none∧opt (kS ρ n mv y) (nK K (ρ r) d n bytes r i m)):=rfl
theorem LA (ρ:Nat→Option Row) (d:Nat) (K:AV→List (Nat×Row)→Prop) (n bytes:Nat) (mv:Bool) (f:Fl) (w:Nat) (es:List AV) (y:AV):rj K ρ d n bytes mv (.tg f w es) y=(ρ d=none∧opt (kS ρ n mv y) (tE K d n bytes w es)):=rfl
theorem FT (d:Nat) (K:AV→List (Nat×Row)→Prop) (n bytes w:Nat) (es ys:List AV) (u:List (Nat×Row)):tE K d n bytes w es (ys,u) =
 (w=n∧0 < ys.length∧(es.length+ys.length) * bytes≤140737488355328∧K (.sl d 0 (es.length+ys.length)) (u++[(d,.arr n (es.map AV.als++ys))])):=by simp [tE,gG]
theorem MO (ρ:Nat→Option Row) (n r m:Nat):kS ρ n true (.sl r 0 m)=sr n r m (ρ r):=rfl
theorem BL (n m r w:Nat) (ys:List AV):sr n r m (some (.arr w ys))=if w=n∧m=ys.length then some (ys,[(r,.dead)]) else none:=rfl
theorem KP (ρ:Nat→Option Row) (n:Nat) (y:AV):kS ρ n false y=jS (cY n ρ y):=rfl
theorem vC (ys:List AV):jS (some ys)=some (ys,[]):=rfl
theorem Al (ρ:Nat→Option Row) (n w:Nat) (f:Fl) (xs:List AV):cY n ρ (.lst f w xs)=if w=n then some xs else none:=rfl
theorem Hg (ρ:Nat→Option Row) (n w:Nat) (f:Fl) (xs:List AV):cY n ρ (.tg f w xs)=if w=n then some xs else none:=rfl
theorem GT (ρ:Nat→Option Row) (n r i k:Nat):cY n ρ (.sl r i k)=kW n (ρ r) i k:=rfl
theorem uS (n w i k:Nat) (es:List AV):kW n (some (.arr w es)) i k=if w=n then some ((sub es i k).map AV.als) else none:=by simp [kW,gG]
theorem Af (d:Nat) (K:AV→List (Nat×Row)→Prop) (n bytes r i m w:Nat) (es ys:List AV) (u:List (Nat×Row)):nK K (some (.arr w es)) d n bytes r i m (ys,u) =
 (w=n∧r ∉ u.map (·.1)∧(m+ys.length) * bytes≤140737488355328∧K (.sl d 0 (m+ys.length)) ((r,.dead)::u++[(d,.arr n (sub es i m++ys))])):=rfl
theorem EU (ok:Oks) (g:X→AV) (ρ:Nat→Option Row) (d:Nat) (K:AV→List (Nat×Row)→Prop) (x:X):eff ok g ρ d (.nilc x) K=qN K ρ (g x):=rfl
theorem Kh (ρ:Nat→Option Row) (K:AV→List (Nat×Row)→Prop) (f:Fl) (y:AV) (o:Nat):qN K ρ (.bp f y o)=K (.bp f y o) []:=rfl
theorem Nr (ρ:Nat→Option Row) (K:AV→List (Nat×Row)→Prop) (r i o:Nat):qN K ρ (.pt r i o)=(cd (ρ r)∧K (.pt r i o) []):=rfl
theorem Qs (ok:Oks) (g:X→AV) (ρ:Nat→Option Row) (d:Nat) (K:AV→List (Nat×Row)→Prop) (x y:X):eff ok g ρ d (.mn x y) K=eMn K (g x) (g y):=rfl
theorem Sv (K:AV→List (Nat×Row)→Prop) (a b:Int):eMn K (.sc (.int .i64 a)) (.sc (.int .i64 b))=K (.sc (.int .i64 (if b < a then b else a))) []:=by simp [eMn]
theorem QO (ok:Oks) (g:X→AV) (ρ:Nat→Option Row) (d:Nat) (K:AV→List (Nat×Row)→Prop) (x y:X):eff ok g ρ d (.mx x y) K=eMx K (g x) (g y):=rfl
theorem RU (K:AV→List (Nat×Row)→Prop) (a b:Int):eMx K (.sc (.int .i64 a)) (.sc (.int .i64 b))=K (.sc (.int .i64 (if a < b then b else a))) []:=by simp [eMx]
theorem Nl (K:AV→Prop) (k:IntKind) (a b:Int):cx .add (.sc (.int k a)) (.sc (.int k b)) K=K (.sc (.int k (k.wrap (a+b)))):=by simp [cx,cQ,ofI]
theorem Nt (K:AV→Prop) (k:IntKind) (a b:Int):cx .sub (.sc (.int k a)) (.sc (.int k b)) K=K (.sc (.int k (k.wrap (a - b)))):=by simp [cx,cQ,ofI]
theorem Lp (K:AV→Prop) (k:IntKind) (a b:Int):cx .mul (.sc (.int k a)) (.sc (.int k b)) K=K (.sc (.int k (k.wrap (a * b)))):=by simp [cx,cQ,ofI]
theorem Nu (K:AV→Prop) (k:IntKind) (a b:Int):cx .quo (.sc (.int k a)) (.sc (.int k b)) K=(b ≠ 0∧K (.sc (.int k (k.wrap (a.tdiv b))))):=by simp [cx,cQ,ofI]
theorem MY (K:AV→Prop) (k:IntKind) (a b:Int):cx .rem (.sc (.int k a)) (.sc (.int k b)) K=(b ≠ 0∧K (.sc (.int k (a.tmod b)))):=by simp [cx,cQ]
theorem MJ (K:AV→Prop) (k:IntKind) (a b:Int):cx .and (.sc (.int k a)) (.sc (.int k b)) K=K (.sc (.int k (bits .and k a b))):=by simp [cx,cQ]
theorem PQ (K:AV→Prop) (k:IntKind) (a b:Int):cx .or (.sc (.int k a)) (.sc (.int k b)) K=K (.sc (.int k (bits .or k a b))):=by simp [cx,cQ]
theorem Md (K:AV→Prop) (k:IntKind) (a b:Int):cx .xor (.sc (.int k a)) (.sc (.int k b)) K=K (.sc (.int k (bits .xor k a b))):=by simp [cx,cQ]
theorem vg (K:AV→Prop) (k:IntKind) (a b:Int):cx .andNot (.sc (.int k a)) (.sc (.int k b)) K=K (.sc (.int k (bits .andNot k a b))):=by simp [cx,cQ]
theorem Nv (K:AV→Prop) (k:IntKind) (a b:Int):cx .eql (.sc (.int k a)) (.sc (.int k b)) K=K (.sc (.bool (a==b))):=by simp [cx,cQ]
theorem No (K:AV→Prop) (k:IntKind) (a b:Int):cx .neq (.sc (.int k a)) (.sc (.int k b)) K=K (.sc (.bool (a != b))):=by simp [cx,cQ]
theorem Kg (K:AV→Prop) (k:IntKind) (a b:Int):cx .lss (.sc (.int k a)) (.sc (.int k b)) K=K (.sc (.bool (decide (a < b)))):=by simp [cx,cQ]
theorem Le (K:AV→Prop) (k:IntKind) (a b:Int):cx .leq (.sc (.int k a)) (.sc (.int k b)) K=K (.sc (.bool (decide (a≤b)))):=by simp [cx,cQ]
theorem MF (K:AV→Prop) (k:IntKind) (a b:Int):cx .gtr (.sc (.int k a)) (.sc (.int k b)) K=K (.sc (.bool (decide (b < a)))):=by simp [cx,cQ]
theorem LU (K:AV→Prop) (k:IntKind) (a b:Int):cx .geq (.sc (.int k a)) (.sc (.int k b)) K=K (.sc (.bool (decide (b≤a)))):=by simp [cx,cQ]
theorem Mc (K:AV→Prop) (k k':IntKind) (a b:Int):cx .shl (.sc (.int k a)) (.sc (.int k' b)) K=dr .shl k a b K:=by simp [cx]
theorem Nh (K:AV→Prop) (k k':IntKind) (a b:Int):cx .shr (.sc (.int k a)) (.sc (.int k' b)) K=dr .shr k a b K:=by simp [cx]
theorem Sd (K:AV→Prop) (k:IntKind) (a b:Int):dr .shl k a b K=(0≤b∧K (.sc (.int k (k.wrap (a * 2 ^ (min b.toNat k.bits)))))):=by simp [dr,ofI]
theorem RS (K:AV→Prop) (k:IntKind) (a b:Int):dr .shr k a b K=(0≤b∧K (.sc (.int k (a.fdiv (2 ^ (min b.toNat k.bits)))))):=by simp [dr]
theorem GR (K:AV→Prop) (a b:ByteArray):cx .add (.sc (.string a)) (.sc (.string b)) K=(a.size+b.size≤9223372036854775807∧K (.sc (.string (a++b)))):=rfl
theorem Ht (K:AV→Prop) (a b:ByteArray):cx .eql (.sc (.string a)) (.sc (.string b)) K=K (.sc (.bool (a.toList==b.toList))):=rfl
theorem Ek (K:AV→Prop) (a b:ByteArray):cx .neq (.sc (.string a)) (.sc (.string b)) K=K (.sc (.bool (!(a.toList==b.toList)))):=rfl
theorem QN (K:AV→Prop) (k:IntKind) (a:Int):unV .neg (.sc (.int k a)) K=K (.sc (.int k (k.wrap (0 - a)))):=by simp [unV,ofI]
theorem Qx (K:AV→Prop) (a:Bool):unV .not (.sc (.bool a)) K=K (.sc (.bool (!a))):=rfl
theorem Ep {α:Type} (x:α) (K:α→Prop):opt (some x) K=K x:=rfl
theorem CL (ok:Oks) (σ:St) (K:St→Prop):cI ok [] K σ=K σ:=rfl
theorem wH (ok:Oks) (σ:St) (K:St→Prop) (d:Option Nat) (o:AOp) (os:List aM):cI ok (⟨d,o,none⟩::os) K σ=eff ok σ.gx σ.row (d.getD 0) o (KJ d (cI ok os K) σ):=rfl
theorem wD (ok:Oks) (σ:St) (K:St→Prop) (d:Option Nat) (o:AOp) (s:Nat) (w:Bool) (os:List aM):cI ok (⟨d,o,some (s,w)⟩::os) K σ =
 dC σ s w (σ.get s) (wg ok d o (cI ok os K)) (IU d (cI ok os K)):=rfl
theorem Ky (ok:Oks) (σ:St) (K:St→Prop) (t n k:Nat) (x:X) (mids:List (Nat×X)) (d f:Nat) (xs:List X):stH ok (.inn t n k x mids d f xs) K σ=FA ok K σ (oq mids (σ.app (some t) .top [])) t n k d f xs (σ.gx x):=rfl
theorem LT (ok:Oks) (σ:St) (K:St→Prop) (d f:Nat) (xs:List X) (rs:List Nat):stH ok (.har d f xs rs) K σ=(σ.fz=true∧callM ⟨ok.p,ok.h,ok.h⟩ σ.row d f (xs.map σ.gx) rs (QA d K σ)):=rfl
theorem LB (σ:St) (K:St→Prop) (d:Nat) (v:AV) (u:List (Nat×Row)):QA d K σ v u=K (σ.app (some d) v u):=rfl
theorem Dx (σ:St):oq [] σ=σ:=rfl
theorem Bk (σ:St) (d:Nat) (x:X) (ms:List (Nat×X)):oq ((d,x)::ms) σ=oq ms (σ.app (some d) (σ.gx x) []):=rfl
theorem Ng (ok:Oks) (σ:St) (K:St→Prop) (t n k d f:Nat) (xs:List X) (r i off:Nat) (τ:St):FA ok K σ τ t n k d f xs (.pt r i off)=FK ok K τ t n k d f xs r i off (σ.row r):=rfl
theorem Gm (ok:Oks) (σ:St) (K:St→Prop) (t n k d f:Nat) (xs:List X) (r i off w:Nat) (es:List AV):FK ok K σ t n k d f xs r i off (some (.arr w es))=(w=n∧opt es[i]? fun y=>opt (dH y off 1 false) (Ds ok K σ t n k d f xs r i off es y)):=rfl
theorem HW (ok:Oks) (σ:St) (K:St→Prop) (t n k d f:Nat) (xs:List X) (r i off w:Nat) (es ys:List AV) (y:AV):Ds ok K σ t n k d f xs r i off es y (.lst .u w ys)=(w=k∧innC ok K σ t n k d f xs r i off es y ys):=rfl
theorem Pn (σ:St) (t len j:Nat):rH σ t len (.t j)=if j=t then .sl 1000000000 0 len else σ.get j:=rfl
theorem Pz (σ:St) (t len:Nat) (a:AV):rH σ t len (.c a)=a:=rfl
theorem Jz (σ:St) (t j:Nat):vy σ t (.t j)=(j=t∨(σ.get j).ments=[]):=rfl
theorem Ip (σ:St) (t:Nat) (a:AV):vy σ t (.c a)=(a.ments=[]):=rfl
theorem MX (ok:Oks) (σ:St) (K:St→Prop) (d:Option Nat) (o:AOp):wg ok d o K σ=eff ok σ.gx σ.row (d.getD 0) o (KJ d K σ):=rfl
theorem Kw (σ:St) (K:St→Prop) (d:Option Nat):IU d K σ=K (σ.app d (.tup []) []):=rfl
theorem yo (σ:St) (K:St→Prop) (d:Option Nat) (v:AV) (u:List (Nat×Row)):KJ d K σ v u=K (σ.app d v u):=rfl
theorem Ns (σ:St) (Q:Ex→St→Prop) (can:List Can):xg Q can σ=Q .nrm (σ.can can):=rfl
theorem AZ (σ:St) (s:Nat) (A B:St→Prop):dC σ s true (.sc (.bool true)) A B=A (σ.know s true):=by simp [dC]
theorem AD (σ:St) (s:Nat) (A B:St→Prop):dC σ s true (.sc (.bool false)) A B=B (σ.know s false):=by simp [dC]
theorem AB (σ:St) (s:Nat) (A B:St→Prop):dC σ s false (.sc (.bool true)) A B=B (σ.know s true):=by simp [dC]
theorem zG (σ:St) (s:Nat) (A B:St→Prop):dC σ s false (.sc (.bool false)) A B=A (σ.know s false):=by simp [dC]
theorem FJ (σ:St) (s:Nat) (w:Bool) (A B:St→Prop):dC σ s w (.tup []) A B=B σ:=rfl
theorem MC (σ:St):σ.can []=σ:=rfl
theorem HO (σ:St) (d:Nat) (ds:List Can):σ.can (.s d::ds)=(σ.canV d (σ.get d)).can ds:=rfl
theorem Bi (σ:St) (far:Bool) (d r j:Nat) (ds:List Can):σ.can (.f far d r j::ds)=(σ.canG far d r j (fP j (aq r σ.rows))).can ds:=rfl
theorem zC (σ:St) (d:Nat) (ds:List Can):σ.can (.r d::ds)=(σ.canW d (σ.get d)).can ds:=rfl
theorem Mu (σ:St) (d r i n:Nat):σ.canW d (.sl r i n)=σ.canSr d r i n:=rfl
theorem Jk (σ:St) (d n:Nat):σ.canW d (.lst .u n [])=σ.canNil d n:=rfl
theorem PG (σ:St) (d n:Nat) (xs:List AV):σ.canW d (.lst .o n xs)=σ:=rfl
theorem Rm (σ:St) (d n:Nat) (xs:List AV):σ.canW d (.lst .m n xs)=σ:=rfl
theorem Ph (σ:St) (d n:Nat) (xs:List AV):σ.canW d (.lst .s n xs)=σ:=rfl
theorem Qd (σ:St) (far:Bool) (d r j n:Nat) (xs:List AV):σ.canG far d r j (.lst .o n xs)=σ:=rfl
theorem Ps (σ:St) (far:Bool) (d r j n:Nat) (xs:List AV):σ.canG far d r j (.lst .m n xs)=σ:=rfl
theorem Qn (σ:St) (far:Bool) (d r j n:Nat) (xs:List AV):σ.canG far d r j (.lst .s n xs)=σ:=rfl
theorem Cx (σ:St) (d:Nat) (ds:List Can):σ.can (.z d::ds)=(σ.canZ d (σ.get d)).can ds:=rfl
theorem LY (σ:St) (d r i m:Nat):σ.canZ d (.sl r i m)=σ.canZr d i m r (aq r σ.rows):=rfl
theorem Gg (σ:St) (d n:Nat) (f:Fl) (xs:List AV):σ.canZ d (.lst f n xs)=σ:=rfl
theorem DW (σ:St) (d:Nat) (cs:List AV):σ.canZ d (.agg cs)=σ.canZc d cs 0 cs:=rfl
theorem Ai (σ:St) (d j:Nat) (all:List AV):σ.canZc d all j []=σ:=by unfold St.canZc; rfl
theorem Jy (σ:St) (d j:Nat) (all cs:List AV) (r i m:Nat):σ.canZc d all j (.sl r i m::cs)=σ.canZcr d all j r i m (aq r σ.rows):=by rw [St.canZc]
theorem Au (σ:St) (d j:Nat) (all cs:List AV) (f:Fl) (n:Nat) (xs:List AV):σ.canZc d all j (.lst f n xs::cs)=σ.canZc d all (j+1) cs:=by rw [St.canZc]; intros; contradiction
theorem Er (σ:St) (d j:Nat) (all cs:List AV) (v:Value):σ.canZc d all j (.sc v::cs)=σ.canZc d all (j+1) cs:=by rw [St.canZc]; intros; contradiction
theorem Cu (env:List (Nat×AV)) (rows:List (Nat×Row)) (d j:Nat) (all:List AV) (r i m q:Nat) (es:List AV):St.canZcr ⟨env,rows⟩ d all j r i m (some (.arr q es))=⟨put d (.agg (gJ all j (.lst .m q (ct (sub es i m))))) env,put r .dead rows⟩:=rfl
theorem zw (σ:St) (far:Bool) (d k j:Nat) (ds:List Can):σ.can (.e far d k j::ds)=(σ.canE far d k j (fP j (some (.var (σ.get k))))).can ds:=rfl
theorem Lm (env:List (Nat×AV)) (rows:List (Nat×Row)) (far:Bool) (d k j q i m:Nat):St.canE ⟨env,rows⟩ far d k j (.sl q i m)=if q=d∨far=false∧1000000000≤q then ⟨env,rows⟩ else ⟨(env.map fun p=>(p.1,p.2.hush d)).map fun p=>(p.1,p.2.ren q d),((del d rows).map fun p=>(p.1,p.2.hush d)).map fun p=>(if p.1=q then d else p.1,p.2.map (·.ren q d))⟩:=rfl
theorem DK (env:List (Nat×AV)) (rows:List (Nat×Row)) (far:Bool) (d k j m:Nat):St.canE ⟨env,rows⟩ far d k j (.lst .u m [])=St.canEN ⟨env,rows⟩ d k j m (aq k (env.map fun p=>(p.1,p.2.hush d))):=rfl
theorem PJ (σ:St) (far:Bool) (d r j n:Nat) (xs:List AV):σ.canE far d r j (.lst .o n xs)=σ:=rfl
theorem PT (σ:St) (far:Bool) (d r j n:Nat) (xs:List AV):σ.canE far d r j (.lst .m n xs)=σ:=rfl
theorem PL (σ:St) (far:Bool) (d r j n:Nat) (xs:List AV):σ.canE far d r j (.lst .s n xs)=σ:=rfl
theorem DI (env:List (Nat×AV)) (rows:List (Nat×Row)) (d k j m:Nat) (cs:List AV):St.canEN ⟨env,rows⟩ d k j m (some (.agg cs))=⟨put k (.agg (gJ cs j (.sl d 0 0))) (env.map fun p=>(p.1,p.2.hush d)),put d (.arr m []) ((del d rows).map fun p=>(p.1,p.2.hush d))⟩:=rfl
theorem zJ (σ:St) (r:Nat) (ds:List Can):σ.can (.w r::ds)=(σ.canX r (aq r σ.rows)).can ds:=rfl
theorem FZ (env:List (Nat×AV)) (rows:List (Nat×Row)) (r n:Nat) (es:List AV):St.canX ⟨env,rows⟩ r (some (.arr n es))=⟨env,put r (.arr n (es.map AV.als)) rows⟩:=by simp [St.canX,gG]
theorem zo (σ:St) (r:Nat):σ.canX r none=σ:=rfl
theorem Hj (σ:St) (r:Nat) (cs:List AV):σ.canX r (some (.var (.agg cs)))=σ.canXc r cs 0 cs:=rfl
theorem AU (σ:St) (r j:Nat) (all:List AV):σ.canXc r all j []=σ:=by unfold St.canXc; rfl
theorem EY (σ:St) (r j:Nat) (all cs:List AV) (q i m:Nat):σ.canXc r all j (.sl q i m::cs)=σ.canXcr r all j q i m (aq q σ.rows):=by rw [St.canXc]
theorem AR (σ:St) (r j:Nat) (all cs:List AV) (f:Fl) (n:Nat) (xs:List AV):σ.canXc r all j (.lst f n xs::cs)=σ.canXc r all (j+1) cs:=by rw [St.canXc]; intros; contradiction
theorem Gu (σ:St) (r j:Nat) (all cs:List AV) (v:Value):σ.canXc r all j (.sc v::cs)=σ.canXc r all (j+1) cs:=by rw [St.canXc]; intros; contradiction
theorem Cb (env:List (Nat×AV)) (rows:List (Nat×Row)) (r j:Nat) (all:List AV) (q i m k:Nat) (es:List AV):St.canXcr ⟨env,rows⟩ r all j q i m (some (.arr k es))=⟨env,put r (.var (.agg (gJ all j (.lst .m k (ct (sub es i m)))))) (put q .dead rows)⟩:=rfl
theorem AX (σ:St) (r:Nat):σ.canX r (some .dead)=σ:=rfl
theorem xy (j:Nat) (cs:List AV):fP j (some (.var (.agg cs)))=pf cs j:=rfl
theorem Bn (q i m:Nat):fP 0 (some (.var (.sl q i m)))=.sl q i m:=rfl
theorem vk (f:Fl) (m:Nat) (xs:List AV):fP 0 (some (.var (.lst f m xs)))=.lst f m xs:=rfl
theorem PI (x:AV) (xs:List AV):pf (x::xs) 0=x:=rfl
theorem Pf (x:AV) (xs:List AV) (j:Nat):pf (x::xs) (j+1)=pf xs j:=rfl
theorem Ql (x y:AV) (xs:List AV):gJ (x::xs) 0 y=y::xs:=rfl
theorem Pi (x y:AV) (xs:List AV) (j:Nat):gJ (x::xs) (j+1) y=x::gJ xs j y:=rfl
theorem MR (env:List (Nat×AV)) (rows:List (Nat×Row)) (far:Bool) (d r j q i m:Nat):St.canG ⟨env,rows⟩ far d r j (.sl q i m)=if q=d∨far=false∧1000000000≤q then ⟨env,rows⟩ else ⟨(env.map fun p=>(p.1,p.2.hush d)).map fun p=>(p.1,p.2.ren q d),((del d rows).map fun p=>(p.1,p.2.hush d)).map fun p=>(if p.1=q then d else p.1,p.2.map (·.ren q d))⟩:=rfl
theorem Hm (env:List (Nat×AV)) (rows:List (Nat×Row)) (far:Bool) (d r j m:Nat):St.canG ⟨env,rows⟩ far d r j (.lst .u m [])=St.canFN ⟨env,rows⟩ d r j m (aq r ((del d rows).map fun p=>(p.1,p.2.hush d))):=rfl
theorem EW (env:List (Nat×AV)) (rows:List (Nat×Row)) (d r j m k:Nat):St.canFN ⟨env,rows⟩ d r j m (some (.var (.lst .u k [])))=⟨env.map fun p=>(p.1,p.2.hush d),put d (.arr m []) (put r (.var (.sl d 0 0)) ((del d rows).map fun p=>(p.1,p.2.hush d)))⟩:=rfl
theorem Fd (env:List (Nat×AV)) (rows:List (Nat×Row)) (d r j m:Nat) (cs:List AV):St.canFN ⟨env,rows⟩ d r j m (some (.var (.agg cs)))=⟨env.map fun p=>(p.1,p.2.hush d),put d (.arr m []) (put r (.var (.agg (gJ cs j (.sl d 0 0)))) ((del d rows).map fun p=>(p.1,p.2.hush d)))⟩:=rfl
theorem MW (σ:St) (d r i n:Nat):σ.canV d (.sl r i n)=σ.canSl d r i n:=rfl
theorem JC (σ:St) (d n:Nat):σ.canV d (.lst .u n [])=σ.canNil d n:=rfl
theorem QE (σ:St) (d n:Nat) (xs:List AV):σ.canV d (.lst .o n xs)=σ:=rfl
theorem Rq (σ:St) (d n:Nat) (xs:List AV):σ.canV d (.lst .m n xs)=σ:=rfl
theorem QS (σ:St) (d n:Nat) (xs:List AV):σ.canV d (.lst .s n xs)=σ:=rfl
theorem PP (env:List (Nat×AV)) (rows:List (Nat×Row)) (k:Nat):St.get ⟨env,rows⟩ k=(aq k env).getD .top:=rfl
theorem QC (env:List (Nat×AV)) (rows:List (Nat×Row)) (k:Nat):St.row ⟨env,rows⟩ k=aq k rows:=rfl
theorem gx_t (σ:St) (n:Nat):σ.gx (.t n)=σ.get n:=rfl
theorem gx_c (σ:St) (a:AV):σ.gx (.c a)=a:=rfl
theorem uA (env:List (Nat×AV)) (rows:List (Nat×Row)) (d:Nat) (v:AV) (u:List (Nat×Row)):St.app ⟨env,rows⟩ (some d) v u=⟨put d v env,aN u rows⟩:=rfl
theorem uy (env:List (Nat×AV)) (rows:List (Nat×Row)) (v:AV) (u:List (Nat×Row)):St.app ⟨env,rows⟩ none v u=⟨env,aN u rows⟩:=rfl
theorem ov (rows:List (Nat×Row)):aN [] rows=rows:=rfl
theorem lZ (p:Nat×Row) (u rows:List (Nat×Row)):aN (p::u) rows=aN u (put p.1 p.2 rows):=rfl
theorem Nk (env:List (Nat×AV)) (rows:List (Nat×Row)) (s:Nat) (b:Bool):St.know ⟨env,rows⟩ s b=⟨put s (.sc (.bool b)) env,rows⟩:=rfl
theorem Ix {α:Type} (k:Nat):aq k ([]:List (Nat×α))=none:=rfl
theorem zN {α:Type} (k j:Nat) (x:α) (l:List (Nat×α)):aq k ((j,x)::l)=if j=k then some x else aq k l:=rfl
theorem xG {α:Type} (k:Nat) (x:α):put k x []=[(k,x)]:=rfl
theorem sT {α:Type} (k j:Nat) (x y:α) (l:List (Nat×α)):put k x ((j,y)::l)=if j=k then (k,x)::l else (j,y)::put k x l:=rfl
theorem Lj {α:Type} (k:Nat):del k ([]:List (Nat×α))=[]:=rfl
theorem GM {α:Type} (k j:Nat) (x:α) (l:List (Nat×α)):del k ((j,x)::l)=if j=k then del k l else (j,x)::del k l:=rfl
theorem getD_some {α:Type} (x y:α):(some x).getD y=x:=rfl
theorem Cg {α:Type} (y:α):(none:Option α).getD y=y:=rfl
theorem JD (env:List (Nat×AV)) (rows:List (Nat×Row)) (d r i n:Nat):St.canSr ⟨env,rows⟩ d r i n=if r=d then ⟨env,rows⟩ else
 ⟨put d (.sl d i n) ((env.map fun p => (p.1, p.2.hush d)).map fun p => (p.1, p.2.ren r d)),
  ((del d rows).map fun p=>(p.1,p.2.hush d)).map fun p=>(if p.1=r then d else p.1,p.2.map (·.ren r d))⟩:=rfl
theorem HU (env:List (Nat×AV)) (rows:List (Nat×Row)) (d i m r q:Nat) (es:List AV):St.canZr ⟨env,rows⟩ d i m r (some (.arr q es))=⟨put d (.lst .m q (ct (sub es i m))) env,put r .dead rows⟩:=rfl
theorem EV (env:List (Nat×AV)) (rows:List (Nat×Row)) (d r i n:Nat):St.canSl ⟨env,rows⟩ d r i n=if r=d∨1000000000≤r then ⟨env,rows⟩ else
 ⟨put d (.sl d i n) ((env.map fun p => (p.1, p.2.hush d)).map fun p => (p.1, p.2.ren r d)),
  ((del d rows).map fun p=>(p.1,p.2.hush d)).map fun p=>(if p.1=r then d else p.1,p.2.map (·.ren r d))⟩:=rfl
theorem Bs (env:List (Nat×AV)) (rows:List (Nat×Row)) (d n:Nat):St.canNil ⟨env,rows⟩ d n =
 ⟨put d (.sl d 0 0) (env.map fun p=>(p.1,p.2.hush d)),put d (.arr n []) ((del d rows).map fun p=>(p.1,p.2.hush d))⟩:=rfl
theorem QV (σ:St) (lv lr:List Nat):σ.res lv lr=⟨lv.map fun k=>(k,σ.get k),lr.map fun r=>(r,(σ.row r).getD .dead)⟩:=rfl
theorem Jq (σ:St) (lv lr:List Nat):σ.resOk lv lr=((∀ k∈lv,∀ r∈(σ.get k).ments,r∈lr)∧(∀ q∈lr,∀ r∈((σ.row q).getD .dead).ments,r∈lr)∧lr.Nodup):=rfl
theorem zj (r:Nat) (x:AV):Row.hush r (.var x)=if r∈x.ments then .dead else .var x:=rfl
theorem zM (r:Nat) (n:Nat) (x:List AV):Row.hush r (.arr n x)=.arr n x:=rfl
theorem vl (r:Nat):Row.hush r .dead=.dead:=rfl
theorem JL (h:AV→AV) (x:AV):Row.map h (.var x)=.var (h x):=rfl
theorem Ha (h:AV→AV) (n:Nat) (x:List AV):Row.map h (.arr n x)=.arr n x:=rfl
theorem Bq (h:AV→AV):Row.map h .dead=.dead:=rfl
theorem ve (x:AV):Row.ments (.var x)=x.ments:=rfl
theorem wu (n:Nat) (x:List AV):Row.ments (.arr n x)=[]:=rfl
theorem uv  : Row.ments .dead=[]:=rfl
theorem MS (r:Nat) (a:AV):a.hush r=if r∈a.ments then .top else a:=rfl
theorem Iz (v:Value):(AV.sc v).ments=[]:=by simp [AV.ments]
theorem Bv (f:Fl) (n:Nat) (x:List AV):(AV.lst f n x).ments=[]:=by simp [AV.ments]
theorem Gj (f:Fl) (n:Nat) (x:List AV):(AV.tg f n x).ments=[]:=by simp [AV.ments]
theorem FF (f:Fl) (x:AV) (n:Nat):(AV.bp f x n).ments=[]:=by simp [AV.ments]
theorem zB  : AV.top.ments=[]:=by simp [AV.ments]
theorem Hi (r i n:Nat):(AV.sl r i n).ments=[r]:=by simp [AV.ments]
theorem FB (r i n:Nat):(AV.pt r i n).ments=[r]:=by simp [AV.ments]
theorem Av (cs:List AV):(AV.agg cs).ments=aD cs:=by simp [AV.ments]
theorem GH (f:Nat) (cs:List AV):(AV.fn f cs).ments=aD cs:=by simp [AV.ments]
theorem BM (cs:List AV):(AV.tup cs).ments=aD cs:=by simp [AV.ments]
theorem vO  : aD []=[]:=by simp [aD]
theorem tP (c:AV) (cs:List AV):aD (c::cs)=c.ments++aD cs:=by simp [aD]
theorem ix (v:Value):(AV.sc v).fz=true:=by simp [AV.fz]
theorem dw (n:Nat) (xs:List AV):(AV.lst .o n xs).fz=fzL xs:=by simp [AV.fz]
theorem fh (cs:List AV):(AV.agg cs).fz=fzL cs:=by simp [AV.fz]
theorem dA  : fzL []=true:=by simp [fzL]
theorem cU (c:AV) (cs:List AV):fzL (c::cs)=(c.fz&&fzL cs):=by simp [fzL]
theorem iw (v:Value):(AV.sc v).ouB=true:=by simp [AV.ouB]
theorem dz (n:Nat) (xs:List AV):(AV.lst .u n xs).ouB=db xs:=by simp [AV.ouB]
theorem fj (cs:List AV):(AV.agg cs).ouB=db cs:=by simp [AV.ouB]
theorem dv  : db []=true:=by simp [db]
theorem da (c:AV) (cs:List AV):db (c::cs)=(c.ouB&&db cs):=by simp [db]
theorem fd (xs:List Int):fzL (xs.map AV.i)=true:=by induction xs <;> simp_all [fzL,AV.fz]
theorem fm (xs:List Bool):fzL (xs.map AV.b)=true:=by induction xs <;> simp_all [fzL,AV.fz]
theorem fg (xs:List ByteArray):fzL (xs.map AV.z)=true:=by induction xs <;> simp_all [fzL,AV.fz]
theorem fq (xs:List Int):fzL (xs.map AV.u8)=true:=by induction xs <;> simp_all [fzL,AV.fz]
theorem du (xs:List Int):fzL (xs.map AV.u64)=true:=by induction xs <;> simp_all [fzL,AV.fz]
theorem fe (xs:List Int):db (xs.map AV.u8)=true:=by induction xs <;> simp_all [db,AV.ouB]
theorem dB (xs:List Int):db (xs.map AV.u64)=true:=by induction xs <;> simp_all [db,AV.ouB]
theorem fl (xs:List Int):db (xs.map AV.i)=true:=by induction xs <;> simp_all [db,AV.ouB]
theorem eZ (xs:List Bool):db (xs.map AV.b)=true:=by induction xs <;> simp_all [db,AV.ouB]
theorem fk (xs:List ByteArray):db (xs.map AV.z)=true:=by induction xs <;> simp_all [db,AV.ouB]
theorem wR (x:AV) (off n:Nat):dH x off n false=x.cells[off]?:=rfl
theorem BW (cs:List AV) (off n:Nat):dH (.agg cs) off n true=if off+n≤cs.length then some (if off=0∧n=cs.length then .agg cs else .agg ((cs.drop off).take n)) else none:=by
 unfold dH
 by_cases h:off+n≤cs.length
 · rw [if_pos rfl,if_pos ⟨rfl,h⟩,if_pos h]; rfl
 · rw [if_pos rfl,if_neg (fun e=>h e.2),if_neg h]
theorem qU (cs:List AV) (off:Nat) (v:Value):setPart (.agg cs) off (.sc v)=if off+1≤cs.length then some (.agg (fill cs off (.sc v))) else none:=rfl
theorem uw (cs:List AV) (off r i n:Nat):setPart (.agg cs) off (.sl r i n)=if off+1≤cs.length then some (.agg (fill cs off (.sl r i n))) else none:=rfl
theorem qI (cs:List AV) (off n:Nat) (f:Fl) (xs:List AV):setPart (.agg cs) off (.lst f n xs)=if off+1≤cs.length then some (.agg (fill cs off (.lst f n xs))) else none:=rfl
theorem rt (cs vs:List AV) (off:Nat):setPart (.agg cs) off (.agg vs)=if off=0∧vs.length=cs.length then some (.agg vs) else if off+vs.length≤cs.length then some (.agg (fill cs off (.agg vs))) else none:=rfl
theorem we (x v:Value):setPart (.sc x) 0 (.sc v)=some (.sc v):=by simp [setPart,AV.isAgg,AV.width]
theorem uF (f:Fl) (n:Nat) (xs:List AV) (f':Fl) (n':Nat) (xs':List AV):setPart (.lst f n xs) 0 (.lst f' n' xs')=some (.lst f' n' xs'):=by simp [setPart,AV.isAgg,AV.width]
theorem pw (f:Fl) (n:Nat) (xs:List AV) (r i k:Nat):setPart (.lst f n xs) 0 (.sl r i k)=some (.sl r i k):=by simp [setPart,AV.isAgg,AV.width]
theorem rh (r' i' k' r i k:Nat):setPart (.sl r' i' k') 0 (.sl r i k)=some (.sl r i k):=by simp [setPart,AV.isAgg,AV.width]
theorem zO (cs:List AV):(AV.agg cs).cells=cs:=rfl
theorem Gr (v:Value):(AV.sc v).cells=[.sc v]:=rfl
theorem Be (f:Fl) (n:Nat) (xs:List AV):(AV.lst f n xs).cells=[.lst f n xs]:=rfl
theorem EN (r i n:Nat):(AV.sl r i n).cells=[.sl r i n]:=rfl
theorem Dh (f:Nat) (cs:List AV):(AV.fn f cs).cells=[.fn f cs]:=rfl
theorem AO (cs:List AV):(AV.agg cs).width=cs.length:=rfl
theorem DP (v:Value):(AV.sc v).width=1:=rfl
theorem CP (f:Fl) (n:Nat) (xs:List AV):(AV.lst f n xs).width=1:=rfl
theorem Ea (r i n:Nat):(AV.sl r i n).width=1:=rfl
theorem HB (f:Nat) (cs:List AV):(AV.fn f cs).width=1:=rfl
theorem Ki (cs:List AV) (off:Nat) (v:AV):fill cs off v=cs.take off++v.cells++cs.drop (off+v.cells.length):=rfl
theorem zk (cs:List AV):jQ cs []=cs:=rfl
theorem xb (cs:List AV) (off:Nat) (v:AV) (l:List (Nat×AV)):jQ cs ((off,v)::l)=jQ (fill cs off v) l:=rfl
theorem MG (rs:List RV) (res:AV) (σ:St):fin rs res .ret σ=opt (RVs.val σ rs) fun xs=>(aD xs).Nodup∧lift σ.row 3 (gb xs)=res:=by
 simp only [fin,opt]; cases RVs.val σ rs <;> simp
theorem LN (rs:List RV) (res:AV) (σ:St):fin rs res .nrm σ=opt (RVs.val σ rs) fun xs=>(aD xs).Nodup∧lift σ.row 3 (gb xs)=res:=by
 simp only [fin,opt]; cases RVs.val σ rs <;> simp
def RB (o:Option Row) (k:Nat) (ag:Bool):Option AV:=match o with
 | some (.var y)=>dH y 0 k ag
 | _=>none
def rvC (σ:St) (a:AV) (k:Nat) (ag:Bool):Option AV:=match a with
 | .pt r 0 0=>RB (σ.row r) k ag
 | _=>none
theorem rv_t (σ:St) (n:Nat):RV.val σ (.t n)=some (σ.get n):=rfl
theorem rv_c (σ:St) (n k:Nat) (ag:Bool):RV.val σ (.c n k ag)=rvC σ (σ.get n) k ag:=by simp only [RV.val]; rfl
theorem Qa (σ:St) (r k:Nat) (ag:Bool):rvC σ (.pt r 0 0) k ag=RB (σ.row r) k ag:=rfl
theorem Hc (y:AV) (k:Nat) (ag:Bool):RB (some (.var y)) k ag=dH y 0 k ag:=rfl
def NU (x:Option AV) (xs:Option (List AV)):Option (List AV):=match x,xs with
 | some x,some xs=>some (x::xs)
 | _,_=>none
theorem LQ (σ:St):RVs.val σ []=some []:=rfl
theorem FE (σ:St) (r:RV) (rs:List RV):RVs.val σ (r::rs)=NU (r.val σ) (RVs.val σ rs):=by simp only [RVs.val]; rfl
theorem wC (x:AV) (xs:List AV):NU (some x) (some xs)=some (x::xs):=rfl
theorem Gi (x:AV):gb [x]=x:=rfl
theorem Jm (x y:AV) (l:List AV):gb (x::y::l)=.tup (x::y::l):=rfl
theorem JF (args:List AV):St.start args=⟨St.start.go 0 args,[]⟩:=rfl
theorem Cy (n:Nat):St.start.go n []=[]:=rfl
theorem vH (n:Nat) (a:AV) (l:List AV):St.start.go n (a::l)=(n,a)::St.start.go (n+1) l:=rfl
theorem aJ (ok:Oks) (a:aj) (rs:List RV) (args:List AV) (res:AV):Qu ok a rs args res=AWP ok a (fin rs res) (St.start args):=rfl
theorem fl1  : Fl.als .u=.m:=rfl
theorem fl2  : Fl.als .o=.o:=rfl
theorem fl3  : Fl.als .s=.s:=rfl
theorem fl4  : Fl.als .m=.m:=rfl
theorem fl5  : Fl.fix .u=.u:=rfl
theorem fl6  : Fl.fix .o=.s:=rfl
theorem fl7  : Fl.fix .s=.s:=rfl
theorem fl8  : Fl.fix .m=.m:=rfl
theorem nU {α β:Type} (f:α→β) (x:α) (l:List α):(x::l).map f=f x::l.map f:=rfl
theorem pJ {α β:Type} (f:α→β):[].map f=[]:=rfl
theorem Cp {α:Type} (l:List α):l++[]=l:=List.append_nil l
theorem qv {α:Type} (l:List α):[]++l=l:=rfl
theorem nv {α:Type} (x:α) (k l:List α):(x::k)++l=x::(k++l):=rfl
theorem ww {α:Type} (x:α) (l:List α):(x::l).length=l.length+1:=rfl
theorem Cc {α:Type}:([]:List α).length=0:=rfl
theorem qk {α β:Type} (f:α→β) (l:List α):(l.map f).length=l.length:=List.length_map ..
theorem PC {α:Type} (x:α) (l:List α):(x::l)[0]?=some x:=rfl
theorem Re {α:Type} (x:α) (l:List α) (n:Nat):(x::l)[n+1]?=l[n]?:=rfl
theorem Ff {α β:Type} (f:α→β) (l:List α) (n:Nat):(l.map f)[n]?=(l[n]?).map f:=List.getElem?_map ..
theorem xE {α β:Type} (f:α→β) (x:α):(some x).map f=some (f x):=rfl
theorem xw {α β:Type} (f:α→β):(none:Option α).map f=none:=rfl
theorem JK {α:Type} (l:List α):l.take 0=[]:=rfl
theorem Em {α:Type} (x:α) (l:List α) (n:Nat):(x::l).take (n+1)=x::l.take n:=rfl
theorem Hd {α:Type} (l:List α):l.drop 0=l:=rfl
theorem HP {α:Type} (x:α) (l:List α) (n:Nat):(x::l).drop (n+1)=l.drop n:=rfl
theorem Ef {α:Type} (n:Nat):([]:List α).drop n=[]:=List.drop_nil
theorem IY {α:Type} (n:Nat):([]:List α).take n=[]:=List.take_nil
theorem Lx (l:List Int):u8s (l.map AV.u8)=some l:=by induction l <;> simp_all [u8s]
theorem vA (n:Nat):((n:Int)).toNat=n:=rfl
theorem EJ {ok:Oks} {a:aj} {Q:Ex→St→Prop} {σ:St} (lv lr:List Nat) (I:St→Prop) (μ:St→Nat) (h0:σ.resOk lv lr) (h1:I (σ.res lv lr)) (h2:∀ τ,I τ→AWP ok a (thn (fun τ'=>τ'.resOk lv lr∧I (τ'.res lv lr)∧μ (τ'.res lv lr) < μ τ) Q) τ):AWP ok (.loop a) Q σ:=by
 simp only [AWP]; exact ⟨lv,lr,I,μ,h0,h1,h2⟩
theorem Qg {ok:Oks} {ρ:Nat→Option Row} {d f:Nat} {args:List AV} {K:AV→List (Nat×Row)→Prop} {res:AV} (h:ok.p f (args.map (snp ρ 4)) res) (hu:res.allU) (hn:∀ p∈(adopt 4 d res).2.1,ρ p.1=none∧p.1 < 1000000000) (hk:K (adopt 4 d res).1 (adopt 4 d res).2.1):gl ok ρ d f args K:=⟨res,h,.inl hu,hn,hk⟩
theorem QH {ok:Oks} {ρ:Nat→Option Row} {d f:Nat} {args:List AV} {K:AV→List (Nat×Row)→Prop} {v:Value} (h:ok.p f (args.map (snp ρ 4)) (.sc v)) (hk:K (.sc v) []):gl ok ρ d f args K:=⟨.sc v,h,.inl (by simp [AV.allU]),by simp [kT],by simpa [kT] using hk⟩
theorem wF {ok:Oks} {ρ:Nat→Option Row} {d f:Nat} {args:List AV} {rs:List Nat} {K:AV→List (Nat×Row)→Prop} {res:AV} {outs:List (Nat×Row)} (h:ok.m f (args.map (AV.rg (cnm rs))) (rs.map (gP ρ rs)) res outs) (h1:rs.Nodup∧(∀ r∈rs,cd (ρ r))∧(∀ r∈rs,∀ q∈nb (ρ r),q∈rs)∧(∀ r∈aD args,r∈rs)) (h2:(outs.map fun p=>bkn d rs p.1).Nodup∧(∀ p∈outs,1000000000≤p.1→p.1 - 1000000000 < rs.length)∧(∀ p∈outs,p.1 < 1000000000→ρ (bkn d rs p.1)=none∧bkn d rs p.1 < 1000000000)) (hk:K (res.rg (bkn d rs)) (cv rs++outs.map (cB d rs))):callM ok ρ d f args rs K:=⟨res,outs,h,h1,h2,hk⟩
theorem lD {α:Type} {e:α→AV} (h:∀ x,(e x).fz=true) (xs:List α):fzL (xs.map e)=true:=by induction xs <;> simp_all [fzL]
theorem lF {α:Type} {e:α→AV} (h:∀ x,(e x).ouB=true) (xs:List α):db (xs.map e)=true:=by induction xs <;> simp_all [db]
theorem ZI {A B : Prop} (a : A) (b : B) : A ∧ B := ⟨a, b⟩
def VS1:=ZI @gD (ZI @gG (ZI @eT (ZI @Pd (ZI @Kr (ZI @Qt (ZI @Kx (ZI @Qm (ZI @Qr (ZI @Rg (ZI @Ct (ZI @Ra (ZI @zZ (ZI @Kq (ZI @FD (ZI @Ir (ZI @CZ (ZI @MM (ZI @wj (ZI @kT (ZI @yn (ZI @yN (ZI @xJ (ZI @yT (ZI @qc (ZI @qa (ZI @pZ (ZI @od (ZI @dQ (ZI @hY (ZI @gV (ZI @QL (ZI @dX (ZI @hG (ZI @iq (ZI @eX (ZI @gm (ZI @gp (ZI @fJ (ZI @fK (ZI @eH (ZI @Ch (ZI @zf (ZI @pP (ZI @ln (ZI @lx (ZI @jw (ZI @xt (ZI @CC (ZI @zt (ZI @AY (ZI @vh (ZI @nu (ZI @Lk (ZI @c_eq (ZI @Sy (ZI @Ro (ZI @LE (ZI @HD (ZI @Qc (ZI @PK (ZI @LM (ZI @JM (ZI @FW (ZI @ED (ZI @Dj (ZI @QK (ZI @PH (ZI @RD (ZI @Sf (ZI @Sn (ZI @Sw (ZI @Sg (ZI @Qj (ZI @Rs (ZI @Sx (ZI @RI (ZI @Mm (ZI @lf (ZI @Ob (ZI @Dd (ZI @Ow (ZI @NO (@IQ)))))))))))))))))))))))))))))))))))))))))))))))))))))))))))))))))))))))))))))))))))
def VS2:=ZI @Gz (ZI @Oj (ZI @FN (ZI @Ox (ZI @OK (ZI @xP (ZI @xH (ZI @uN (ZI @sy (ZI @HA (ZI @DY (ZI @Ic (ZI @sx (ZI @xu (ZI @wv (ZI @xM (ZI @xO (ZI @QB (ZI @Ll (ZI @Qq (ZI @PD (ZI @Mq (ZI @Mt (ZI @QM (ZI @KT (ZI @QT (ZI @Rf (ZI @Jd (ZI @Lu (ZI @Kl (ZI @Da (ZI @KA (ZI @Hz (ZI @Pt (ZI @PW (ZI @PZ (ZI @JH (ZI @Gd (ZI @Si (ZI @QY (ZI @MA (ZI @Kd (ZI @DH (ZI @LS (ZI @Lg (ZI @OX (ZI @La (ZI @LX (ZI @Rn (ZI @Mx (ZI @Qv (ZI @JI (ZI @MD (ZI @Mg (ZI @Cd (ZI @Kf (ZI @Ao (ZI @JR (ZI @vj (ZI @xD (ZI @xI (ZI @So (ZI @DN (ZI @IA (ZI @GJ (ZI @uW (ZI @tT (ZI @HZ (ZI @Bc (ZI @zA (ZI @ra (ZI @Jp (ZI @rm (ZI @Hk (ZI @CT (ZI @MB (ZI @Kp (ZI @Kn (ZI @Ka (ZI @Qw (ZI @QI (ZI @QX (ZI @KE (@Ku)))))))))))))))))))))))))))))))))))))))))))))))))))))))))))))))))))))))))))))))))))
def VS3:=ZI @QG (ZI @PR (ZI @QF (ZI @Ed (ZI @GE (ZI @KX (ZI @Kt (ZI @Pq (ZI @Ru (ZI @JS (ZI @Pb (ZI @Qy (ZI @Qb (ZI @Hq (ZI @KB (ZI @Lr (ZI @Na (ZI @QP (ZI @LF (ZI @GC (ZI @Am (ZI @MP (ZI @Ko (ZI @Rp (ZI @GP (ZI @Sj (ZI @JW (ZI @bV_i (ZI @Kb (ZI @Np (ZI @Nj (ZI @JZ (ZI @LH (ZI @PS (ZI @Me (ZI @Mh (ZI @Lo (ZI @Rh (ZI @GN (ZI @Mf (ZI @RX (ZI @Se (ZI @Sc (ZI @RN (ZI @LR (ZI @LW (ZI @Di (ZI @FQ (ZI @Nq (ZI @Nn (ZI @Ls (ZI @Hy (ZI @HV (ZI @MQ (ZI @zQ (ZI @EH (ZI @Ew (ZI @MT (ZI @KW (ZI @Jj (ZI @KO (ZI @KG (ZI @Ga (ZI @Fw (ZI @Lb (ZI @LV (ZI @Pw (ZI @Mi (ZI @OZ (ZI @Lv (ZI @Kj (ZI @Ij (ZI @JT (ZI @Ap (ZI @Mo (ZI @Lz (ZI @Dv (ZI @KH (ZI @Nf (ZI @Lw (ZI @OT (ZI @Qh (ZI @zp (@LO)))))))))))))))))))))))))))))))))))))))))))))))))))))))))))))))))))))))))))))))))))
def VS4:=ZI @MN (ZI @HM (ZI @Li (ZI @JU (ZI @Km (ZI @Cj (ZI @Ln (ZI @Ab (ZI @MI (ZI @Ke (ZI @BQ (ZI @Lh (ZI @JN (ZI @zn (ZI @Kc (ZI @Kz (ZI @LA (ZI @FT (ZI @MO (ZI @BL (ZI @KP (ZI @vC (ZI @Al (ZI @Hg (ZI @GT (ZI @uS (ZI @Af (ZI @EU (ZI @Kh (ZI @Nr (ZI @Qs (ZI @Sv (ZI @QO (ZI @RU (ZI @Nl (ZI @Nt (ZI @Lp (ZI @Nu (ZI @MY (ZI @MJ (ZI @PQ (ZI @Md (ZI @vg (ZI @Nv (ZI @No (ZI @Kg (ZI @Le (ZI @MF (ZI @LU (ZI @Mc (ZI @Nh (ZI @Sd (ZI @RS (ZI @GR (ZI @Ht (ZI @Ek (ZI @QN (ZI @Qx (ZI @Ep (ZI @CL (ZI @wH (ZI @wD (ZI @Ky (ZI @LT (ZI @LB (ZI @Dx (ZI @Bk (ZI @Ng (ZI @Gm (ZI @HW (ZI @Pn (ZI @Pz (ZI @Jz (ZI @Ip (ZI @MX (ZI @Kw (ZI @yo (ZI @Ns (ZI @AZ (ZI @AD (ZI @AB (ZI @zG (ZI @FJ (@MC)))))))))))))))))))))))))))))))))))))))))))))))))))))))))))))))))))))))))))))))))))
def VS5:=ZI @HO (ZI @Bi (ZI @zC (ZI @Mu (ZI @Jk (ZI @PG (ZI @Rm (ZI @Ph (ZI @Qd (ZI @Ps (ZI @Qn (ZI @Cx (ZI @LY (ZI @Gg (ZI @DW (ZI @Ai (ZI @Jy (ZI @Au (ZI @Er (ZI @Cu (ZI @zw (ZI @Lm (ZI @DK (ZI @PJ (ZI @PT (ZI @PL (ZI @DI (ZI @zJ (ZI @FZ (ZI @zo (ZI @Hj (ZI @AU (ZI @EY (ZI @AR (ZI @Gu (ZI @Cb (ZI @AX (ZI @xy (ZI @Bn (ZI @vk (ZI @PI (ZI @Pf (ZI @Ql (ZI @Pi (ZI @MR (ZI @Hm (ZI @EW (ZI @Fd (ZI @MW (ZI @JC (ZI @QE (ZI @Rq (ZI @QS (ZI @PP (ZI @QC (ZI @gx_t (ZI @gx_c (ZI @uA (ZI @uy (ZI @ov (ZI @lZ (ZI @Nk (ZI @Ix (ZI @zN (ZI @xG (ZI @sT (ZI @Lj (ZI @GM (ZI @getD_some (ZI @Cg (ZI @JD (ZI @HU (ZI @EV (ZI @Bs (ZI @QV (ZI @Jq (ZI @zj (ZI @zM (ZI @vl (ZI @JL (ZI @Ha (ZI @Bq (ZI @ve (@wu)))))))))))))))))))))))))))))))))))))))))))))))))))))))))))))))))))))))))))))))))))
def VS6:=ZI @uv (ZI @MS (ZI @Iz (ZI @Bv (ZI @Gj (ZI @FF (ZI @zB (ZI @Hi (ZI @FB (ZI @Av (ZI @GH (ZI @BM (ZI @vO (ZI @tP (ZI @wR (ZI @BW (ZI @qU (ZI @uw (ZI @qI (ZI @rt (ZI @we (ZI @uF (ZI @pw (ZI @rh (ZI @zO (ZI @Gr (ZI @Be (ZI @EN (ZI @Dh (ZI @AO (ZI @DP (ZI @CP (ZI @Ea (ZI @HB (ZI @Ki (ZI @zk (ZI @xb (ZI @MG (ZI @LN (ZI @rv_t (ZI @rv_c (ZI @Qa (ZI @Hc (ZI @LQ (ZI @FE (ZI @wC (ZI @Gi (ZI @Jm (ZI @JF (ZI @Cy (ZI @vH (ZI @aJ (ZI @fl1 (ZI @fl2 (ZI @fl3 (ZI @fl4 (ZI @fl5 (ZI @fl6 (ZI @fl7 (ZI @fl8 (ZI @nU (ZI @pJ (ZI @Cp (ZI @qv (ZI @nv (ZI @ww (ZI @Cc (ZI @qk (ZI @PC (ZI @Re (ZI @Ff (ZI @xE (ZI @xw (ZI @JK (ZI @Em (ZI @Hd (ZI @HP (ZI @Ef (ZI @IY (ZI @Lx (@vA))))))))))))))))))))))))))))))))))))))))))))))))))))))))))))))))))))))))))))))))
def VA:=ZI @eT (ZI @kT (ZI @yn (ZI @yN (ZI @xJ (ZI @yT (ZI @qc (ZI @qa (ZI @pZ (ZI @od (ZI @eX (ZI @gm (ZI @gp (ZI @eH (ZI @pP (ZI @jw (ZI @nu (ZI @ED (ZI @Dj (ZI @lf (ZI @Ob (ZI @Dd (ZI @Ow (ZI @NO (ZI @IQ (ZI @Gz (ZI @Oj (ZI @FN (ZI @Ox (ZI @OK (ZI @xP (ZI @xH (ZI @uN (ZI @sy (ZI @HA (ZI @DY (ZI @sx (ZI @xM (ZI @xO (ZI @xI (ZI @yo (ZI @uA (ZI @uy (ZI @ov (ZI @lZ (ZI @xG (ZI @sT (ZI @fl5 (ZI @fl6 (ZI @fl7 (ZI @fl8 (ZI @nU (ZI @pJ (ZI @qv (ZI @nv (@qk)))))))))))))))))))))))))))))))))))))))))))))))))))))))
end Vs

