/-
  Part of the proof that the law FnExactSwitchedRoutes returns true at every input; no condition beside the row's own.
-/
import Derived.Calls
import Derived.Below
set_option linter.defProp false
set_option linter.unusedSimpArgs false
set_option linter.unusedVariables false
namespace Vs
open Go
inductive Fl where | o | s | m | u
 deriving DecidableEq
def Fl.als:Fl→Fl
 | .u=>.m
 | f=>f
def Fl.fix:Fl→Fl
 | .o=>.s
 | f=>f
inductive AV where
 | sc (v:Value)
 | lst (f:Fl) (n:Nat) (xs:List AV)
 | tg (f:Fl) (n:Nat) (xs:List AV)
 | agg (cs:List AV)
 | bp (f:Fl) (x:AV) (off:Nat)
 | sl (r i n:Nat)
 | pt (r i off:Nat)
 | fn (f:Nat) (cs:List AV)
 | tup (vs:List AV)
 | ub
 | top
instance:Inhabited AV:=⟨.top⟩
abbrev AV.i (n:Int):AV:=.sc (.int .i64 n)
abbrev AV.u8 (n:Int):AV:=.sc (.int .u8 n)
abbrev AV.u64 (n:Int):AV:=.sc (.int .u64 n)
abbrev AV.b (b:Bool):AV:=.sc (.bool b)
abbrev AV.z (s:ByteArray):AV:=.sc (.string s)
def AV.width:AV→Nat
 | .agg cs=>cs.length
 | .top=>0
 | .tup _=>0
 | _=>1
def AV.isAgg:AV→Bool
 | .agg _=>true
 | _=>false
def AV.cells:AV→List AV
 | .agg cs=>cs
 | .top=>[]
 | .tup _=>[]
 | x=>[x]
def AV.flat:AV→Bool
 | .sc _=>true
 | .agg cs=>cs.all fun | .sc _=>true | _=>false
 | _=>false
mutual
def AV.nrm:AV→AV
 | .sc v=>.sc v
 | .lst _ n xs=>.lst .o n (nrmL xs)
 | .tg _ n xs=>.lst .o n (nrmL xs)
 | .agg cs=>.agg (nrmL cs)
 | .bp _ x off=>.bp .o x.nrm off
 | .fn f cs=>.fn f (nrmL cs)
 | _=>.top
def nrmL:List AV→List AV
 | []=>[]
 | c::cs=>c.nrm::nrmL cs
end
mutual
def AV.als:AV→AV
 | .sc v=>.sc v
 | .lst f n xs=>.lst f.als n (alsL xs)
 | .agg cs=>.agg (alsL cs)
 | _=>.top
def alsL:List AV→List AV
 | []=>[]
 | c::cs=>c.als::alsL cs
end
mutual
def AV.fix:AV→AV
 | .sc v=>.sc v
 | .lst f n xs=>.lst f.fix n (fixL xs)
 | .agg cs=>.agg (fixL cs)
 | .tup cs=>.tup (fixL cs)
 | .fn f cs=>.fn f (fixL cs)
 | _=>.top
def fixL:List AV→List AV
 | []=>[]
 | c::cs=>c.fix::fixL cs
end
mutual
def AV.ments:AV→List Nat
 | .sl r _ _=>[r]
 | .pt r _ _=>[r]
 | .agg cs=>mentsL cs
 | .fn _ cs=>mentsL cs
 | .tup cs=>mentsL cs
 | _=>[]
def mentsL:List AV→List Nat
 | []=>[]
 | c::cs=>c.ments++mentsL cs
end
mutual
def AV.allU:AV→Prop
 | .sc _=>True
 | .lst f _ xs=>f=.u∧allUL xs
 | .agg cs=>allUL cs
 | .tup cs=>allUL cs
 | _=>False
def allUL:List AV→Prop
 | []=>True
 | c::cs=>c.allU∧allUL cs
end
mutual
def AV.allO:AV→Prop
 | .sc _=>True
 | .lst f _ xs=>f=.o∧allOL xs
 | .agg cs=>allOL cs
 | .tup cs=>allOL cs
 | _=>False
def allOL:List AV→Prop
 | []=>True
 | c::cs=>c.allO∧allOL cs
end
mutual
def AV.ou:AV→Prop
 | .sc _=>True
 | .lst f _ xs=>(f=.u∧ouL xs)∨(f=.o∧allOL xs)
 | .agg cs=>ouL cs
 | .tup cs=>ouL cs
 | _=>False
def ouL:List AV→Prop
 | []=>True
 | c::cs=>c.ou∧ouL cs
end
mutual
def AV.noU:AV→Prop
 | .sc _=>True
 | .lst f _ xs=>f ≠ .u∧noUL xs
 | .agg cs=>noUL cs
 | .tup cs=>noUL cs
 | _=>False
def noUL:List AV→Prop
 | []=>True
 | c::cs=>c.noU∧noUL cs
end
def sub (es:List AV) (i n:Nat):List AV:=if i=0∧n=es.length then es else (es.drop i).take n
def over {α:Type} (es:List α) (i:Nat) (ys:List α):List α:=if i+ys.length≤es.length then es.take i++ys++es.drop (i+ys.length) else es
inductive Row where
 | var (x:AV)
 | arr (n:Nat) (es:List AV)
 | dead
def isLive:Option Row→Prop
 | some (.var _)=>True
 | some (.arr _ _)=>True
 | _=>False
def look {α:Type} (k:Nat):List (Nat×α)→Option α
 | []=>none
 | (j,x)::l=>if j=k then some x else look k l
def put {α:Type} (k:Nat) (x:α):List (Nat×α)→List (Nat×α)
 | []=>[(k,x)]
 | (j,y)::l=>if j=k then (k,x)::l else (j,y)::put k x l
def snpSl (o:Option Row) (i n:Nat):AV:=match o with
 | some (.arr w es)=>.lst .o w (nrmL (sub es i n))
 | _=>.top
def snpPt (h:AV→AV) (o:Option Row) (i off:Nat):AV:=match o with
 | some (.var y)=>if i=0 then .bp .o (h y) off else .top
 | some (.arr _ es) => match es[i]? with
   | some y=>.bp .o y.nrm off
   | none=>.top
 | _=>.top
def snp (ρ:Nat→Option Row):Nat→AV→AV
 | 0,_=>.top
 | k + 1, x => match x with
   | .sl r i n=>snpSl (ρ r) i n
   | .pt r i off=>snpPt (snp ρ k) (ρ r) i off
   | .agg cs=>.agg (cs.map (snp ρ k))
   | .fn f cs=>.fn f (cs.map (snp ρ k))
   | x=>x.nrm
def liftSl (o:Option Row) (i n:Nat):AV:=match o with
 | some (.arr w es)=>.lst .u w (sub es i n)
 | _=>.top
def lift (ρ:Nat→Option Row):Nat→AV→AV
 | 0,_=>.top
 | k + 1, x => match x with
   | .sl r i n=>liftSl (ρ r) i n
   | .agg cs=>.agg (cs.map (lift ρ k))
   | .tup cs=>.tup (cs.map (lift ρ k))
   | .sc v=>.sc v
   | .lst f n xs=>.lst f n xs
   | _=>.top
def adopt:Nat→Nat→AV→AV×List (Nat×Row)×Nat
 | 0,c,_=>(.top,[],c)
 | k + 1, c, x => match x with
   | .lst .u n es=>(.sl c 0 es.length,[(c,.arr n (fixL es))],c+1000)
   | .agg cs=>let (l,u,c):=go k c cs; (.agg l,u,c)
   | .tup cs=>let (l,u,c):=go k c cs; (.tup l,u,c)
   | x=>(x.fix,[],c)
where
 go (k:Nat):Nat→List AV→List AV×List (Nat×Row)×Nat
  | c,[]=>([],[],c)
  | c, x :: xs =>
    let (y,u,c):=adopt k c x
    let (ys,us,c):=go k c xs
    (y::ys,u++us,c)
inductive X where
 | t (n:Nat)
 | c (a:AV)
inductive AOp where
 | mv (x:X)
 | pick (c a b:X)
 | alloc (z:AV)
 | box (n:Nat) (x:X)
 | build (z:List AV) (ps:List (Nat×Nat×X))
 | bsl (n:Nat) (fr:Bool) (ps:List X)
 | load (n:Nat) (ag:Bool) (x:X)
 | store (n:Nat) (x v:X)
 | bin (op:BinOp) (x y:X)
 | beq (neg:Bool) (x y:X)
 | un (op:UnOp) (x:X)
 | conv (k:IntKind) (x:X)
 | mkf (f:Nat) (cs:List X)
 | mks (n:Nat) (z:AV) (bytes:Nat) (l c:X)
 | slc (n:Nat) (x:X) (lo hi mx:Option X)
 | slz (x:X) (lo hi:Option X)
 | fad (off:Nat) (x:X)
 | idx (n:Nat) (x i:X)
 | fld (off n:Nat) (ag:Bool) (x:X)
 | stri (x i:X)
 | ext (x:X) (j:Nat)
 | call (f:Nat) (xs:List X)
 | dyn (x:X) (xs:List X)
 | callM (f:Nat) (xs:List X) (rs:List Nat)
 | dynM (x:X) (xs:List X) (rs:List Nat)
 | len (x:X)
 | lenz (x:X)
 | capn (x:X)
 | slg (n:Nat) (x hi:X)
 | apz (n:Nat) (z:AV) (bytes:Nat) (x l:X)
 | b2s (x:X)
 | isn (neg:Bool) (x:X)
 | aeq (neg:Bool) (x y:X)
 | apq (n:Nat) (x y:X)
 | slx (n:Nat) (x:X) (lo hi:Option X)
 | slm (n:Nat) (x lo hi mx:X)
 | clr (n:Nat) (z:AV) (x:X)
 | cpy (n:Nat) (x y:X)
 | ldv (av:List Nat) (n:Nat) (ag:Bool) (x:X)
 | str (n:Nat) (x v:X)
 | lda (n:Nat) (ag:Bool) (x:X)
 | stv (n:Nat) (x v:X)
 | fdv (av:List Nat) (off:Nat) (x:X)
 | idv (av:List Nat) (n:Nat) (x i:X)
 | lnv (av:List Nat) (x:X)
 | stw (r n:Nat) (x v:X)
 | bsm (n:Nat) (ps:List X)
 | app (n bytes:Nat) (mv:Bool) (x y:X)
 | nilc (x:X)
 | mn (x y:X)
 | mx (x y:X)
 | bad
structure AOper where
 d:Option Nat
 op:AOp
 gd:Option (Nat×Bool)
inductive HOp where
 | inn (t n k:Nat) (x:X) (mids:List (Nat×X)) (d f:Nat) (xs:List X)
 | har (d f:Nat) (xs:List X) (rs:List Nat)
inductive Can where
 | s (d:Nat)
 | f (far:Bool) (d r j:Nat)
 | r (d:Nat)
 | z (d:Nat)
 | e (far:Bool) (d k j:Nat)
 | w (r:Nat)
inductive ACode where
 | skip
 | reg (ops:List AOper) (can:List Can)
 | regh (pre:List AOper) (h:HOp) (post:List AOper) (can:List Can)
 | drw (ops:List AOper) (can:List Can)
 | seq (a b:ACode)
 | seqr (a:ACode) (lv lr:List Nat) (b:ACode)
 | seqa (x a:ACode) (lv lr:List Nat) (b:ACode)
 | seqb (a:ACode) (lv:List Nat) (b:ACode)
 | cond (x:X) (a b:ACode)
 | blk (id:Nat) (a:ACode)
 | loop (a:ACode)
 | exit (id:Nat)
 | ret
structure St where
 env:List (Nat×AV)
 rows:List (Nat×Row)
def St.get (σ:St) (k:Nat):AV:=(look k σ.env).getD .top
def St.row (σ:St) (r:Nat):Option Row:=look r σ.rows
def St.gx (σ:St):X→AV
 | .t n=>σ.get n
 | .c a=>a
def putAll (l:List (Nat×Row)) (rows:List (Nat×Row)):List (Nat×Row):=l.foldl (fun rs p=>put p.1 p.2 rs) rows
def St.app (σ:St) (d:Option Nat) (v:AV) (u:List (Nat×Row)):St :=
 { env:=match d with | some d=>put d v σ.env | none=>σ.env,rows:=putAll u σ.rows }
def St.know (σ:St) (s:Nat) (b:Bool):St:={ σ with env:=put s (.b b) σ.env }
def I64 (n:Int):Prop:=-9223372036854775808≤n∧n≤9223372036854775807
def fill (cs:List AV) (off:Nat) (v:AV):List AV:=cs.take off++v.cells++cs.drop (off+v.cells.length)
def fills:List AV→List (Nat×AV)→List AV
 | cs,[]=>cs
 | cs,(off,v)::l=>fills (fill cs off v) l
def part (x:AV) (off n:Nat) (ag:Bool):Option AV :=
 if ag then (if x.isAgg=true∧off+n≤x.width then some (if off=0∧n=x.width then .agg x.cells else .agg ((x.cells.drop off).take n)) else none)
 else x.cells[off]?
def setPart (x:AV) (off:Nat) (v:AV):Option AV :=
 if x.isAgg=true then
  (if v.isAgg = true then (if off = 0 ∧ v.width = x.width then some v else if off + v.width ≤ x.width then some (.agg (fill x.cells off v)) else none)
   else if off+1≤x.width then some (.agg (fill x.cells off v)) else none)
 else if off=0∧v.isAgg=false∧x.width=1 then some v else none
def bits (op:BinOp) (k:IntKind) (x y:Int):Int :=
 let a:=BitVec.ofInt k.bits x
 let b:=BitVec.ofInt k.bits y
 k.wrap (match op with | .and=>(a &&& b).toNat | .or=>(a ||| b).toNat | .xor=>(a ^^^ b).toNat | _=>(a &&& ~~~b).toNat)
def ofI (k:IntKind) (n:Int) (K:AV→Prop):Prop:=K (.sc (.int k (k.wrap n)))
def binInt (op:BinOp) (k:IntKind) (a b:Int) (K:AV→Prop):Prop :=
 match op with
 | .add=>ofI k (a+b) K
 | .sub=>ofI k (a - b) K
 | .mul=>ofI k (a * b) K
 | .quo=>b ≠ 0∧ofI k (a.tdiv b) K
 | .rem=>b ≠ 0∧K (.sc (.int k (a.tmod b)))
 | .and=>K (.sc (.int k (bits .and k a b)))
 | .or=>K (.sc (.int k (bits .or k a b)))
 | .xor=>K (.sc (.int k (bits .xor k a b)))
 | .andNot=>K (.sc (.int k (bits .andNot k a b)))
 | .eql=>K (.b (a==b))
 | .neq=>K (.b (a != b))
 | .lss=>K (.b (decide (a < b)))
 | .leq=>K (.b (decide (a≤b)))
 | .gtr=>K (.b (decide (a > b)))
 | .geq=>K (.b (decide (a ≥ b)))
 | _=>False
def shiftInt (op:BinOp) (k:IntKind) (a y:Int) (K:AV→Prop):Prop :=
 0≤y∧match op with
 | .shl=>ofI k (a * 2 ^ (min y.toNat k.bits)) K
 | .shr=>K (.sc (.int k (a.fdiv (2 ^ (min y.toNat k.bits)))))
 | _=>False
def binV (op:BinOp) (x y:AV) (K:AV→Prop):Prop :=
 match x,y with
 | .sc (.int k a), .sc (.int k' b) =>
   match op with
   | .shl=>shiftInt .shl k a b K
   | .shr=>shiftInt .shr k a b K
   | op=>k=k'∧binInt op k a b K
 | .sc (.string a), .sc (.string b) =>
   match op with
   | .add=>a.size+b.size≤9223372036854775807∧K (.z (a++b))
   | .eql=>K (.b (a.toList==b.toList))
   | .neq=>K (.b (!(a.toList==b.toList)))
   | _=>False
 | _,_=>False
def unV (op:UnOp) (x:AV) (K:AV→Prop):Prop :=
 match op,x with
 | .neg,.sc (.int k n)=>ofI k (0 - n) K
 | .not,.sc (.bool b)=>K (.b (!b))
 | _,_=>False
def gone (rs:List Nat):List (Nat×Row):=rs.map fun r=>(r,.dead)
def elemsSl (n:Nat) (o:Option Row) (i k:Nat):Option (List AV):=match o with
 | some (.arr w es)=>if w=n then some (alsL (sub es i k)) else none
 | _=>none
def elems (n:Nat) (ρ:Nat→Option Row):AV→Option (List AV)
 | .lst _ w xs=>if w=n then some xs else none
 | .tg _ w xs=>if w=n then some xs else none
 | .sl r i k=>elemsSl n (ρ r) i k
 | _=>none
def appMv (n r m:Nat) (o:Option Row):Option (List AV×List (Nat×Row)):=match o with
 | some (.arr w ys)=>if w=n∧m=ys.length then some (ys,[(r,.dead)]) else none
 | _=>none
def appCp (o:Option (List AV)):Option (List AV×List (Nat×Row)):=match o with
 | some ys=>some (ys,[])
 | none=>none
def appY (ρ:Nat→Option Row) (n:Nat) (mv:Bool) (y:AV):Option (List AV×List (Nat×Row)):=match mv,y with
 | true,.sl r 0 m=>appMv n r m (ρ r)
 | _,y=>appCp (elems n ρ y)
def bOk (o:Option AV):Prop:=match o with
 | none=>True
 | some (.sc (.int _ n))=>0≤n
 | _=>False
def bV (o:Option AV) (dflt:Nat):Nat:=match o with
 | some (.sc (.int _ n))=>n.toNat
 | _=>dflt
def u8s:List AV→Option (List Int)
 | []=>some []
 | .sc (.int .u8 n) :: xs => match u8s xs with
   | some ns=>some (n::ns)
   | none=>none
 | _=>none
def b2s (ns:List Int):ByteArray:=ns.foldl (fun r n=>r.push (UInt8.ofNat n.toNat)) ByteArray.empty
def opt {α:Type} (o:Option α) (K:α→Prop):Prop:=match o with
 | some v=>K v
 | none=>False
section
variable (K:AV→List (Nat×Row)→Prop)
def k1 (v:AV):Prop:=K v []
def ePick (c a b:AV):Prop:=match c with
 | .sc (.bool t)=>(t=true→K a [])∧(t=false→K b [])
 | _=>False
def ldArr (off n:Nat) (ag:Bool) (y:AV):Prop:=opt (part y.als off n ag) (k1 K)
def eLoadPt (o:Option Row) (i off n:Nat) (ag:Bool):Prop:=match o with
 | some (.var y)=>i=0∧opt (part y off n ag) (k1 K)
 | some (.arr _ es)=>opt es[i]? (ldArr K off n ag)
 | _=>False
def eLoad (ρ:Nat→Option Row) (n:Nat) (ag:Bool) (x:AV):Prop:=match x with
 | .bp _ y off=>opt (part y off n ag) (k1 K)
 | .pt r i off=>eLoadPt K (ρ r) i off n ag
 | _=>False
def stVar (r:Nat) (y:AV):Prop:=K .top [(r,.var y)]
def stArr2 (u:List (Nat×Row)) (r w i:Nat) (es:List AV) (y:AV):Prop:=K .top (u++[(r,.arr w (es.set i y))])
def stArr (ρ:Nat→Option Row) (r w i off:Nat) (es:List AV) (v y:AV):Prop :=
 r ∉ v.ments∧v.ments.Nodup∧(lift ρ 2 v).width=v.width∧opt (setPart y off (lift ρ 2 v)) (stArr2 K (gone v.ments) r w i es)
def eStorePt (ρ:Nat→Option Row) (o:Option Row) (r i off:Nat) (v:AV):Prop:=match o with
 | some (.var y)=>i=0∧opt (setPart y off v) (stVar K r)
 | some (.arr w es)=>opt es[i]? (stArr K ρ r w i off es v)
 | _=>False
def eStore (ρ:Nat→Option Row) (n:Nat) (x v:AV):Prop:=match x with
 | .pt r i off=>v.width=n∧eStorePt K ρ (ρ r) r i off v
 | _=>False
def iPt (av:List Nat):AV→Prop
 | .sl r _ _=>r ∉ av
 | .lst _ _ _=>True
 | _=>False
def vRow:Option Row→Prop
 | some (.var _)=>True
 | _=>False
def aRow:Option Row→Prop
 | some (.arr _ _)=>True
 | _=>False
def vPt (av:List Nat) (ρ:Nat→Option Row):AV→Prop
 | .pt r _ _=>r ∉ av∧vRow (ρ r)
 | .bp _ _ _=>True
 | _=>False
def aPt (ρ:Nat→Option Row):AV→Prop
 | .pt r _ _=>aRow (ρ r)
 | _=>False
def aPb (ρ:Nat→Option Row):AV→Prop
 | .pt r _ _=>aRow (ρ r)
 | .bp _ _ _=>True
 | _=>False
def wPt (r:Nat) (ρ:Nat→Option Row):AV→Prop
 | .pt q _ _=>q=r∧vRow (ρ q)
 | _=>False
def vPv (ρ:Nat→Option Row):AV→Prop
 | .pt r _ _=>vRow (ρ r)
 | _=>False
def eBeq (neg:Bool) (x y:AV):Prop:=match x,y with
 | .sc (.bool a),.sc (.bool b)=>K (.sc (.bool (if neg then !(a==b) else (a==b)))) []
 | _,_=>False
def eAeq (neg:Bool) (x y:AV):Prop:=match x,y with
 | .agg [.sc (.int .i64 a),.sc (.int .i64 b)],.agg [.sc (.int .i64 c),.sc (.int .i64 e)]=>K (.sc (.bool (if neg then !(a==c&&b==e) else (a==c&&b==e)))) []
 | _,_=>False
def eConv (k:IntKind) (x:AV):Prop:=match x with
 | .sc (.int _ n)=>K (.sc (.int k (k.wrap n))) []
 | _=>False
def eMks (o:Option Row) (d n:Nat) (z:AV) (bytes:Nat) (l c:AV):Prop:=match l,c with
 | .sc (.int .i64 l),.sc (.int .i64 c)=>o=none∧z.width=n∧0≤l∧l≤c∧c * bytes≤140737488355328∧c≤9223372036854775807∧K (.sl d 0 l.toNat) [(d,.arr n (List.replicate l.toNat z))]
 | _,_=>False
def eSlc (ρ:Nat→Option Row) (n:Nat) (x:AV) (lo hi mx:Option AV):Prop:=match x with
 | .lst f w xs=>w=n∧bOk lo∧bOk hi∧bV lo 0≤bV hi xs.length∧bV hi xs.length≤xs.length ∧
  match mx with
  | none=>K (.lst f n (sub xs (bV lo 0) (bV hi xs.length - bV lo 0))) []
  | some m=>hi.isSome∧bOk (some m)∧bV (some m) 0=bV hi xs.length∧K (.tg f n (sub xs (bV lo 0) (bV hi xs.length - bV lo 0))) []
 | .sl r i m=>(∃ es,ρ r=some (.arr n es))∧bOk lo∧bOk hi∧bV lo 0≤bV hi m∧bV hi m≤m∧mx=none∧K (.sl r (i+bV lo 0) (bV hi m - bV lo 0)) []
 | _=>False
def eSlz (x:AV) (lo hi:Option AV):Prop:=match x with
 | .sc (.string s)=>bOk lo∧bOk hi∧bV lo 0≤bV hi s.size∧bV hi s.size≤s.size∧K (.sc (.string (s.extract (bV lo 0) (bV hi s.size)))) []
 | _=>False
def eFad (ρ:Nat→Option Row) (off:Nat) (x:AV):Prop:=match x with
 | .bp f y o=>K (.bp f y (o+off)) []
 | .pt r i o=>isLive (ρ r)∧K (.pt r i (o+off)) []
 | _=>False
def idxK (f:Fl) (y:AV):Prop:=K (.bp f y 0) []
def eIdx (ρ:Nat→Option Row) (n:Nat) (x i:AV):Prop:=match x,i with
 | .lst f w xs,.sc (.int _ j)=>w=n∧0≤j∧opt xs[j.toNat]? (idxK K f.als)
 | .sl r a m,.sc (.int _ j)=>(∃ es,ρ r=some (.arr n es))∧0≤j∧j < m∧K (.pt r (a+j.toNat) 0) []
 | _,_=>False
def eFld (off n:Nat) (ag:Bool) (x:AV):Prop:=x.isAgg=true∧opt (part x off n ag) (k1 K)
def strK (c:UInt8):Prop:=K (.sc (.int .u8 c.toNat)) []
def eStri (x i:AV):Prop:=match x,i with
 | .sc (.string s),.sc (.int _ j)=>0≤j∧opt s[j.toNat]? (strK K)
 | _,_=>False
def eExt (x:AV) (j:Nat):Prop:=match x with
 | .tup vs=>opt vs[j]? (k1 K)
 | _=>False
def eLen (ρ:Nat→Option Row) (x:AV):Prop:=match x with
 | .lst _ _ xs=>K (.i xs.length) []
 | .tg _ _ xs=>K (.i xs.length) []
 | .sl r _ n=>(∃ w es,ρ r=some (.arr w es))∧K (.i n) []
 | _=>False
def eCapn (x:AV):Prop:=match x with
 | .lst .u _ []=>K (.i 0) []
 | _=>False
def eSlg (n:Nat) (x hi:AV):Prop:=match x,hi with
 | .lst .u w [],.sc (.int _ h)=>w=n∧h=0∧K (.lst .u n []) []
 | _,_=>False
def eLenz (x:AV):Prop:=match x with
 | .sc (.string s)=>K (.i s.size) []
 | _=>False
def b2sK (ns:List Int):Prop:=K (.sc (.string (b2s ns))) []
def eB2sR (o:Option Row) (i m:Nat):Prop:=match o with
 | some (.arr w es)=>w=1∧opt (u8s (sub es i m)) (b2sK K)
 | _=>False
def eB2s (ρ:Nat→Option Row) (x:AV):Prop:=match x with
 | .lst _ w xs=>w=1∧opt (u8s xs) (b2sK K)
 | .sl r i m=>eB2sR K (ρ r) i m
 | _=>False
def eClrR (o:Option Row) (r n:Nat) (z:AV) (i m:Nat):Prop:=match o with
 | some (.arr w es)=>w=n∧z.width=n∧K (.tup []) [(r,.arr w (over es i (List.replicate m z)))]
 | _=>False
def eClr (ρ:Nat→Option Row) (n:Nat) (z x:AV):Prop:=match x with
 | .sl r i m=>eClrR K (ρ r) r n z i m
 | _=>False
def eCpyR (o:Option Row) (r n i m:Nat) (ys:List AV):Prop:=match o with
 | some (.arr w es)=>w=n∧K (.i (min ys.length m:Nat)) [(r,.arr w (over es i (ys.take (min ys.length m))))]
 | _=>False
def eCpy (ρ:Nat→Option Row) (n:Nat) (x y:AV):Prop:=match x with
 | .sl r i m=>opt (elems n ρ y) (eCpyR K (ρ r) r n i m)
 | _=>False
def nilK (neg e:Bool):Prop:=K (cond e .ub (.b neg)) []
def eIsn (ρ:Nat→Option Row) (neg:Bool) (x:AV):Prop:=match x with
 | .lst _ _ xs=>nilK K neg xs.isEmpty
 | .tg _ _ xs=>nilK K neg xs.isEmpty
 | .sl r _ n=>(∃ w es,ρ r=some (.arr w es))∧nilK K neg (n==0)
 | _=>False
def appQ (o:Option Row) (r n i m:Nat) (ys:List AV):Prop:=match o with
 | some (.arr w es)=>w=n∧i+m+ys.length≤es.length∧K (.sl r i (m+ys.length)) [(r,.arr w (over es (i+m) ys))]
 | _=>False
def eApq (ρ:Nat→Option Row) (n:Nat) (x y:AV):Prop:=match x with
 | .sl r i m=>opt (elems n ρ y) (appQ K (ρ r) r n i m)
 | _=>False
def eSlxR (o:Option Row) (r n i m:Nat) (lo hi:Option AV):Prop:=match o with
 | some (.arr w es)=>w=n∧bOk lo∧bOk hi∧bV lo 0≤bV hi m∧i+bV hi m≤es.length∧K (.sl r (i+bV lo 0) (bV hi m - bV lo 0)) []
 | _=>False
def eSlx (ρ:Nat→Option Row) (n:Nat) (x:AV) (lo hi:Option AV):Prop:=match x with
 | .sl r i m=>eSlxR K (ρ r) r n i m lo hi
 | _=>False
def eSlmR (o:Option Row) (n m:Nat) (lo hi mx:AV):Prop:=match o,lo,hi,mx with
 | some (.arr w _),.sc (.int _ l),.sc (.int _ h),.sc (.int _ q)=>w=n∧0≤l∧l≤h∧h≤q∧q≤(m:Int)∧K .top []
 | _,_,_,_=>False
def eSlm (ρ:Nat→Option Row) (n:Nat) (x lo hi mx:AV):Prop:=match x with
 | .sl r _ m=>eSlmR K (ρ r) n m lo hi mx
 | _=>False
def appSl (o:Option Row) (d n bytes r i m:Nat) (p:List AV×List (Nat×Row)):Prop:=match o with
 | some (.arr w es)=>w=n∧r ∉ p.2.map (·.1)∧(m+p.1.length) * bytes≤140737488355328∧K (.sl d 0 (m+p.1.length)) ((r,.dead)::p.2++[(d,.arr n (sub es i m++p.1))])
 | _=>False
def appTg (d n bytes w:Nat) (es:List AV) (p:List AV×List (Nat×Row)):Prop :=
 w=n∧0 < p.1.length∧(es.length+p.1.length) * bytes≤140737488355328∧K (.sl d 0 (es.length+p.1.length)) (p.2++[(d,.arr n (alsL es++p.1))])
def eApp (ρ:Nat→Option Row) (d n bytes:Nat) (mv:Bool) (x y:AV):Prop:=match x with
 | .sl r i m=>ρ d=none∧opt (appY ρ n mv y) (appSl K (ρ r) d n bytes r i m)
 | .tg _ w es=>ρ d=none∧opt (appY ρ n mv y) (appTg K d n bytes w es)
 | _=>False
def eApz (o:Option Row) (d n:Nat) (z:AV) (bytes:Nat) (x l:AV):Prop:=match x,l with
 | .lst .u w [],.sc (.int .i64 l)=>o=none∧w=n∧z.width=n∧n=1∧0 < l∧l * bytes≤140737488355328∧K (.sl d 0 l.toNat) [(d,.arr n (List.replicate l.toNat z))]
 | _,_=>False
def eNil (ρ:Nat→Option Row) (x:AV):Prop:=match x with
 | .bp f y o=>K (.bp f y o) []
 | .pt r i o=>isLive (ρ r)∧K (.pt r i o) []
 | _=>False
def eMn (x y:AV):Prop:=match x,y with
 | .sc (.int k a),.sc (.int k' b)=>k=k'∧K (.sc (.int k (if b < a then b else a))) []
 | _,_=>False
def eMx (x y:AV):Prop:=match x,y with
 | .sc (.int k a),.sc (.int k' b)=>k=k'∧K (.sc (.int k (if a < b then b else a))) []
 | _,_=>False
end
structure Oks where
 p:Nat→List AV→AV→Prop
 m:Nat→List AV→List (Nat×Row)→AV→List (Nat×Row)→Prop
 h:Nat→List AV→List (Nat×Row)→AV→List (Nat×Row)→Prop
mutual
def AV.rg (h:Nat→Nat):AV→AV
 | .sl q i n=>.sl (h q) i n
 | .pt q i o=>.pt (h q) i o
 | .agg cs=>.agg (rgL h cs)
 | .fn f cs=>.fn f (rgL h cs)
 | .tup cs=>.tup (rgL h cs)
 | x=>x
def rgL (h:Nat→Nat):List AV→List AV
 | []=>[]
 | c::cs=>c.rg h::rgL h cs
end
def Row.rg (h:Nat→Nat):Row→Row
 | .var x=>.var (x.rg h)
 | x=>x
def pos (r:Nat):List Nat→Nat
 | []=>0
 | x::xs=>if x=r then 0 else pos r xs+1
def cnm (rs:List Nat) (r:Nat):Nat:=1000000000+pos r rs
def bkn (d:Nat) (rs:List Nat) (q:Nat):Nat:=if 1000000000≤q then rs.getD (q - 1000000000) 0 else q+100000 * (d+1)
def rowIn (ρ:Nat→Option Row) (rs:List Nat) (r:Nat):Nat×Row:=(cnm rs r,((ρ r).getD .dead).rg (cnm rs))
def rowBk (d:Nat) (rs:List Nat) (p:Nat×Row):Nat×Row:=(bkn d rs p.1,p.2.rg (bkn d rs))
def oments:Option Row→List Nat
 | some (.var x)=>x.ments
 | _=>[]
section
variable (ok:Oks)
def callM (ρ:Nat→Option Row) (d f:Nat) (args:List AV) (rs:List Nat) (K:AV→List (Nat×Row)→Prop):Prop :=
 ∃ res outs, ok.m f (args.map (AV.rg (cnm rs))) (rs.map (rowIn ρ rs)) res outs ∧
   (rs.Nodup∧(∀ r∈rs,isLive (ρ r))∧(∀ r∈rs,∀ q∈oments (ρ r),q∈rs)∧(∀ r∈mentsL args,r∈rs)) ∧
   ((outs.map fun p => bkn d rs p.1).Nodup ∧ (∀ p ∈ outs, 1000000000 ≤ p.1 → p.1 - 1000000000 < rs.length) ∧
     (∀ p∈outs,p.1 < 1000000000→ρ (bkn d rs p.1)=none∧bkn d rs p.1 < 1000000000)) ∧
   K (res.rg (bkn d rs)) (gone rs++outs.map (rowBk d rs))
def eDynM (ρ:Nat→Option Row) (d:Nat) (x:AV) (xs:List AV) (rs:List Nat) (K:AV→List (Nat×Row)→Prop):Prop:=match x with
 | .fn f cs=>callM ok ρ d f (xs++cs) rs K
 | _=>False
def callA (ρ:Nat→Option Row) (d f:Nat) (args:List AV) (K:AV→List (Nat×Row)→Prop):Prop :=
 ∃ res, ok.p f (args.map (snp ρ 4)) res ∧ (res.allU ∨ mentsL args = [] ∧ (res.ou ∨ res.noU)) ∧ (∀ p ∈ (adopt 4 d res).2.1, ρ p.1 = none ∧ p.1 < 1000000000) ∧
   K (adopt 4 d res).1 (adopt 4 d res).2.1
def eDyn (ρ:Nat→Option Row) (d:Nat) (x:AV) (xs:List AV) (K:AV→List (Nat×Row)→Prop):Prop:=match x with
 | .fn f cs=>callA ok ρ d f (xs++cs) K
 | _=>False
def eff (g:X→AV) (ρ:Nat→Option Row) (d:Nat):AOp→(AV→List (Nat×Row)→Prop)→Prop
 | .mv x,K=>K (g x) []
 | .pick c a b,K=>ePick K (g c) (g a) (g b)
 | .alloc z,K=>ρ d=none∧K (.pt d 0 0) [(d,.var z)]
 | .box n x,K=>ρ d=none∧(g x).width=n∧K (.pt d 0 0) [(d,.var (g x))]
 | .build z ps,K=>(∀ p∈ps,(g p.2.2).width=p.2.1∧p.1+p.2.1≤z.length)∧K (.agg (fills z (ps.map fun p=>(p.1,g p.2.2)))) []
 | .bsl n fr ps,K=>(fr=true→mentsL (ps.map g)=[])∧ρ d=none∧(∀ p∈ps,(g p).width=n)∧(mentsL (ps.map g)).Nodup ∧
  K (.sl d 0 ps.length) (gone (mentsL (ps.map g))++[(d,.arr n ((ps.map g).map (lift ρ 2)))])
 | .load n ag x,K=>eLoad K ρ n ag (g x)
 | .store n x v,K=>eStore K ρ n (g x) (g v)
 | .bin op x y,K=>binV op (g x) (g y) (k1 K)
 | .beq neg x y,K=>eBeq K neg (g x) (g y)
 | .un op x,K=>unV op (g x) (k1 K)
 | .conv k x,K=>eConv K k (g x)
 | .mkf f cs,K=>K (.fn f (cs.map g)) []
 | .mks n z bytes l c,K=>eMks K (ρ d) d n z bytes (g l) (g c)
 | .slc n x lo hi mx,K=>eSlc K ρ n (g x) (lo.map g) (hi.map g) (mx.map g)
 | .slz x lo hi,K=>eSlz K (g x) (lo.map g) (hi.map g)
 | .fad off x,K=>eFad K ρ off (g x)
 | .idx n x i,K=>eIdx K ρ n (g x) (g i)
 | .idv av n x i,K=>iPt av (g x)∧eIdx K ρ n (g x) (g i)
 | .lnv av x,K=>iPt av (g x)∧eLen K ρ (g x)
 | .stw r n x v,K=>wPt r ρ (g x)∧eStore K ρ n (g x) (g v)
 | .fld off n ag x,K=>eFld K off n ag (g x)
 | .stri x i,K=>eStri K (g x) (g i)
 | .ext x j,K=>eExt K (g x) j
 | .call f xs,K=>callA ok ρ d f (xs.map g) K
 | .dyn x xs,K=>eDyn ok ρ d (g x) (xs.map g) K
 | .callM f xs rs,K=>callM ok ρ d f (xs.map g) rs K
 | .dynM x xs rs,K=>eDynM ok ρ d (g x) (xs.map g) rs K
 | .len x,K=>eLen K ρ (g x)
 | .lenz x,K=>eLenz K (g x)
 | .capn x,K=>eCapn K (g x)
 | .slg n x hi,K=>eSlg K n (g x) (g hi)
 | .apz n z bytes x l,K=>eApz K (ρ d) d n z bytes (g x) (g l)
 | .b2s x,K=>eB2s K ρ (g x)
 | .isn neg x,K=>eIsn K ρ neg (g x)
 | .aeq neg x y,K=>eAeq K neg (g x) (g y)
 | .apq n x y,K=>eApq K ρ n (g x) (g y)
 | .slx n x lo hi,K=>eSlx K ρ n (g x) (lo.map g) (hi.map g)
 | .slm n x lo hi mx,K=>eSlm K ρ n (g x) (g lo) (g hi) (g mx)
 | .clr n z x,K=>eClr K ρ n z (g x)
 | .cpy n x y,K=>eCpy K ρ n (g x) (g y)
 | .ldv av n ag x,K=>vPt av ρ (g x)∧eLoad K ρ n ag (g x)
 | .str n x v,K=>aPt ρ (g x)∧(g v).ments=[]∧eStore K ρ n (g x) (g v)
 | .lda n ag x,K=>aPb ρ (g x)∧eLoad K ρ n ag (g x)
 | .stv n x v,K=>vPv ρ (g x)∧eStore K ρ n (g x) (g v)
 | .fdv av off x,K=>vPt av ρ (g x)∧eFad K ρ off (g x)
 | .bsm n ps,K=>(∀ r∈mentsL (ps.map g),aRow (ρ r))∧ρ d=none∧(∀ p∈ps,(g p).width=n)∧(mentsL (ps.map g)).Nodup ∧
  K (.sl d 0 ps.length) (gone (mentsL (ps.map g))++[(d,.arr n ((ps.map g).map (lift ρ 2)))])
 | .app n bytes mv x y,K=>eApp K ρ d n bytes mv (g x) (g y)
 | .nilc x,K=>eNil K ρ (g x)
 | .mn x y,K=>eMn K (g x) (g y)
 | .mx x y,K=>eMx K (g x) (g y)
 | .bad,_=>False
def guardd (σ:St) (s:Nat) (w:Bool) (x:AV) (A B:St→Prop):Prop:=match x with
 | .sc (.bool t)=>(t=w→A (σ.know s w))∧(t=!w→B (σ.know s (!w)))
 | .tup []=>B σ
 | _=>False
def cont (d:Option Nat) (R:St→Prop) (σ:St) (v:AV) (u:List (Nat×Row)):Prop:=R (σ.app d v u)
def goOn (d:Option Nat) (o:AOp) (R:St→Prop) (σ:St):Prop:=eff ok σ.gx σ.row (d.getD 0) o (cont d R σ)
def goBy (d:Option Nat) (R:St→Prop) (σ:St):Prop:=R (σ.app d (.tup []) [])
def stOp (o:AOper) (σ:St) (R:St→Prop):Prop :=
 match o.gd with
 | none=>goOn ok o.d o.op R σ
 | some (s,w)=>guardd σ s w (σ.get s) (goOn ok o.d o.op R) (goBy o.d R)
def stOps:List AOper→(St→Prop)→St→Prop
 | [],K,σ=>K σ
 | o::os,K,σ=>stOp ok o σ (stOps os K)
mutual
def AV.fz:AV→Bool
 | .sc _=>true
 | .lst f _ xs=>(match f with | .o=>fzL xs | _=>false)
 | .agg cs=>fzL cs
 | .tup cs=>fzL cs
 | .fn _ cs=>fzL cs
 | .bp f x _=>(match f with | .o=>x.fz | _=>false)
 | .sl _ _ _=>true
 | .pt _ _ _=>true
 | .top=>true
 | .ub=>true
 | _=>false
def fzL:List AV→Bool
 | []=>true
 | c::cs=>c.fz&&fzL cs
end
mutual
def AV.ouB:AV→Bool
 | .sc _=>true
 | .lst f _ xs=>(match f with | .o=>fzL xs | .u=>ouBL xs | _=>false)
 | .agg cs=>ouBL cs
 | .top=>true
 | _=>false
def ouBL:List AV→Bool
 | []=>true
 | c::cs=>c.ouB&&ouBL cs
end
def Row.fz:Row→Bool
 | .var x=>x.fz
 | .arr _ es=>ouBL es
 | .dead=>true
def St.fz (σ:St):Bool:=σ.env.all (fun p=>p.2.fz)&&σ.rows.all (fun p=>p.2.fz)
def midS:List (Nat×X)→St→St
 | [],σ=>σ
 | (d,x)::ms,σ=>midS ms (σ.app (some d) (σ.gx x) [])
def argI (τ:St) (t len:Nat):X→AV
 | .t j=>if j=t then .sl 1000000000 0 len else τ.get j
 | .c a=>a
def argIok (τ:St) (t:Nat):X→Prop
 | .t j=>j=t∨(τ.get j).ments=[]
 | .c a=>a.ments=[]
def innC (K:St→Prop) (τ:St) (t n k d f:Nat) (xs:List X) (r i off:Nat) (es:List AV) (y:AV) (ys:List AV):Prop :=
 ys.all AV.flat=true∧τ.fz=true∧(∀ x∈xs,argIok τ t x) ∧
 ∃ v ys', ok.m f (xs.map (argI τ t ys.length)) [(1000000000, .arr k ys)] (.sc v) [(1000000000, .arr k ys')] ∧ ys'.all AV.flat = true ∧
   opt (setPart y off (.lst .u k ys')) fun z=>K (τ.app (some d) (.sc v) [(r,.arr n (es.set i z))])
def innL (K:St→Prop) (τ:St) (t n k d f:Nat) (xs:List X) (r i off:Nat) (es:List AV) (y:AV):AV→Prop
 | .lst .u w ys=>w=k∧innC ok K τ t n k d f xs r i off es y ys
 | _=>False
def innR (K:St→Prop) (τ:St) (t n k d f:Nat) (xs:List X) (r i off:Nat):Option Row→Prop
 | some (.arr w es)=>w=n∧opt es[i]? fun y=>opt (part y off 1 false) (innL ok K τ t n k d f xs r i off es y)
 | _=>False
def innP (K:St→Prop) (σ τ:St) (t n k d f:Nat) (xs:List X):AV→Prop
 | .pt r i off=>innR ok K τ t n k d f xs r i off (σ.row r)
 | _=>False
def harK (d:Nat) (K:St→Prop) (σ:St) (v:AV) (u:List (Nat×Row)):Prop:=K (σ.app (some d) v u)
def stH (h:HOp) (K:St→Prop) (σ:St):Prop:=match h with
 | .inn t n k x mids d f xs=>innP ok K σ (midS mids (σ.app (some t) .top [])) t n k d f xs (σ.gx x)
 | .har d f xs rs=>σ.fz=true∧callM ⟨ok.p,ok.h,ok.h⟩ σ.row d f (xs.map σ.gx) rs (harK d K σ)
def AV.hush (r:Nat) (a:AV):AV:=if r∈a.ments then .top else a
mutual
def AV.ren (r d:Nat):AV→AV
 | .sl q i n=>.sl (if q=r then d else q) i n
 | .pt q i o=>.pt (if q=r then d else q) i o
 | .agg cs=>.agg (renL r d cs)
 | .fn f cs=>.fn f (renL r d cs)
 | .tup cs=>.tup (renL r d cs)
 | x=>x
def renL (r d:Nat):List AV→List AV
 | []=>[]
 | c::cs=>c.ren r d::renL r d cs
end
def Row.map (h:AV→AV):Row→Row
 | .var x=>.var (h x)
 | x=>x
def Row.hush (r:Nat):Row→Row
 | .var x=>if r∈x.ments then .dead else .var x
 | x=>x
def del {α:Type} (k:Nat):List (Nat×α)→List (Nat×α)
 | []=>[]
 | (j,x)::l=>if j=k then del k l else (j,x)::del k l
def St.canSl (σ : St) (d r i n : Nat) : St :=
    if r=d∨1000000000≤r then σ
    else
     { env:=put d (.sl d i n) ((σ.env.map fun p=>(p.1,p.2.hush d)).map fun p=>(p.1,p.2.ren r d)),
       rows:=((del d σ.rows).map fun p=>(p.1,p.2.hush d)).map fun p=>(if p.1=r then d else p.1,p.2.map (·.ren r d)) }
def St.canSr (σ : St) (d r i n : Nat) : St :=
    if r=d then σ
    else
     { env:=put d (.sl d i n) ((σ.env.map fun p=>(p.1,p.2.hush d)).map fun p=>(p.1,p.2.ren r d)),
       rows:=((del d σ.rows).map fun p=>(p.1,p.2.hush d)).map fun p=>(if p.1=r then d else p.1,p.2.map (·.ren r d)) }
def St.canNil (σ : St) (d n : Nat) : St :=
    { env:=put d (.sl d 0 0) (σ.env.map fun p=>(p.1,p.2.hush d)),
      rows:=put d (.arr n []) ((del d σ.rows).map fun p=>(p.1,p.2.hush d)) }
def St.canV (σ:St) (d:Nat) (x:AV):St:=match x with
 | .sl r i n=>σ.canSl d r i n
 | .lst .u n []=>σ.canNil d n
 | _=>σ
def St.canW (σ:St) (d:Nat) (x:AV):St:=match x with
 | .sl r i n=>σ.canSr d r i n
 | .lst .u n []=>σ.canNil d n
 | _=>σ
def St.canZr (σ:St) (d i m:Nat) (r:Nat):Option Row→St
 | some (.arr q es)=>⟨put d (.lst .m q (alsL (sub es i m))) σ.env,put r .dead σ.rows⟩
 | _=>σ
def setA:List AV→Nat→AV→List AV
 | [],_,_=>[]
 | _::xs,0,y=>y::xs
 | x::xs,j+1,y=>x::setA xs j y
def St.canZcr (σ:St) (d:Nat) (all:List AV) (j r i m:Nat):Option Row→St
 | some (.arr q es)=>⟨put d (.agg (setA all j (.lst .m q (alsL (sub es i m))))) σ.env,put r .dead σ.rows⟩
 | _=>σ
def St.canZc (σ:St) (d:Nat) (all:List AV):Nat→List AV→St
 | _,[]=>σ
 | j,.sl r i m::_=>σ.canZcr d all j r i m (look r σ.rows)
 | j,_::cs=>σ.canZc d all (j+1) cs
def St.canZ (σ:St) (d:Nat) (x:AV):St:=match x with
 | .sl r i m=>σ.canZr d i m r (look r σ.rows)
 | .agg cs=>σ.canZc d cs 0 cs
 | _=>σ
def nthA:List AV→Nat→AV
 | [],_=>.top
 | x::_,0=>x
 | _::xs,j+1=>nthA xs j
def cellAt (j:Nat):Option Row→AV
 | some (.var (.agg cs))=>nthA cs j
 | some (.var (.sl q i m))=>if j=0 then .sl q i m else .top
 | some (.var (.lst f m xs))=>if j=0 then .lst f m xs else .top
 | _=>.top
def St.canFN (σ:St) (d r j m:Nat):Option Row→St
 | some (.var (.agg cs))=>⟨σ.env.map fun p=>(p.1,p.2.hush d),put d (.arr m []) (put r (.var (.agg (setA cs j (.sl d 0 0)))) ((del d σ.rows).map fun p=>(p.1,p.2.hush d)))⟩
 | some (.var (.lst .u _ []))=>⟨σ.env.map fun p=>(p.1,p.2.hush d),put d (.arr m []) (put r (.var (.sl d 0 0)) ((del d σ.rows).map fun p=>(p.1,p.2.hush d)))⟩
 | _=>σ
def St.canG (σ:St) (far:Bool) (d r j:Nat):AV→St
 | .sl q _ _=>if q=d∨far=false∧1000000000≤q then σ else
  ⟨(σ.env.map fun p=>(p.1,p.2.hush d)).map fun p=>(p.1,p.2.ren q d),((del d σ.rows).map fun p=>(p.1,p.2.hush d)).map fun p=>(if p.1=q then d else p.1,p.2.map (·.ren q d))⟩
 | .lst .u m []=>σ.canFN d r j m (look r ((del d σ.rows).map fun p=>(p.1,p.2.hush d)))
 | _=>σ
def St.canEN (σ:St) (d k j m:Nat):Option AV→St
 | some (.agg cs)=>⟨put k (.agg (setA cs j (.sl d 0 0))) (σ.env.map fun p=>(p.1,p.2.hush d)),put d (.arr m []) ((del d σ.rows).map fun p=>(p.1,p.2.hush d))⟩
 | _=>σ
def St.canE (σ:St) (far:Bool) (d k j:Nat):AV→St
 | .sl q _ _=>if q=d∨far=false∧1000000000≤q then σ else
  ⟨(σ.env.map fun p=>(p.1,p.2.hush d)).map fun p=>(p.1,p.2.ren q d),((del d σ.rows).map fun p=>(p.1,p.2.hush d)).map fun p=>(if p.1=q then d else p.1,p.2.map (·.ren q d))⟩
 | .lst .u m []=>σ.canEN d k j m (look k (σ.env.map fun p=>(p.1,p.2.hush d)))
 | _=>σ
def St.canXcr (σ:St) (r:Nat) (all:List AV) (j q i m:Nat):Option Row→St
 | some (.arr k es)=>⟨σ.env,put r (.var (.agg (setA all j (.lst .m k (alsL (sub es i m)))))) (put q .dead σ.rows)⟩
 | _=>σ
def St.canXc (σ:St) (r:Nat) (all:List AV):Nat→List AV→St
 | _,[]=>σ
 | j,.sl q i m::_=>σ.canXcr r all j q i m (look q σ.rows)
 | j,_::cs=>σ.canXc r all (j+1) cs
def St.canX (σ:St) (r:Nat):Option Row→St
 | some (.arr n es)=>⟨σ.env,put r (.arr n (alsL es)) σ.rows⟩
 | some (.var (.agg cs))=>σ.canXc r cs 0 cs
 | _=>σ
def St.can1 (σ:St):Can→St
 | .s d=>σ.canV d (σ.get d)
 | .f far d r j=>σ.canG far d r j (cellAt j (look r σ.rows))
 | .r d=>σ.canW d (σ.get d)
 | .z d=>σ.canZ d (σ.get d)
 | .e far d k j=>σ.canE far d k j (cellAt j (some (.var (σ.get k))))
 | .w r=>σ.canX r (look r σ.rows)
def St.can (σ:St):List Can→St
 | []=>σ
 | d::ds=>(σ.can1 d).can ds
def Can.low (n:Nat):Can→Bool
 | .s d=>decide (d < n)
 | .f _ d _ _=>decide (d < 1000000000)&&decide (n≤d)
 | .r d=>decide (d < n)
 | .z d=>decide (d < n)
 | .e _ d k _=>decide (d < 1000000000)&&decide (n≤d)&&decide (k < n)
 | .w _=>true
def St.res (σ:St) (lv lr:List Nat):St :=
 { env:=lv.map fun k=>(k,σ.get k),rows:=lr.map fun r=>(r,(σ.row r).getD .dead) }
def Row.ments:Row→List Nat
 | .var x=>x.ments
 | _=>[]
def St.resOk (σ:St) (lv lr:List Nat):Prop :=
 (∀ k∈lv,∀ r∈(σ.get k).ments,r∈lr)∧(∀ q∈lr,∀ r∈((σ.row q).getD .dead).ments,r∈lr)∧lr.Nodup
inductive Ex where
 | nrm
 | ex (id:Nat)
 | ret
def thn (K:St→Prop) (Q:Ex→St→Prop):Ex→St→Prop
 | .nrm,σ=>K σ
 | e,σ=>Q e σ
def inb (id:Nat) (Q:Ex→St→Prop):Ex→St→Prop
 | .ex j,σ=>if j=id then Q .nrm σ else Q (.ex j) σ
 | e,σ=>Q e σ
def tst (x:AV) (A B:Prop):Prop:=match x with
 | .sc (.bool t)=>(t=true→A)∧(t=false→B)
 | .ub=>A∧B
 | _=>False
def endR (Q:Ex→St→Prop) (can:List Can) (σ:St):Prop:=Q .nrm (σ.can can)
def St.rb (σ:St) (lv:List Nat):St:=⟨lv.map fun k=>(k,snp σ.row 4 (σ.get k)),[]⟩
def AV.scal:AV→AV
 | .sc v=>.sc v
 | _=>.top
def St.scal (σ:St):St:=⟨σ.env.map fun p=>(p.1,p.2.scal),[]⟩
def rbQ (Q:Ex→St→Prop) (e:Ex) (τ:St):Prop:=Q e τ.scal
def AWP:ACode→(Ex→St→Prop)→St→Prop
 | .skip,Q,σ=>Q .nrm σ
 | .reg ops can,Q,σ=>stOps ok ops (endR Q can) σ
 | .drw ops can,Q,σ=>stOps ok ops (endR Q can) σ
 | .regh pre h post can,Q,σ=>stOps ok pre (stH ok h (stOps ok post (endR Q can))) σ
 | .seq a b,Q,σ=>AWP a (thn (AWP b Q) Q) σ
 | .seqr a lv lr b,Q,σ=>AWP a (thn (fun τ=>τ.resOk lv lr∧AWP b Q (τ.res lv lr)) Q) σ
 | .seqa x a lv lr b,Q,σ=>AWP x (thn (AWP a (thn (fun τ=>τ.resOk lv lr∧AWP b Q (τ.res lv lr)) Q)) Q) σ
 | .seqb a lv b,Q,σ=>AWP a (thn (fun τ=>AWP b (rbQ Q) (τ.rb lv)) Q) σ
 | .cond x a b,Q,σ=>tst (σ.gx x) (AWP a Q σ) (AWP b Q σ)
 | .blk id a,Q,σ=>AWP a (inb id Q) σ
 | .loop a,Q,σ=>∃ (lv lr:List Nat) (I:St→Prop) (μ:St→Nat),σ.resOk lv lr∧I (σ.res lv lr) ∧
  ∀ τ,I τ→AWP a (thn (fun τ'=>τ'.resOk lv lr∧I (τ'.res lv lr)∧μ (τ'.res lv lr) < μ τ) Q) τ
 | .exit id,Q,σ=>Q (.ex id) σ
 | .ret,Q,σ=>Q .ret σ
inductive RV where
 | t (n:Nat)
 | c (n k:Nat) (ag:Bool)
def RV.val (σ:St):RV→Option AV
 | .t n=>some (σ.get n)
 | .c n k ag => match σ.get n with
   | .pt r 0 0 => match σ.row r with
     | some (.var y)=>part y 0 k ag
     | _=>none
   | _=>none
def RVs.val (σ:St):List RV→Option (List AV)
 | []=>some []
 | r :: rs => match r.val σ, RVs.val σ rs with
   | some x,some xs=>some (x::xs)
   | _,_=>none
def tupd:List AV→AV
 | [x]=>x
 | xs=>.tup xs
def fin (rs:List RV) (res:AV):Ex→St→Prop
 | .nrm,σ | .ret,σ=>∃ xs,RVs.val σ rs=some xs∧(mentsL xs).Nodup∧lift σ.row 3 (tupd xs)=res
 | _,_=>False
def St.start (args:List AV):St:={ env:=go 0 args,rows:=[] }
where go:Nat→List AV→List (Nat×AV)
 | _,[]=>[]
 | n,a::as=>(n,a)::go (n+1) as
def Body (a:ACode) (rs:List RV) (args:List AV) (res:AV):Prop:=AWP ok a (fin rs res) (St.start args)
end
end Vs

namespace Vs
open Go
theorem nrmL_map (xs:List AV):nrmL xs=xs.map AV.nrm:=by
 induction xs with
 | nil=>simp [nrmL]
 | cons x xs ih=>simp [nrmL,ih]
theorem alsL_map (xs:List AV):alsL xs=xs.map AV.als:=by
 induction xs with
 | nil=>simp [alsL]
 | cons x xs ih=>simp [alsL,ih]
theorem fixL_map (xs:List AV):fixL xs=xs.map AV.fix:=by
 induction xs with
 | nil=>simp [fixL]
 | cons x xs ih=>simp [fixL,ih]
theorem renL_map (r d:Nat) (xs:List AV):renL r d xs=xs.map (AV.ren r d):=by
 induction xs with
 | nil=>simp [renL]
 | cons x xs ih=>simp [renL,ih]
theorem allUL_iff (xs:List AV):allUL xs↔∀ x∈xs,x.allU:=by
 induction xs with
 | nil=>simp [allUL]
 | cons x xs ih=>simp [allUL,ih]
theorem snp_sc (ρ:Nat→Option Row) (k:Nat) (v:Value):snp ρ (k+1) (.sc v)=.sc v:=by simp [snp,AV.nrm]
theorem snp_lst (ρ:Nat→Option Row) (k:Nat) (f:Fl) (n:Nat) (xs:List AV):snp ρ (k+1) (.lst f n xs)=.lst .o n (xs.map AV.nrm):=by simp [snp,AV.nrm,nrmL_map]
theorem snp_tg (ρ:Nat→Option Row) (k:Nat) (f:Fl) (n:Nat) (xs:List AV):snp ρ (k+1) (.tg f n xs)=.lst .o n (xs.map AV.nrm):=by simp [snp,AV.nrm,nrmL_map]
theorem snp_agg (ρ:Nat→Option Row) (k:Nat) (cs:List AV):snp ρ (k+1) (.agg cs)=.agg (cs.map (snp ρ k)):=by simp [snp]
theorem snp_fn (ρ:Nat→Option Row) (k:Nat) (f:Nat) (cs:List AV):snp ρ (k+1) (.fn f cs)=.fn f (cs.map (snp ρ k)):=by simp [snp]
theorem snp_bp (ρ:Nat→Option Row) (k:Nat) (f:Fl) (x:AV) (off:Nat):snp ρ (k+1) (.bp f x off)=.bp .o x.nrm off:=by simp [snp,AV.nrm]
theorem snp_sl (ρ:Nat→Option Row) (k:Nat) (r i n:Nat):snp ρ (k+1) (.sl r i n)=snpSl (ρ r) i n:=by simp only [snp]
theorem snpSl_arr (w:Nat) (es:List AV) (i n:Nat):snpSl (some (.arr w es)) i n=.lst .o w ((sub es i n).map AV.nrm):=by simp [snpSl,nrmL_map]
theorem snp_pt (ρ:Nat→Option Row) (k:Nat) (r i off:Nat):snp ρ (k+1) (.pt r i off)=snpPt (snp ρ k) (ρ r) i off:=by simp only [snp]
theorem snpPt_var (h:AV→AV) (y:AV) (off:Nat):snpPt h (some (.var y)) 0 off=.bp .o (h y) off:=by simp [snpPt]
theorem lift_sc (ρ:Nat→Option Row) (k:Nat) (v:Value):lift ρ (k+1) (.sc v)=.sc v:=by simp [lift]
theorem lift_lst (ρ:Nat→Option Row) (k:Nat) (f:Fl) (n:Nat) (xs:List AV):lift ρ (k+1) (.lst f n xs)=.lst f n xs:=by simp [lift]
theorem lift_agg (ρ:Nat→Option Row) (k:Nat) (cs:List AV):lift ρ (k+1) (.agg cs)=.agg (cs.map (lift ρ k)):=by simp [lift]
theorem lift_tup (ρ:Nat→Option Row) (k:Nat) (cs:List AV):lift ρ (k+1) (.tup cs)=.tup (cs.map (lift ρ k)):=by simp [lift]
theorem lift_sl (ρ:Nat→Option Row) (k:Nat) (r i n:Nat):lift ρ (k+1) (.sl r i n)=liftSl (ρ r) i n:=by simp only [lift]
theorem liftSl_arr (w:Nat) (es:List AV) (i n:Nat):liftSl (some (.arr w es)) i n=.lst .u w (sub es i n):=rfl
theorem adopt_sc (k c:Nat) (v:Value):adopt (k+1) c (.sc v)=(.sc v,[],c):=by simp [adopt,AV.fix]
theorem adopt_u (k c n:Nat) (es:List AV):adopt (k+1) c (.lst .u n es)=(.sl c 0 es.length,[(c,.arr n (es.map AV.fix))],c+1000):=by simp [adopt,fixL_map]
theorem adopt_o (k c n:Nat) (es:List AV):adopt (k+1) c (.lst .o n es)=(.lst .s n (es.map AV.fix),[],c):=by simp [adopt,AV.fix,fixL_map,Fl.fix]
theorem adopt_m (k c n:Nat) (es:List AV):adopt (k+1) c (.lst .m n es)=(.lst .m n (es.map AV.fix),[],c):=by simp [adopt,AV.fix,fixL_map,Fl.fix]
theorem adopt_s (k c n:Nat) (es:List AV):adopt (k+1) c (.lst .s n es)=(.lst .s n (es.map AV.fix),[],c):=by simp [adopt,AV.fix,fixL_map,Fl.fix]
theorem adopt_tup (k c:Nat) (xs:List AV):adopt (k+1) c (.tup xs)=(.tup (adopt.go k c xs).1,(adopt.go k c xs).2.1,(adopt.go k c xs).2.2):=by simp [adopt]
theorem adopt_agg (k c:Nat) (xs:List AV):adopt (k+1) c (.agg xs)=(.agg (adopt.go k c xs).1,(adopt.go k c xs).2.1,(adopt.go k c xs).2.2):=by simp [adopt]
theorem adopt_nil (k c:Nat):adopt.go k c []=([],[],c):=by simp [adopt.go]
theorem adopt_cons (k c:Nat) (x:AV) (xs:List AV):adopt.go k c (x::xs) =
 ((adopt k c x).1::(adopt.go k (adopt k c x).2.2 xs).1,(adopt k c x).2.1++(adopt.go k (adopt k c x).2.2 xs).2.1,(adopt.go k (adopt k c x).2.2 xs).2.2):=by simp [adopt.go]
theorem nrm_sc (v:Value):(AV.sc v).nrm=.sc v:=by simp [AV.nrm]
theorem nrm_lst (f:Fl) (n:Nat) (xs:List AV):(AV.lst f n xs).nrm=.lst .o n (xs.map AV.nrm):=by simp [AV.nrm,nrmL_map]
theorem nrm_agg (cs:List AV):(AV.agg cs).nrm=.agg (cs.map AV.nrm):=by simp [AV.nrm,nrmL_map]
theorem nrm_bp (f:Fl) (x:AV) (off:Nat):(AV.bp f x off).nrm=.bp .o x.nrm off:=by simp [AV.nrm]
theorem als_sc (v:Value):(AV.sc v).als=.sc v:=by simp [AV.als]
theorem als_lst (f:Fl) (n:Nat) (xs:List AV):(AV.lst f n xs).als=.lst f.als n (xs.map AV.als):=by simp [AV.als,alsL_map]
theorem als_agg (cs:List AV):(AV.agg cs).als=.agg (cs.map AV.als):=by simp [AV.als,alsL_map]
theorem fix_sc (v:Value):(AV.sc v).fix=.sc v:=by simp [AV.fix]
theorem fix_lst (f:Fl) (n:Nat) (xs:List AV):(AV.lst f n xs).fix=.lst f.fix n (xs.map AV.fix):=by simp [AV.fix,fixL_map]
theorem fix_agg (cs:List AV):(AV.agg cs).fix=.agg (cs.map AV.fix):=by simp [AV.fix,fixL_map]
theorem map_nrm_i (xs:List Int):(xs.map AV.i).map AV.nrm=xs.map AV.i:=by simp [nrm_sc]
theorem map_als_i (xs:List Int):(xs.map AV.i).map AV.als=xs.map AV.i:=by simp [als_sc]
theorem map_fix_i (xs:List Int):(xs.map AV.i).map AV.fix=xs.map AV.i:=by simp [fix_sc]
theorem map_nrm_b (xs:List Bool):(xs.map AV.b).map AV.nrm=xs.map AV.b:=by simp [nrm_sc]
theorem map_als_b (xs:List Bool):(xs.map AV.b).map AV.als=xs.map AV.b:=by simp [als_sc]
theorem map_fix_b (xs:List Bool):(xs.map AV.b).map AV.fix=xs.map AV.b:=by simp [fix_sc]
theorem map_nrm_z (xs:List ByteArray):(xs.map AV.z).map AV.nrm=xs.map AV.z:=by simp [nrm_sc]
theorem map_als_z (xs:List ByteArray):(xs.map AV.z).map AV.als=xs.map AV.z:=by simp [als_sc]
theorem map_fix_z (xs:List ByteArray):(xs.map AV.z).map AV.fix=xs.map AV.z:=by simp [fix_sc]
theorem map_nrm_u8 (xs:List Int):(xs.map AV.u8).map AV.nrm=xs.map AV.u8:=by simp [nrm_sc]
theorem cmp_als_i  : AV.als ∘ AV.i=AV.i:=by funext x; simp [als_sc]
theorem cmp_als_b  : AV.als ∘ AV.b=AV.b:=by funext x; simp [als_sc]
theorem cmp_als_z  : AV.als ∘ AV.z=AV.z:=by funext x; simp [als_sc]
theorem map_als_u8 (xs:List Int):(xs.map AV.u8).map AV.als=xs.map AV.u8:=by simp [als_sc]
theorem map_fix_u8 (xs:List Int):(xs.map AV.u8).map AV.fix=xs.map AV.u8:=by simp [fix_sc]
theorem is_some {α:Type} (a:α):(some a).isSome=true:=rfl
theorem c_eq {α:Type} (a:α):(a=a)=True:=eq_self a
theorem c_and (p:Prop):(True∧p)=p:=true_and p
theorem c_and2 (p:Prop):(p∧True)=p:=and_true p
theorem c_exarr (n:Nat) (xs:List AV):(∃ es,some (Row.arr n xs)=some (Row.arr n es))=True:=by simp
theorem c_exarr2 (n:Nat) (xs:List AV):(∃ w es,some (Row.arr n xs)=some (Row.arr w es))=True:=by simp
theorem c_fimp (p:Prop):(False→p)=True:=by simp
theorem c_timp (p:Prop):(True→p)=p:=by simp
theorem c_ball0 {α:Type} (q:α→Prop):(∀ p∈([]:List α),q p)=True:=by simp
theorem c_ballc {α:Type} (x:α) (l:List α) (q:α→Prop):(∀ p∈x::l,q p)=(q x∧∀ p∈l,q p):=by simp
theorem c_subnil  : sub [] 0 0=[]:=rfl
theorem c_zadd (n:Nat):0+n=n:=Nat.zero_add n
theorem c_addz (n:Nat):n+0=n:=Nat.add_zero n
theorem c_subz (n:Nat):n - 0=n:=Nat.sub_zero n
theorem c_mem0 (d:Nat):(d∈([]:List Nat))=False:=by simp
theorem c_memc (d x:Nat) (l:List Nat):(d∈x::l)=(d=x∨d∈l):=by simp
theorem c_orf (p:Prop):(p∨False)=p:=or_false p
theorem c_for (p:Prop):(False∨p)=p:=false_or p
theorem c_ort (p:Prop):(p∨True)=True:=or_true p
theorem c_tor (p:Prop):(True∨p)=True:=true_or p
theorem c_notf  : (¬ False)=True:=not_false_eq_true
theorem c_nott  : (¬ True)=False:=not_true_eq_false
theorem c_nle (n:Nat):(n≤n)=True:=by simp
theorem c_zle (n:Nat):(0≤n)=True:=by simp
theorem sub_map {α:Type} (f:α→AV) (l:List α):sub (l.map f) 0 l.length=l.map f:=by simp [sub]
theorem rgL_map (h:Nat→Nat) (xs:List AV):rgL h xs=xs.map (AV.rg h):=by
 induction xs with
 | nil=>simp [rgL]
 | cons x xs ih=>simp [rgL,ih]
theorem rg_sc (h:Nat→Nat) (v:Value):(AV.sc v).rg h=.sc v:=by simp [AV.rg]
theorem rg_lst (h:Nat→Nat) (f:Fl) (n:Nat) (xs:List AV):(AV.lst f n xs).rg h=.lst f n xs:=by simp [AV.rg]
theorem rg_tg (h:Nat→Nat) (f:Fl) (n:Nat) (xs:List AV):(AV.tg f n xs).rg h=.tg f n xs:=by simp [AV.rg]
theorem rg_bp (h:Nat→Nat) (f:Fl) (x:AV) (off:Nat):(AV.bp f x off).rg h=.bp f x off:=by simp [AV.rg]
theorem rg_top (h:Nat→Nat):AV.top.rg h=.top:=by simp [AV.rg]
theorem rg_agg (h:Nat→Nat) (cs:List AV):(AV.agg cs).rg h=.agg (cs.map (AV.rg h)):=by simp [AV.rg,rgL_map]
theorem rg_fn (h:Nat→Nat) (f:Nat) (cs:List AV):(AV.fn f cs).rg h=.fn f (cs.map (AV.rg h)):=by simp [AV.rg,rgL_map]
theorem rg_tup (h:Nat→Nat) (cs:List AV):(AV.tup cs).rg h=.tup (cs.map (AV.rg h)):=by simp [AV.rg,rgL_map]
theorem rg_sl (h:Nat→Nat) (q i n:Nat):(AV.sl q i n).rg h=.sl (h q) i n:=by simp [AV.rg]
theorem rg_pt (h:Nat→Nat) (q i n:Nat):(AV.pt q i n).rg h=.pt (h q) i n:=by simp [AV.rg]
theorem rrg_var (h:Nat→Nat) (x:AV):(Row.var x).rg h=.var (x.rg h):=rfl
theorem rrg_arr (h:Nat→Nat) (n:Nat) (xs:List AV):(Row.arr n xs).rg h=.arr n xs:=rfl
theorem rrg_dead (h:Nat→Nat):Row.dead.rg h=.dead:=rfl
theorem pos_cons (r x:Nat) (xs:List Nat):pos r (x::xs)=if x=r then 0 else pos r xs+1:=rfl
theorem cnm_eq (rs:List Nat) (r:Nat):cnm rs r=1000000000+pos r rs:=rfl
theorem bkn_eq (d:Nat) (rs:List Nat) (q:Nat):bkn d rs q=if 1000000000≤q then rs.getD (q - 1000000000) 0 else q+100000 * (d+1):=rfl
theorem rowIn_eq (ρ:Nat→Option Row) (rs:List Nat) (r:Nat):rowIn ρ rs r=(cnm rs r,((ρ r).getD .dead).rg (cnm rs)):=rfl
theorem rowBk_eq (d:Nat) (rs:List Nat) (p:Nat×Row):rowBk d rs p=(bkn d rs p.1,p.2.rg (bkn d rs)):=rfl
theorem oments_var (x:AV):oments (some (.var x))=x.ments:=rfl
theorem oments_arr (n:Nat) (xs:List AV):oments (some (.arr n xs))=[]:=rfl
theorem l_getD0 (x y:Nat) (l:List Nat):(x::l).getD 0 y=x:=rfl
theorem l_getDS (x y:Nat) (l:List Nat) (n:Nat):(x::l).getD (n+1) y=l.getD n y:=by simp
theorem ren_sc (r d:Nat) (v:Value):(AV.sc v).ren r d=.sc v:=by simp [AV.ren]
theorem ren_lst (r d:Nat) (f:Fl) (n:Nat) (xs:List AV):(AV.lst f n xs).ren r d=.lst f n xs:=by simp [AV.ren]
theorem ren_tg (r d:Nat) (f:Fl) (n:Nat) (xs:List AV):(AV.tg f n xs).ren r d=.tg f n xs:=by simp [AV.ren]
theorem ren_bp (r d:Nat) (f:Fl) (x:AV) (off:Nat):(AV.bp f x off).ren r d=.bp f x off:=by simp [AV.ren]
theorem ren_top (r d:Nat):AV.top.ren r d=.top:=by simp [AV.ren]
theorem ren_agg (r d:Nat) (cs:List AV):(AV.agg cs).ren r d=.agg (cs.map (AV.ren r d)):=by simp [AV.ren,renL_map]
theorem ren_fn (r d f:Nat) (cs:List AV):(AV.fn f cs).ren r d=.fn f (cs.map (AV.ren r d)):=by simp [AV.ren,renL_map]
theorem ren_tup (r d:Nat) (cs:List AV):(AV.tup cs).ren r d=.tup (cs.map (AV.ren r d)):=by simp [AV.ren,renL_map]
theorem ren_sl (r d q i n:Nat):(AV.sl q i n).ren r d=.sl (if q=r then d else q) i n:=by simp [AV.ren]
theorem ren_pt (r d q i n:Nat):(AV.pt q i n).ren r d=.pt (if q=r then d else q) i n:=by simp [AV.ren]
theorem awp_skip (ok:Oks) (Q:Ex→St→Prop) (σ:St):AWP ok .skip Q σ=Q .nrm σ:=by simp only [AWP]
theorem awp_reg (ok:Oks) (Q:Ex→St→Prop) (σ:St) (ops:List AOper) (can:List Can):AWP ok (.reg ops can) Q σ=stOps ok ops (endR Q can) σ:=by simp only [AWP]
theorem awp_drw (ok:Oks) (Q:Ex→St→Prop) (σ:St) (ops:List AOper) (can:List Can):AWP ok (.drw ops can) Q σ=stOps ok ops (endR Q can) σ:=by simp only [AWP]
theorem awp_regh (ok:Oks) (Q:Ex→St→Prop) (σ:St) (pre:List AOper) (h:HOp) (post:List AOper) (can:List Can):AWP ok (.regh pre h post can) Q σ=stOps ok pre (stH ok h (stOps ok post (endR Q can))) σ:=by simp only [AWP]
theorem awp_seq (ok:Oks) (Q:Ex→St→Prop) (σ:St) (a b:ACode):AWP ok (.seq a b) Q σ=AWP ok a (thn (AWP ok b Q) Q) σ:=by simp only [AWP]
def awpC (ok:Oks) (v:AV) (a b:ACode) (Q:Ex→St→Prop) (σ:St):Prop:=tst v (AWP ok a Q σ) (AWP ok b Q σ)
theorem awp_cond (ok:Oks) (Q:Ex→St→Prop) (σ:St) (x:X) (a b:ACode):AWP ok (.cond x a b) Q σ=awpC ok (σ.gx x) a b Q σ:=by simp only [AWP,awpC]
theorem awpC_t (ok:Oks) (Q:Ex→St→Prop) (σ:St) (a b:ACode):awpC ok (.sc (.bool true)) a b Q σ=AWP ok a Q σ:=by simp [awpC,tst]
theorem awpC_u (ok:Oks) (Q:Ex→St→Prop) (σ:St) (a b:ACode):awpC ok .ub a b Q σ=(AWP ok a Q σ∧AWP ok b Q σ):=by simp [awpC,tst]
theorem awpC_f (ok:Oks) (Q:Ex→St→Prop) (σ:St) (a b:ACode):awpC ok (.sc (.bool false)) a b Q σ=AWP ok b Q σ:=by simp [awpC,tst]
theorem awp_seqa (ok:Oks) (Q:Ex→St→Prop) (σ:St) (x a:ACode) (lv lr:List Nat) (b:ACode):AWP ok (.seqa x a lv lr b) Q σ=AWP ok x (thn (AWP ok (.seqr a lv lr b) Q) Q) σ:=by simp only [AWP]
theorem awp_seqb (ok:Oks) (Q:Ex→St→Prop) (σ:St) (a:ACode) (lv:List Nat) (b:ACode):AWP ok (.seqb a lv b) Q σ=AWP ok a (thn (fun τ=>AWP ok b (rbQ Q) (τ.rb lv)) Q) σ:=by simp only [AWP]
theorem rb_mk (env:List (Nat×AV)) (rows:List (Nat×Row)) (lv:List Nat):St.rb ⟨env,rows⟩ lv=⟨lv.map fun k=>(k,snp (St.row ⟨env,rows⟩) 4 (St.get ⟨env,rows⟩ k)),[]⟩:=rfl
theorem rbQ_eq (Q:Ex→St→Prop) (e:Ex) (env:List (Nat×AV)) (rows:List (Nat×Row)):rbQ Q e ⟨env,rows⟩=Q e ⟨env.map fun p=>(p.1,p.2.scal),[]⟩:=rfl
theorem scal_sc (v:Value):(AV.sc v).scal=.sc v:=rfl
theorem awp_blk (ok:Oks) (Q:Ex→St→Prop) (σ:St) (id:Nat) (a:ACode):AWP ok (.blk id a) Q σ=AWP ok a (inb id Q) σ:=by simp only [AWP]
theorem awp_exit (ok:Oks) (Q:Ex→St→Prop) (σ:St) (id:Nat):AWP ok (.exit id) Q σ=Q (.ex id) σ:=by simp only [AWP]
theorem awp_ret (ok:Oks) (Q:Ex→St→Prop) (σ:St):AWP ok .ret Q σ=Q .ret σ:=by simp only [AWP]
theorem thn_nrm (K:St→Prop) (Q:Ex→St→Prop) (σ:St):thn K Q .nrm σ=K σ:=rfl
theorem thn_ex (K:St→Prop) (Q:Ex→St→Prop) (i:Nat) (σ:St):thn K Q (.ex i) σ=Q (.ex i) σ:=rfl
theorem thn_ret (K:St→Prop) (Q:Ex→St→Prop) (σ:St):thn K Q .ret σ=Q .ret σ:=rfl
theorem inb_nrm (i:Nat) (Q:Ex→St→Prop) (σ:St):inb i Q .nrm σ=Q .nrm σ:=rfl
theorem inb_ex (i j:Nat) (Q:Ex→St→Prop) (σ:St):inb i Q (.ex j) σ=if j=i then Q .nrm σ else Q (.ex j) σ:=rfl
theorem inb_ret (i:Nat) (Q:Ex→St→Prop) (σ:St):inb i Q .ret σ=Q .ret σ:=rfl
theorem eff_mv (ok:Oks) (g:X→AV) (ρ:Nat→Option Row) (d:Nat) (K:AV→List (Nat×Row)→Prop) (x:X):eff ok g ρ d (.mv x) K=K (g x) []:=rfl
theorem eff_pick (ok:Oks) (g:X→AV) (ρ:Nat→Option Row) (d:Nat) (K:AV→List (Nat×Row)→Prop) (c a b:X):eff ok g ρ d (.pick c a b) K=ePick K (g c) (g a) (g b):=rfl
theorem ePick_t (K:AV→List (Nat×Row)→Prop) (a b:AV):ePick K (.sc (.bool true)) a b=K a []:=by simp [ePick]
theorem ePick_f (K:AV→List (Nat×Row)→Prop) (a b:AV):ePick K (.sc (.bool false)) a b=K b []:=by simp [ePick]
theorem eff_alloc (ok:Oks) (g:X→AV) (ρ:Nat→Option Row) (d:Nat) (K:AV→List (Nat×Row)→Prop) (z:AV):eff ok g ρ d (.alloc z) K=(ρ d=none∧K (.pt d 0 0) [(d,.var z)]):=rfl
theorem eff_box (ok:Oks) (g:X→AV) (ρ:Nat→Option Row) (d:Nat) (K:AV→List (Nat×Row)→Prop) (n:Nat) (x:X):eff ok g ρ d (.box n x) K=(ρ d=none∧(g x).width=n∧K (.pt d 0 0) [(d,.var (g x))]):=rfl
theorem eff_build (ok:Oks) (g:X→AV) (ρ:Nat→Option Row) (d:Nat) (K:AV→List (Nat×Row)→Prop) (z:List AV) (ps:List (Nat×Nat×X)):eff ok g ρ d (.build z ps) K =
 ((∀ p∈ps,(g p.2.2).width=p.2.1∧p.1+p.2.1≤z.length)∧K (.agg (fills z (ps.map fun p=>(p.1,g p.2.2)))) []):=rfl
theorem eff_bsl (ok:Oks) (g:X→AV) (ρ:Nat→Option Row) (d:Nat) (K:AV→List (Nat×Row)→Prop) (n:Nat) (fr:Bool) (ps:List X):eff ok g ρ d (.bsl n fr ps) K=((fr=true→mentsL (ps.map g)=[])∧ρ d=none∧(∀ p∈ps,(g p).width=n)∧(mentsL (ps.map g)).Nodup ∧
 K (.sl d 0 ps.length) (gone (mentsL (ps.map g))++[(d,.arr n ((ps.map g).map (lift ρ 2)))])):=rfl
theorem isLive_var (x:AV):isLive (some (.var x))=True:=rfl
theorem isLive_arr (n:Nat) (x:List AV):isLive (some (.arr n x))=True:=rfl
theorem gone_eq (rs:List Nat):gone rs=rs.map fun r=>(r,.dead):=rfl
theorem k1_eq (K:AV→List (Nat×Row)→Prop) (v:AV):k1 K v=K v []:=rfl
theorem eff_load (ok:Oks) (g:X→AV) (ρ:Nat→Option Row) (d:Nat) (K:AV→List (Nat×Row)→Prop) (n:Nat) (ag:Bool) (x:X):eff ok g ρ d (.load n ag x) K=eLoad K ρ n ag (g x):=rfl
theorem eLoad_bp (ρ:Nat→Option Row) (K:AV→List (Nat×Row)→Prop) (n:Nat) (ag:Bool) (f:Fl) (y:AV) (off:Nat):eLoad K ρ n ag (.bp f y off)=opt (part y off n ag) (k1 K):=rfl
theorem eLoad_pt (ρ:Nat→Option Row) (K:AV→List (Nat×Row)→Prop) (n:Nat) (ag:Bool) (r i off:Nat):eLoad K ρ n ag (.pt r i off)=eLoadPt K (ρ r) i off n ag:=rfl
theorem eLoadPt_var (K:AV→List (Nat×Row)→Prop) (y:AV) (i off n:Nat) (ag:Bool):eLoadPt K (some (.var y)) i off n ag=(i=0∧opt (part y off n ag) (k1 K)):=rfl
theorem eLoadPt_arr (K:AV→List (Nat×Row)→Prop) (w:Nat) (es:List AV) (i off n:Nat) (ag:Bool):eLoadPt K (some (.arr w es)) i off n ag=opt es[i]? (ldArr K off n ag):=rfl
theorem ldArr_eq (K:AV→List (Nat×Row)→Prop) (off n:Nat) (ag:Bool) (y:AV):ldArr K off n ag y=opt (part y.als off n ag) (k1 K):=rfl
theorem eff_store (ok:Oks) (g:X→AV) (ρ:Nat→Option Row) (d:Nat) (K:AV→List (Nat×Row)→Prop) (n:Nat) (x v:X):eff ok g ρ d (.store n x v) K=eStore K ρ n (g x) (g v):=rfl
theorem eStore_pt (ρ:Nat→Option Row) (K:AV→List (Nat×Row)→Prop) (n r i off:Nat) (v:AV):eStore K ρ n (.pt r i off) v=(v.width=n∧eStorePt K ρ (ρ r) r i off v):=rfl
theorem eStorePt_var (ρ:Nat→Option Row) (K:AV→List (Nat×Row)→Prop) (y:AV) (r i off:Nat) (v:AV):eStorePt K ρ (some (.var y)) r i off v=(i=0∧opt (setPart y off v) (stVar K r)):=rfl
theorem stVar_eq (K:AV→List (Nat×Row)→Prop) (r:Nat) (y:AV):stVar K r y=K .top [(r,.var y)]:=rfl
theorem eStorePt_arr (ρ:Nat→Option Row) (K:AV→List (Nat×Row)→Prop) (w:Nat) (es:List AV) (r i off:Nat) (v:AV):eStorePt K ρ (some (.arr w es)) r i off v=opt es[i]? (stArr K ρ r w i off es v):=rfl
theorem stArr_eq (ρ:Nat→Option Row) (K:AV→List (Nat×Row)→Prop) (w:Nat) (es:List AV) (r i off:Nat) (v y:AV):stArr K ρ r w i off es v y =
 (r ∉ v.ments∧v.ments.Nodup∧(lift ρ 2 v).width=v.width∧opt (setPart y off (lift ρ 2 v)) (stArr2 K (gone v.ments) r w i es)):=rfl
theorem stArr2_eq (K:AV→List (Nat×Row)→Prop) (u:List (Nat×Row)) (r w i:Nat) (es:List AV) (y:AV):stArr2 K u r w i es y=K .top (u++[(r,.arr w (es.set i y))]):=rfl
theorem eff_bsm (ok:Oks) (g:X→AV) (ρ:Nat→Option Row) (d:Nat) (K:AV→List (Nat×Row)→Prop) (n:Nat) (ps:List X):eff ok g ρ d (.bsm n ps) K=((∀ r∈mentsL (ps.map g),aRow (ρ r))∧ρ d=none∧(∀ p∈ps,(g p).width=n)∧(mentsL (ps.map g)).Nodup ∧
 K (.sl d 0 ps.length) (gone (mentsL (ps.map g))++[(d,.arr n ((ps.map g).map (lift ρ 2)))])):=rfl
theorem eff_stv (ok:Oks) (g:X→AV) (ρ:Nat→Option Row) (d:Nat) (K:AV→List (Nat×Row)→Prop) (n:Nat) (x v:X):eff ok g ρ d (.stv n x v) K=(vPv ρ (g x)∧eStore K ρ n (g x) (g v)):=rfl
theorem eff_lda (ok:Oks) (g:X→AV) (ρ:Nat→Option Row) (d:Nat) (K:AV→List (Nat×Row)→Prop) (n:Nat) (ag:Bool) (x:X):eff ok g ρ d (.lda n ag x) K=(aPb ρ (g x)∧eLoad K ρ n ag (g x)):=rfl
theorem eff_fdv (ok:Oks) (g:X→AV) (ρ:Nat→Option Row) (d:Nat) (K:AV→List (Nat×Row)→Prop) (av:List Nat) (off:Nat) (x:X):eff ok g ρ d (.fdv av off x) K=(vPt av ρ (g x)∧eFad K ρ off (g x)):=rfl
theorem aPb_pt (ρ:Nat→Option Row) (r i off:Nat):aPb ρ (.pt r i off)=aRow (ρ r):=rfl
theorem aPb_bp (ρ:Nat→Option Row) (f:Fl) (y:AV) (off:Nat):aPb ρ (.bp f y off)=True:=rfl
theorem vPv_pt (ρ:Nat→Option Row) (r i off:Nat):vPv ρ (.pt r i off)=vRow (ρ r):=rfl
theorem eff_ldv (ok:Oks) (g:X→AV) (ρ:Nat→Option Row) (d:Nat) (K:AV→List (Nat×Row)→Prop) (av:List Nat) (n:Nat) (ag:Bool) (x:X):eff ok g ρ d (.ldv av n ag x) K=(vPt av ρ (g x)∧eLoad K ρ n ag (g x)):=rfl
theorem eff_str (ok:Oks) (g:X→AV) (ρ:Nat→Option Row) (d:Nat) (K:AV→List (Nat×Row)→Prop) (n:Nat) (x v:X):eff ok g ρ d (.str n x v) K=(aPt ρ (g x)∧(g v).ments=[]∧eStore K ρ n (g x) (g v)):=rfl
theorem vPt_pt (ρ:Nat→Option Row) (av:List Nat) (r i off:Nat):vPt av ρ (.pt r i off)=(r ∉ av∧vRow (ρ r)):=rfl
theorem vPt_bp (ρ:Nat→Option Row) (av:List Nat) (f:Fl) (y:AV) (off:Nat):vPt av ρ (.bp f y off)=True:=rfl
theorem aPt_pt (ρ:Nat→Option Row) (r i off:Nat):aPt ρ (.pt r i off)=aRow (ρ r):=rfl
theorem vRow_var (x:AV):vRow (some (.var x))=True:=rfl
theorem aRow_arr (n:Nat) (x:List AV):aRow (some (.arr n x))=True:=rfl
theorem eff_bin (ok:Oks) (g:X→AV) (ρ:Nat→Option Row) (d:Nat) (K:AV→List (Nat×Row)→Prop) (op:BinOp) (x y:X):eff ok g ρ d (.bin op x y) K=binV op (g x) (g y) (k1 K):=rfl
theorem eff_beq (ok:Oks) (g:X→AV) (ρ:Nat→Option Row) (d:Nat) (K:AV→List (Nat×Row)→Prop) (neg:Bool) (x y:X):eff ok g ρ d (.beq neg x y) K=eBeq K neg (g x) (g y):=rfl
theorem eBeq_e (K:AV→List (Nat×Row)→Prop) (a b:Bool):eBeq K false (.sc (.bool a)) (.sc (.bool b))=K (.sc (.bool (a==b))) []:=rfl
theorem eBeq_n (K:AV→List (Nat×Row)→Prop) (a b:Bool):eBeq K true (.sc (.bool a)) (.sc (.bool b))=K (.sc (.bool (!(a==b)))) []:=rfl
theorem eff_aeq (ok:Oks) (g:X→AV) (ρ:Nat→Option Row) (d:Nat) (K:AV→List (Nat×Row)→Prop) (neg:Bool) (x y:X):eff ok g ρ d (.aeq neg x y) K=eAeq K neg (g x) (g y):=rfl
theorem eAeq_e (K:AV→List (Nat×Row)→Prop) (a b c e:Int):eAeq K false (.agg [.sc (.int .i64 a),.sc (.int .i64 b)]) (.agg [.sc (.int .i64 c),.sc (.int .i64 e)])=K (.sc (.bool (a==c&&b==e))) []:=rfl
theorem eAeq_n (K:AV→List (Nat×Row)→Prop) (a b c e:Int):eAeq K true (.agg [.sc (.int .i64 a),.sc (.int .i64 b)]) (.agg [.sc (.int .i64 c),.sc (.int .i64 e)])=K (.sc (.bool (!(a==c&&b==e)))) []:=rfl
theorem eff_un (ok:Oks) (g:X→AV) (ρ:Nat→Option Row) (d:Nat) (K:AV→List (Nat×Row)→Prop) (op:UnOp) (x:X):eff ok g ρ d (.un op x) K=unV op (g x) (k1 K):=rfl
theorem eff_conv (ok:Oks) (g:X→AV) (ρ:Nat→Option Row) (d:Nat) (K:AV→List (Nat×Row)→Prop) (q:IntKind) (x:X):eff ok g ρ d (.conv q x) K=eConv K q (g x):=rfl
theorem eConv_i (K:AV→List (Nat×Row)→Prop) (q q':IntKind) (n:Int):eConv K q (.sc (.int q' n))=K (.sc (.int q (q.wrap n))) []:=rfl
theorem eff_mkf (ok:Oks) (g:X→AV) (ρ:Nat→Option Row) (d:Nat) (K:AV→List (Nat×Row)→Prop) (f:Nat) (cs:List X):eff ok g ρ d (.mkf f cs) K=K (.fn f (cs.map g)) []:=rfl
theorem eff_mks (ok:Oks) (g:X→AV) (ρ:Nat→Option Row) (d:Nat) (K:AV→List (Nat×Row)→Prop) (n:Nat) (z:AV) (bytes:Nat) (l c:X):eff ok g ρ d (.mks n z bytes l c) K=eMks K (ρ d) d n z bytes (g l) (g c):=rfl
theorem eMks_i (d:Nat) (K:AV→List (Nat×Row)→Prop) (o:Option Row) (n:Nat) (z:AV) (bytes:Nat) (l c:Int):eMks K o d n z bytes (.sc (.int .i64 l)) (.sc (.int .i64 c)) =
 (o=none∧z.width=n∧0≤l∧l≤c∧c * bytes≤140737488355328∧c≤9223372036854775807∧K (.sl d 0 l.toNat) [(d,.arr n (List.replicate l.toNat z))]):=rfl
theorem eff_slc (ok:Oks) (g:X→AV) (ρ:Nat→Option Row) (d:Nat) (K:AV→List (Nat×Row)→Prop) (n:Nat) (x:X) (lo hi mx:Option X):eff ok g ρ d (.slc n x lo hi mx) K=eSlc K ρ n (g x) (lo.map g) (hi.map g) (mx.map g):=rfl
theorem eSlc_lst (ρ:Nat→Option Row) (K:AV→List (Nat×Row)→Prop) (f:Fl) (n w:Nat) (xs:List AV) (lo hi:Option AV):eSlc K ρ n (.lst f w xs) lo hi none =
 (w=n∧bOk lo∧bOk hi∧bV lo 0≤bV hi xs.length∧bV hi xs.length≤xs.length∧K (.lst f n (sub xs (bV lo 0) (bV hi xs.length - bV lo 0))) []):=rfl
theorem eSlc_lst3 (ρ:Nat→Option Row) (K:AV→List (Nat×Row)→Prop) (f:Fl) (n w:Nat) (xs:List AV) (lo hi:Option AV) (m:AV):eSlc K ρ n (.lst f w xs) lo hi (some m) =
 (w=n∧bOk lo∧bOk hi∧bV lo 0≤bV hi xs.length∧bV hi xs.length≤xs.length∧hi.isSome∧bOk (some m)∧bV (some m) 0=bV hi xs.length∧K (.tg f n (sub xs (bV lo 0) (bV hi xs.length - bV lo 0))) []):=rfl
theorem eSlc_sl (ρ:Nat→Option Row) (K:AV→List (Nat×Row)→Prop) (n r i m:Nat) (lo hi mx:Option AV):eSlc K ρ n (.sl r i m) lo hi mx =
 ((∃ es,ρ r=some (.arr n es))∧bOk lo∧bOk hi∧bV lo 0≤bV hi m∧bV hi m≤m∧mx=none∧K (.sl r (i+bV lo 0) (bV hi m - bV lo 0)) []):=rfl
theorem eff_slz (ok:Oks) (g:X→AV) (ρ:Nat→Option Row) (d:Nat) (K:AV→List (Nat×Row)→Prop) (x:X) (lo hi:Option X):eff ok g ρ d (.slz x lo hi) K=eSlz K (g x) (lo.map g) (hi.map g):=rfl
theorem eSlz_z (K:AV→List (Nat×Row)→Prop) (s:ByteArray) (lo hi:Option AV):eSlz K (.sc (.string s)) lo hi =
 (bOk lo∧bOk hi∧bV lo 0≤bV hi s.size∧bV hi s.size≤s.size∧K (.sc (.string (s.extract (bV lo 0) (bV hi s.size)))) []):=rfl
theorem bOk_none  : bOk none=True:=rfl
theorem bOk_i (q:IntKind) (j:Int):bOk (some (.sc (.int q j)))=(0≤j):=rfl
theorem bV_none (n:Nat):bV none n=n:=rfl
theorem bV_i (n:Nat) (q:IntKind) (j:Int):bV (some (.sc (.int q j))) n=j.toNat:=rfl
theorem eff_fad (ok:Oks) (g:X→AV) (ρ:Nat→Option Row) (d:Nat) (K:AV→List (Nat×Row)→Prop) (off:Nat) (x:X):eff ok g ρ d (.fad off x) K=eFad K ρ off (g x):=rfl
theorem eFad_bp (ρ:Nat→Option Row) (K:AV→List (Nat×Row)→Prop) (off o:Nat) (f:Fl) (y:AV):eFad K ρ off (.bp f y o)=K (.bp f y (o+off)) []:=rfl
theorem eFad_pt (ρ:Nat→Option Row) (K:AV→List (Nat×Row)→Prop) (off r i o:Nat):eFad K ρ off (.pt r i o)=(isLive (ρ r)∧K (.pt r i (o+off)) []):=rfl
theorem eff_idx (ok:Oks) (g:X→AV) (ρ:Nat→Option Row) (d:Nat) (K:AV→List (Nat×Row)→Prop) (n:Nat) (x i:X):eff ok g ρ d (.idx n x i) K=eIdx K ρ n (g x) (g i):=rfl
theorem eff_idv (ok:Oks) (g:X→AV) (ρ:Nat→Option Row) (d:Nat) (K:AV→List (Nat×Row)→Prop) (av:List Nat) (n:Nat) (x i:X):eff ok g ρ d (.idv av n x i) K=(iPt av (g x)∧eIdx K ρ n (g x) (g i)):=rfl
theorem iPt_sl (av:List Nat) (r i n:Nat):iPt av (.sl r i n)=(r ∉ av):=rfl
theorem iPt_lst (av:List Nat) (f:Fl) (n:Nat) (xs:List AV):iPt av (.lst f n xs)=True:=rfl
theorem eff_lnv (ok:Oks) (g:X→AV) (ρ:Nat→Option Row) (d:Nat) (K:AV→List (Nat×Row)→Prop) (av:List Nat) (x:X):eff ok g ρ d (.lnv av x) K=(iPt av (g x)∧eLen K ρ (g x)):=rfl
theorem eff_stw (ok:Oks) (g:X→AV) (ρ:Nat→Option Row) (d:Nat) (K:AV→List (Nat×Row)→Prop) (r n:Nat) (x v:X):eff ok g ρ d (.stw r n x v) K=(wPt r ρ (g x)∧eStore K ρ n (g x) (g v)):=rfl
theorem wPt_pt (ρ:Nat→Option Row) (r q i off:Nat):wPt r ρ (.pt q i off)=(q=r∧vRow (ρ q)):=rfl
theorem eIdx_lst (ρ:Nat→Option Row) (K:AV→List (Nat×Row)→Prop) (n w:Nat) (f:Fl) (xs:List AV) (q:IntKind) (j:Int):eIdx K ρ n (.lst f w xs) (.sc (.int q j))=(w=n∧0≤j∧opt xs[j.toNat]? (idxK K f.als)):=rfl
theorem idxK_eq (K:AV→List (Nat×Row)→Prop) (f:Fl) (y:AV):idxK K f y=K (.bp f y 0) []:=rfl
theorem fls_o  : Fl.als .o=.o:=rfl
theorem fls_s  : Fl.als .s=.s:=rfl
theorem fls_m  : Fl.als .m=.m:=rfl
theorem fls_u  : Fl.als .u=.m:=rfl
theorem eIdx_sl (ρ:Nat→Option Row) (K:AV→List (Nat×Row)→Prop) (n r a m:Nat) (q:IntKind) (j:Int):eIdx K ρ n (.sl r a m) (.sc (.int q j))=((∃ es,ρ r=some (.arr n es))∧0≤j∧j < m∧K (.pt r (a+j.toNat) 0) []):=rfl
theorem eff_fld (ok:Oks) (g:X→AV) (ρ:Nat→Option Row) (d:Nat) (K:AV→List (Nat×Row)→Prop) (off n:Nat) (ag:Bool) (x:X):eff ok g ρ d (.fld off n ag x) K=eFld K off n ag (g x):=rfl
theorem eFld_agg (K:AV→List (Nat×Row)→Prop) (off n:Nat) (ag:Bool) (cs:List AV):eFld K off n ag (.agg cs)=opt (part (.agg cs) off n ag) (k1 K):=by simp [eFld,AV.isAgg]
theorem eff_stri (ok:Oks) (g:X→AV) (ρ:Nat→Option Row) (d:Nat) (K:AV→List (Nat×Row)→Prop) (x i:X):eff ok g ρ d (.stri x i) K=eStri K (g x) (g i):=rfl
theorem eStri_z (K:AV→List (Nat×Row)→Prop) (s:ByteArray) (q:IntKind) (j:Int):eStri K (.sc (.string s)) (.sc (.int q j))=(0≤j∧opt s[j.toNat]? (strK K)):=rfl
theorem strK_eq (K:AV→List (Nat×Row)→Prop) (c:UInt8):strK K c=K (.sc (.int .u8 c.toNat)) []:=rfl
theorem eff_ext (ok:Oks) (g:X→AV) (ρ:Nat→Option Row) (d:Nat) (K:AV→List (Nat×Row)→Prop) (x:X) (j:Nat):eff ok g ρ d (.ext x j) K=eExt K (g x) j:=rfl
theorem eExt_tup (K:AV→List (Nat×Row)→Prop) (vs:List AV) (j:Nat):eExt K (.tup vs) j=opt vs[j]? (k1 K):=rfl
theorem eff_call (ok:Oks) (g:X→AV) (ρ:Nat→Option Row) (d:Nat) (K:AV→List (Nat×Row)→Prop) (f:Nat) (xs:List X):eff ok g ρ d (.call f xs) K=callA ok ρ d f (xs.map g) K:=rfl
theorem eff_dyn (ok:Oks) (g:X→AV) (ρ:Nat→Option Row) (d:Nat) (K:AV→List (Nat×Row)→Prop) (x:X) (xs:List X):eff ok g ρ d (.dyn x xs) K=eDyn ok ρ d (g x) (xs.map g) K:=rfl
theorem eff_callM (ok:Oks) (g:X→AV) (ρ:Nat→Option Row) (d:Nat) (K:AV→List (Nat×Row)→Prop) (f:Nat) (xs:List X) (rs:List Nat):eff ok g ρ d (.callM f xs rs) K=callM ok ρ d f (xs.map g) rs K:=rfl
theorem eff_dynM (ok:Oks) (g:X→AV) (ρ:Nat→Option Row) (d:Nat) (K:AV→List (Nat×Row)→Prop) (x:X) (xs:List X) (rs:List Nat):eff ok g ρ d (.dynM x xs rs) K=eDynM ok ρ d (g x) (xs.map g) rs K:=rfl
theorem eDynM_fn (ok:Oks) (ρ:Nat→Option Row) (d:Nat) (K:AV→List (Nat×Row)→Prop) (f:Nat) (cs xs:List AV) (rs:List Nat):eDynM ok ρ d (.fn f cs) xs rs K=callM ok ρ d f (xs++cs) rs K:=rfl
theorem eDyn_fn (ok:Oks) (ρ:Nat→Option Row) (d:Nat) (K:AV→List (Nat×Row)→Prop) (f:Nat) (cs xs:List AV):eDyn ok ρ d (.fn f cs) xs K=callA ok ρ d f (xs++cs) K:=rfl
theorem eff_len (ok:Oks) (g:X→AV) (ρ:Nat→Option Row) (d:Nat) (K:AV→List (Nat×Row)→Prop) (x:X):eff ok g ρ d (.len x) K=eLen K ρ (g x):=rfl
theorem eLen_lst (ρ:Nat→Option Row) (K:AV→List (Nat×Row)→Prop) (f:Fl) (n:Nat) (xs:List AV):eLen K ρ (.lst f n xs)=K (.sc (.int .i64 xs.length)) []:=rfl
theorem eLen_tg (ρ:Nat→Option Row) (K:AV→List (Nat×Row)→Prop) (f:Fl) (n:Nat) (xs:List AV):eLen K ρ (.tg f n xs)=K (.sc (.int .i64 xs.length)) []:=rfl
theorem eLen_sl (ρ:Nat→Option Row) (K:AV→List (Nat×Row)→Prop) (r i n:Nat):eLen K ρ (.sl r i n)=((∃ w es,ρ r=some (.arr w es))∧K (.sc (.int .i64 n)) []):=rfl
theorem eff_lenz (ok:Oks) (g:X→AV) (ρ:Nat→Option Row) (d:Nat) (K:AV→List (Nat×Row)→Prop) (x:X):eff ok g ρ d (.lenz x) K=eLenz K (g x):=rfl
theorem eff_capn (ok:Oks) (g:X→AV) (ρ:Nat→Option Row) (d:Nat) (K:AV→List (Nat×Row)→Prop) (x:X):eff ok g ρ d (.capn x) K=eCapn K (g x):=rfl
theorem eCapn_n (K:AV→List (Nat×Row)→Prop) (n:Nat):eCapn K (.lst .u n [])=K (.i 0) []:=rfl
theorem eff_slg (ok:Oks) (g:X→AV) (ρ:Nat→Option Row) (d:Nat) (K:AV→List (Nat×Row)→Prop) (n:Nat) (x hi:X):eff ok g ρ d (.slg n x hi) K=eSlg K n (g x) (g hi):=rfl
theorem eSlg_n (K:AV→List (Nat×Row)→Prop) (n w:Nat) (k:IntKind) (h:Int):eSlg K n (.lst .u w []) (.sc (.int k h))=(w=n∧h=0∧K (.lst .u n []) []):=rfl
theorem eff_apz (ok:Oks) (g:X→AV) (ρ:Nat→Option Row) (d:Nat) (K:AV→List (Nat×Row)→Prop) (n:Nat) (z:AV) (bytes:Nat) (x l:X):eff ok g ρ d (.apz n z bytes x l) K=eApz K (ρ d) d n z bytes (g x) (g l):=rfl
theorem eApz_n (K:AV→List (Nat×Row)→Prop) (o:Option Row) (d n w:Nat) (z:AV) (bytes:Nat) (l:Int):eApz K o d n z bytes (.lst .u w []) (.sc (.int .i64 l))=(o=none∧w=n∧z.width=n∧n=1∧0 < l∧l * bytes≤140737488355328∧K (.sl d 0 l.toNat) [(d,.arr n (List.replicate l.toNat z))]):=rfl
theorem eLenz_z (K:AV→List (Nat×Row)→Prop) (s:ByteArray):eLenz K (.sc (.string s))=K (.sc (.int .i64 s.size)) []:=rfl
theorem eff_b2s (ok:Oks) (g:X→AV) (ρ:Nat→Option Row) (d:Nat) (K:AV→List (Nat×Row)→Prop) (x:X):eff ok g ρ d (.b2s x) K=eB2s K ρ (g x):=rfl
theorem eB2s_lst (ρ:Nat→Option Row) (K:AV→List (Nat×Row)→Prop) (f:Fl) (n:Nat) (xs:List AV):eB2s K ρ (.lst f n xs)=(n=1∧opt (u8s xs) (b2sK K)):=rfl
theorem eB2s_sl (ρ:Nat→Option Row) (K:AV→List (Nat×Row)→Prop) (r i n:Nat):eB2s K ρ (.sl r i n)=eB2sR K (ρ r) i n:=rfl
theorem eB2sR_arr (K:AV→List (Nat×Row)→Prop) (w:Nat) (es:List AV) (i m:Nat):eB2sR K (some (.arr w es)) i m=(w=1∧opt (u8s (sub es i m)) (b2sK K)):=rfl
theorem b2sK_eq (K:AV→List (Nat×Row)→Prop) (ns:List Int):b2sK K ns=K (.sc (.string (b2s ns))) []:=rfl
theorem eff_isn (ok:Oks) (g:X→AV) (ρ:Nat→Option Row) (d:Nat) (K:AV→List (Nat×Row)→Prop) (neg:Bool) (x:X):eff ok g ρ d (.isn neg x) K=eIsn K ρ neg (g x):=rfl
theorem eIsn_lst (ρ:Nat→Option Row) (K:AV→List (Nat×Row)→Prop) (neg:Bool) (f:Fl) (n:Nat) (xs:List AV):eIsn K ρ neg (.lst f n xs)=nilK K neg xs.isEmpty:=rfl
theorem eIsn_tg (ρ:Nat→Option Row) (K:AV→List (Nat×Row)→Prop) (neg:Bool) (f:Fl) (n:Nat) (xs:List AV):eIsn K ρ neg (.tg f n xs)=nilK K neg xs.isEmpty:=rfl
theorem eIsn_sl (ρ:Nat→Option Row) (K:AV→List (Nat×Row)→Prop) (neg:Bool) (r i n:Nat):eIsn K ρ neg (.sl r i n)=((∃ w es,ρ r=some (.arr w es))∧nilK K neg (n==0)):=rfl
theorem nilK_eq (K:AV→List (Nat×Row)→Prop) (neg e:Bool):nilK K neg e=K (cond e .ub (.sc (.bool neg))) []:=rfl
theorem c_ub_t (x:AV):cond true AV.ub x=AV.ub:=rfl
theorem c_ub_f (x:AV):cond false AV.ub x=x:=rfl
theorem l_emp_map {α β:Type} (f:α→β) (xs:List α):(xs.map f).isEmpty=xs.isEmpty:=List.isEmpty_map
theorem eff_apq (ok:Oks) (g:X→AV) (ρ:Nat→Option Row) (d:Nat) (K:AV→List (Nat×Row)→Prop) (n:Nat) (x y:X):eff ok g ρ d (.apq n x y) K=eApq K ρ n (g x) (g y):=rfl
theorem eApq_sl (ρ:Nat→Option Row) (K:AV→List (Nat×Row)→Prop) (n r i m:Nat) (y:AV):eApq K ρ n (.sl r i m) y=opt (elems n ρ y) (appQ K (ρ r) r n i m):=rfl
theorem appQ_arr (K:AV→List (Nat×Row)→Prop) (w n r i m:Nat) (es ys:List AV):appQ K (some (.arr w es)) r n i m ys=(w=n∧i+m+ys.length≤es.length∧K (.sl r i (m+ys.length)) [(r,.arr w (over es (i+m) ys))]):=rfl
theorem eff_slx (ok:Oks) (g:X→AV) (ρ:Nat→Option Row) (d:Nat) (K:AV→List (Nat×Row)→Prop) (n:Nat) (x:X) (lo hi:Option X):eff ok g ρ d (.slx n x lo hi) K=eSlx K ρ n (g x) (lo.map g) (hi.map g):=rfl
theorem eff_slm (ok:Oks) (g:X→AV) (ρ:Nat→Option Row) (d:Nat) (K:AV→List (Nat×Row)→Prop) (n:Nat) (x lo hi mx:X):eff ok g ρ d (.slm n x lo hi mx) K=eSlm K ρ n (g x) (g lo) (g hi) (g mx):=rfl
theorem eSlm_sl (ρ:Nat→Option Row) (K:AV→List (Nat×Row)→Prop) (n r i m:Nat) (lo hi mx:AV):eSlm K ρ n (.sl r i m) lo hi mx=eSlmR K (ρ r) n m lo hi mx:=rfl
theorem eSlmR_arr (K:AV→List (Nat×Row)→Prop) (w n m:Nat) (es:List AV) (k1 k2 k3:IntKind) (l h q:Int):eSlmR K (some (.arr w es)) n m (.sc (.int k1 l)) (.sc (.int k2 h)) (.sc (.int k3 q))=(w=n∧0≤l∧l≤h∧h≤q∧q≤(m:Int)∧K .top []):=rfl
theorem eSlx_sl (ρ:Nat→Option Row) (K:AV→List (Nat×Row)→Prop) (n r i m:Nat) (lo hi:Option AV):eSlx K ρ n (.sl r i m) lo hi=eSlxR K (ρ r) r n i m lo hi:=rfl
theorem eSlxR_arr (K:AV→List (Nat×Row)→Prop) (w n r i m:Nat) (es:List AV) (lo hi:Option AV):eSlxR K (some (.arr w es)) r n i m lo hi =
 (w=n∧bOk lo∧bOk hi∧bV lo 0≤bV hi m∧i+bV hi m≤es.length∧K (.sl r (i+bV lo 0) (bV hi m - bV lo 0)) []):=rfl
theorem eff_clr (ok:Oks) (g:X→AV) (ρ:Nat→Option Row) (d:Nat) (K:AV→List (Nat×Row)→Prop) (n:Nat) (z:AV) (x:X):eff ok g ρ d (.clr n z x) K=eClr K ρ n z (g x):=rfl
theorem eClr_sl (ρ:Nat→Option Row) (K:AV→List (Nat×Row)→Prop) (n r i m:Nat) (z:AV):eClr K ρ n z (.sl r i m)=eClrR K (ρ r) r n z i m:=rfl
theorem eClrR_arr (K:AV→List (Nat×Row)→Prop) (w n r i m:Nat) (es:List AV) (z:AV):eClrR K (some (.arr w es)) r n z i m=(w=n∧z.width=n∧K (.tup []) [(r,.arr w (over es i (List.replicate m z)))]):=rfl
theorem eff_cpy (ok:Oks) (g:X→AV) (ρ:Nat→Option Row) (d:Nat) (K:AV→List (Nat×Row)→Prop) (n:Nat) (x y:X):eff ok g ρ d (.cpy n x y) K=eCpy K ρ n (g x) (g y):=rfl
theorem eCpy_sl (ρ:Nat→Option Row) (K:AV→List (Nat×Row)→Prop) (n r i m:Nat) (y:AV):eCpy K ρ n (.sl r i m) y=opt (elems n ρ y) (eCpyR K (ρ r) r n i m):=rfl
theorem eCpyR_arr (K:AV→List (Nat×Row)→Prop) (w n r i m:Nat) (es ys:List AV):eCpyR K (some (.arr w es)) r n i m ys=(w=n∧K (.sc (.int .i64 (min ys.length m:Nat))) [(r,.arr w (over es i (ys.take (min ys.length m))))]):=rfl
theorem eff_app (ok:Oks) (g:X→AV) (ρ:Nat→Option Row) (d:Nat) (K:AV→List (Nat×Row)→Prop) (n bytes:Nat) (mv:Bool) (x y:X):eff ok g ρ d (.app n bytes mv x y) K=eApp K ρ d n bytes mv (g x) (g y):=rfl
theorem eApp_sl (ρ:Nat→Option Row) (d:Nat) (K:AV→List (Nat×Row)→Prop) (n bytes:Nat) (mv:Bool) (r i m:Nat) (y:AV):eApp K ρ d n bytes mv (.sl r i m) y=(ρ d=none∧opt (appY ρ n mv y) (appSl K (ρ r) d n bytes r i m)):=rfl
theorem eApp_tg (ρ:Nat→Option Row) (d:Nat) (K:AV→List (Nat×Row)→Prop) (n bytes:Nat) (mv:Bool) (f:Fl) (w:Nat) (es:List AV) (y:AV):eApp K ρ d n bytes mv (.tg f w es) y=(ρ d=none∧opt (appY ρ n mv y) (appTg K d n bytes w es)):=rfl
theorem appTg_eq (d:Nat) (K:AV→List (Nat×Row)→Prop) (n bytes w:Nat) (es ys:List AV) (u:List (Nat×Row)):appTg K d n bytes w es (ys,u) =
 (w=n∧0 < ys.length∧(es.length+ys.length) * bytes≤140737488355328∧K (.sl d 0 (es.length+ys.length)) (u++[(d,.arr n (es.map AV.als++ys))])):=by simp [appTg,alsL_map]
theorem appY_mv (ρ:Nat→Option Row) (n r m:Nat):appY ρ n true (.sl r 0 m)=appMv n r m (ρ r):=rfl
theorem appMv_arr (n m r w:Nat) (ys:List AV):appMv n r m (some (.arr w ys))=if w=n∧m=ys.length then some (ys,[(r,.dead)]) else none:=rfl
theorem appY_cp (ρ:Nat→Option Row) (n:Nat) (y:AV):appY ρ n false y=appCp (elems n ρ y):=rfl
theorem appCp_some (ys:List AV):appCp (some ys)=some (ys,[]):=rfl
theorem elems_lst (ρ:Nat→Option Row) (n w:Nat) (f:Fl) (xs:List AV):elems n ρ (.lst f w xs)=if w=n then some xs else none:=rfl
theorem elems_tg (ρ:Nat→Option Row) (n w:Nat) (f:Fl) (xs:List AV):elems n ρ (.tg f w xs)=if w=n then some xs else none:=rfl
theorem elems_sl (ρ:Nat→Option Row) (n r i k:Nat):elems n ρ (.sl r i k)=elemsSl n (ρ r) i k:=rfl
theorem elemsSl_arr (n w i k:Nat) (es:List AV):elemsSl n (some (.arr w es)) i k=if w=n then some ((sub es i k).map AV.als) else none:=by simp [elemsSl,alsL_map]
theorem appSl_arr (d:Nat) (K:AV→List (Nat×Row)→Prop) (n bytes r i m w:Nat) (es ys:List AV) (u:List (Nat×Row)):appSl K (some (.arr w es)) d n bytes r i m (ys,u) =
 (w=n∧r ∉ u.map (·.1)∧(m+ys.length) * bytes≤140737488355328∧K (.sl d 0 (m+ys.length)) ((r,.dead)::u++[(d,.arr n (sub es i m++ys))])):=rfl
theorem eff_nilc (ok:Oks) (g:X→AV) (ρ:Nat→Option Row) (d:Nat) (K:AV→List (Nat×Row)→Prop) (x:X):eff ok g ρ d (.nilc x) K=eNil K ρ (g x):=rfl
theorem eNil_bp (ρ:Nat→Option Row) (K:AV→List (Nat×Row)→Prop) (f:Fl) (y:AV) (o:Nat):eNil K ρ (.bp f y o)=K (.bp f y o) []:=rfl
theorem eNil_pt (ρ:Nat→Option Row) (K:AV→List (Nat×Row)→Prop) (r i o:Nat):eNil K ρ (.pt r i o)=(isLive (ρ r)∧K (.pt r i o) []):=rfl
theorem eff_mn (ok:Oks) (g:X→AV) (ρ:Nat→Option Row) (d:Nat) (K:AV→List (Nat×Row)→Prop) (x y:X):eff ok g ρ d (.mn x y) K=eMn K (g x) (g y):=rfl
theorem eMn_i (K:AV→List (Nat×Row)→Prop) (a b:Int):eMn K (.sc (.int .i64 a)) (.sc (.int .i64 b))=K (.sc (.int .i64 (if b < a then b else a))) []:=by simp [eMn]
theorem eff_mx (ok:Oks) (g:X→AV) (ρ:Nat→Option Row) (d:Nat) (K:AV→List (Nat×Row)→Prop) (x y:X):eff ok g ρ d (.mx x y) K=eMx K (g x) (g y):=rfl
theorem eMx_i (K:AV→List (Nat×Row)→Prop) (a b:Int):eMx K (.sc (.int .i64 a)) (.sc (.int .i64 b))=K (.sc (.int .i64 (if a < b then b else a))) []:=by simp [eMx]
theorem bin_add (K:AV→Prop) (k:IntKind) (a b:Int):binV .add (.sc (.int k a)) (.sc (.int k b)) K=K (.sc (.int k (k.wrap (a+b)))):=by simp [binV,binInt,ofI]
theorem bin_sub (K:AV→Prop) (k:IntKind) (a b:Int):binV .sub (.sc (.int k a)) (.sc (.int k b)) K=K (.sc (.int k (k.wrap (a - b)))):=by simp [binV,binInt,ofI]
theorem bin_mul (K:AV→Prop) (k:IntKind) (a b:Int):binV .mul (.sc (.int k a)) (.sc (.int k b)) K=K (.sc (.int k (k.wrap (a * b)))):=by simp [binV,binInt,ofI]
theorem bin_quo (K:AV→Prop) (k:IntKind) (a b:Int):binV .quo (.sc (.int k a)) (.sc (.int k b)) K=(b ≠ 0∧K (.sc (.int k (k.wrap (a.tdiv b))))):=by simp [binV,binInt,ofI]
theorem bin_rem (K:AV→Prop) (k:IntKind) (a b:Int):binV .rem (.sc (.int k a)) (.sc (.int k b)) K=(b ≠ 0∧K (.sc (.int k (a.tmod b)))):=by simp [binV,binInt]
theorem bin_and (K:AV→Prop) (k:IntKind) (a b:Int):binV .and (.sc (.int k a)) (.sc (.int k b)) K=K (.sc (.int k (bits .and k a b))):=by simp [binV,binInt]
theorem bin_or (K:AV→Prop) (k:IntKind) (a b:Int):binV .or (.sc (.int k a)) (.sc (.int k b)) K=K (.sc (.int k (bits .or k a b))):=by simp [binV,binInt]
theorem bin_xor (K:AV→Prop) (k:IntKind) (a b:Int):binV .xor (.sc (.int k a)) (.sc (.int k b)) K=K (.sc (.int k (bits .xor k a b))):=by simp [binV,binInt]
theorem bin_andNot (K:AV→Prop) (k:IntKind) (a b:Int):binV .andNot (.sc (.int k a)) (.sc (.int k b)) K=K (.sc (.int k (bits .andNot k a b))):=by simp [binV,binInt]
theorem bin_eql (K:AV→Prop) (k:IntKind) (a b:Int):binV .eql (.sc (.int k a)) (.sc (.int k b)) K=K (.sc (.bool (a==b))):=by simp [binV,binInt]
theorem bin_neq (K:AV→Prop) (k:IntKind) (a b:Int):binV .neq (.sc (.int k a)) (.sc (.int k b)) K=K (.sc (.bool (a != b))):=by simp [binV,binInt]
theorem bin_lss (K:AV→Prop) (k:IntKind) (a b:Int):binV .lss (.sc (.int k a)) (.sc (.int k b)) K=K (.sc (.bool (decide (a < b)))):=by simp [binV,binInt]
theorem bin_leq (K:AV→Prop) (k:IntKind) (a b:Int):binV .leq (.sc (.int k a)) (.sc (.int k b)) K=K (.sc (.bool (decide (a≤b)))):=by simp [binV,binInt]
theorem bin_gtr (K:AV→Prop) (k:IntKind) (a b:Int):binV .gtr (.sc (.int k a)) (.sc (.int k b)) K=K (.sc (.bool (decide (b < a)))):=by simp [binV,binInt]
theorem bin_geq (K:AV→Prop) (k:IntKind) (a b:Int):binV .geq (.sc (.int k a)) (.sc (.int k b)) K=K (.sc (.bool (decide (b≤a)))):=by simp [binV,binInt]
theorem bin_shl (K:AV→Prop) (k k':IntKind) (a b:Int):binV .shl (.sc (.int k a)) (.sc (.int k' b)) K=shiftInt .shl k a b K:=by simp [binV]
theorem bin_shr (K:AV→Prop) (k k':IntKind) (a b:Int):binV .shr (.sc (.int k a)) (.sc (.int k' b)) K=shiftInt .shr k a b K:=by simp [binV]
theorem shl_i (K:AV→Prop) (k:IntKind) (a b:Int):shiftInt .shl k a b K=(0≤b∧K (.sc (.int k (k.wrap (a * 2 ^ (min b.toNat k.bits)))))):=by simp [shiftInt,ofI]
theorem shr_i (K:AV→Prop) (k:IntKind) (a b:Int):shiftInt .shr k a b K=(0≤b∧K (.sc (.int k (a.fdiv (2 ^ (min b.toNat k.bits)))))):=by simp [shiftInt]
theorem bin_zadd (K:AV→Prop) (a b:ByteArray):binV .add (.sc (.string a)) (.sc (.string b)) K=(a.size+b.size≤9223372036854775807∧K (.sc (.string (a++b)))):=rfl
theorem bin_zeql (K:AV→Prop) (a b:ByteArray):binV .eql (.sc (.string a)) (.sc (.string b)) K=K (.sc (.bool (a.toList==b.toList))):=rfl
theorem bin_zneq (K:AV→Prop) (a b:ByteArray):binV .neq (.sc (.string a)) (.sc (.string b)) K=K (.sc (.bool (!(a.toList==b.toList)))):=rfl
theorem un_neg (K:AV→Prop) (k:IntKind) (a:Int):unV .neg (.sc (.int k a)) K=K (.sc (.int k (k.wrap (0 - a)))):=by simp [unV,ofI]
theorem un_not (K:AV→Prop) (a:Bool):unV .not (.sc (.bool a)) K=K (.sc (.bool (!a))):=rfl
theorem opt_some {α:Type} (x:α) (K:α→Prop):opt (some x) K=K x:=rfl
theorem stOps_nil (ok:Oks) (σ:St) (K:St→Prop):stOps ok [] K σ=K σ:=rfl
theorem stOps_none (ok:Oks) (σ:St) (K:St→Prop) (d:Option Nat) (o:AOp) (os:List AOper):stOps ok (⟨d,o,none⟩::os) K σ=eff ok σ.gx σ.row (d.getD 0) o (cont d (stOps ok os K) σ):=rfl
theorem stOps_some (ok:Oks) (σ:St) (K:St→Prop) (d:Option Nat) (o:AOp) (s:Nat) (w:Bool) (os:List AOper):stOps ok (⟨d,o,some (s,w)⟩::os) K σ =
 guardd σ s w (σ.get s) (goOn ok d o (stOps ok os K)) (goBy d (stOps ok os K)):=rfl
theorem stH_inn (ok:Oks) (σ:St) (K:St→Prop) (t n k:Nat) (x:X) (mids:List (Nat×X)) (d f:Nat) (xs:List X):stH ok (.inn t n k x mids d f xs) K σ=innP ok K σ (midS mids (σ.app (some t) .top [])) t n k d f xs (σ.gx x):=rfl
theorem stH_har (ok:Oks) (σ:St) (K:St→Prop) (d f:Nat) (xs:List X) (rs:List Nat):stH ok (.har d f xs rs) K σ=(σ.fz=true∧callM ⟨ok.p,ok.h,ok.h⟩ σ.row d f (xs.map σ.gx) rs (harK d K σ)):=rfl
theorem harK_eq (σ:St) (K:St→Prop) (d:Nat) (v:AV) (u:List (Nat×Row)):harK d K σ v u=K (σ.app (some d) v u):=rfl
theorem midS_nil (σ:St):midS [] σ=σ:=rfl
theorem midS_cons (σ:St) (d:Nat) (x:X) (ms:List (Nat×X)):midS ((d,x)::ms) σ=midS ms (σ.app (some d) (σ.gx x) []):=rfl
theorem innP_pt (ok:Oks) (σ:St) (K:St→Prop) (t n k d f:Nat) (xs:List X) (r i off:Nat) (τ:St):innP ok K σ τ t n k d f xs (.pt r i off)=innR ok K τ t n k d f xs r i off (σ.row r):=rfl
theorem innR_arr (ok:Oks) (σ:St) (K:St→Prop) (t n k d f:Nat) (xs:List X) (r i off w:Nat) (es:List AV):innR ok K σ t n k d f xs r i off (some (.arr w es))=(w=n∧opt es[i]? fun y=>opt (part y off 1 false) (innL ok K σ t n k d f xs r i off es y)):=rfl
theorem innL_lst (ok:Oks) (σ:St) (K:St→Prop) (t n k d f:Nat) (xs:List X) (r i off w:Nat) (es ys:List AV) (y:AV):innL ok K σ t n k d f xs r i off es y (.lst .u w ys)=(w=k∧innC ok K σ t n k d f xs r i off es y ys):=rfl
theorem argI_t (σ:St) (t len j:Nat):argI σ t len (.t j)=if j=t then .sl 1000000000 0 len else σ.get j:=rfl
theorem argI_c (σ:St) (t len:Nat) (a:AV):argI σ t len (.c a)=a:=rfl
theorem argIok_t (σ:St) (t j:Nat):argIok σ t (.t j)=(j=t∨(σ.get j).ments=[]):=rfl
theorem argIok_c (σ:St) (t:Nat) (a:AV):argIok σ t (.c a)=(a.ments=[]):=rfl
theorem goOn_eq (ok:Oks) (σ:St) (K:St→Prop) (d:Option Nat) (o:AOp):goOn ok d o K σ=eff ok σ.gx σ.row (d.getD 0) o (cont d K σ):=rfl
theorem goBy_eq (σ:St) (K:St→Prop) (d:Option Nat):goBy d K σ=K (σ.app d (.tup []) []):=rfl
theorem cont_eq (σ:St) (K:St→Prop) (d:Option Nat) (v:AV) (u:List (Nat×Row)):cont d K σ v u=K (σ.app d v u):=rfl
theorem endR_eq (σ:St) (Q:Ex→St→Prop) (can:List Can):endR Q can σ=Q .nrm (σ.can can):=rfl
theorem guardd_tt (σ:St) (s:Nat) (A B:St→Prop):guardd σ s true (.sc (.bool true)) A B=A (σ.know s true):=by simp [guardd]
theorem guardd_tf (σ:St) (s:Nat) (A B:St→Prop):guardd σ s true (.sc (.bool false)) A B=B (σ.know s false):=by simp [guardd]
theorem guardd_ft (σ:St) (s:Nat) (A B:St→Prop):guardd σ s false (.sc (.bool true)) A B=B (σ.know s true):=by simp [guardd]
theorem guardd_ff (σ:St) (s:Nat) (A B:St→Prop):guardd σ s false (.sc (.bool false)) A B=A (σ.know s false):=by simp [guardd]
theorem guardd_s (σ:St) (s:Nat) (w:Bool) (A B:St→Prop):guardd σ s w (.tup []) A B=B σ:=rfl
theorem can_nil (σ:St):σ.can []=σ:=rfl
theorem can_cons (σ:St) (d:Nat) (ds:List Can):σ.can (.s d::ds)=(σ.canV d (σ.get d)).can ds:=rfl
theorem can_consf (σ:St) (far:Bool) (d r j:Nat) (ds:List Can):σ.can (.f far d r j::ds)=(σ.canG far d r j (cellAt j (look r σ.rows))).can ds:=rfl
theorem can_consr (σ:St) (d:Nat) (ds:List Can):σ.can (.r d::ds)=(σ.canW d (σ.get d)).can ds:=rfl
theorem canW_sl (σ:St) (d r i n:Nat):σ.canW d (.sl r i n)=σ.canSr d r i n:=rfl
theorem canW_nil (σ:St) (d n:Nat):σ.canW d (.lst .u n [])=σ.canNil d n:=rfl
theorem canW_o (σ:St) (d n:Nat) (xs:List AV):σ.canW d (.lst .o n xs)=σ:=rfl
theorem canW_m (σ:St) (d n:Nat) (xs:List AV):σ.canW d (.lst .m n xs)=σ:=rfl
theorem canW_s (σ:St) (d n:Nat) (xs:List AV):σ.canW d (.lst .s n xs)=σ:=rfl
theorem canG_o (σ:St) (far:Bool) (d r j n:Nat) (xs:List AV):σ.canG far d r j (.lst .o n xs)=σ:=rfl
theorem canG_m (σ:St) (far:Bool) (d r j n:Nat) (xs:List AV):σ.canG far d r j (.lst .m n xs)=σ:=rfl
theorem canG_s (σ:St) (far:Bool) (d r j n:Nat) (xs:List AV):σ.canG far d r j (.lst .s n xs)=σ:=rfl
theorem can_consz (σ:St) (d:Nat) (ds:List Can):σ.can (.z d::ds)=(σ.canZ d (σ.get d)).can ds:=rfl
theorem canZ_sl (σ:St) (d r i m:Nat):σ.canZ d (.sl r i m)=σ.canZr d i m r (look r σ.rows):=rfl
theorem canZ_lst (σ:St) (d n:Nat) (f:Fl) (xs:List AV):σ.canZ d (.lst f n xs)=σ:=rfl
theorem canZ_agg (σ:St) (d:Nat) (cs:List AV):σ.canZ d (.agg cs)=σ.canZc d cs 0 cs:=rfl
theorem canZc_nil (σ:St) (d j:Nat) (all:List AV):σ.canZc d all j []=σ:=by unfold St.canZc; rfl
theorem canZc_sl (σ:St) (d j:Nat) (all cs:List AV) (r i m:Nat):σ.canZc d all j (.sl r i m::cs)=σ.canZcr d all j r i m (look r σ.rows):=by rw [St.canZc]
theorem canZc_lst (σ:St) (d j:Nat) (all cs:List AV) (f:Fl) (n:Nat) (xs:List AV):σ.canZc d all j (.lst f n xs::cs)=σ.canZc d all (j+1) cs:=by rw [St.canZc]; intros; contradiction
theorem canZc_sc (σ:St) (d j:Nat) (all cs:List AV) (v:Value):σ.canZc d all j (.sc v::cs)=σ.canZc d all (j+1) cs:=by rw [St.canZc]; intros; contradiction
theorem canZcr_mk (env:List (Nat×AV)) (rows:List (Nat×Row)) (d j:Nat) (all:List AV) (r i m q:Nat) (es:List AV):St.canZcr ⟨env,rows⟩ d all j r i m (some (.arr q es))=⟨put d (.agg (setA all j (.lst .m q (alsL (sub es i m))))) env,put r .dead rows⟩:=rfl
theorem can_conse (σ:St) (far:Bool) (d k j:Nat) (ds:List Can):σ.can (.e far d k j::ds)=(σ.canE far d k j (cellAt j (some (.var (σ.get k))))).can ds:=rfl
theorem canE_sl (env:List (Nat×AV)) (rows:List (Nat×Row)) (far:Bool) (d k j q i m:Nat):St.canE ⟨env,rows⟩ far d k j (.sl q i m)=if q=d∨far=false∧1000000000≤q then ⟨env,rows⟩ else ⟨(env.map fun p=>(p.1,p.2.hush d)).map fun p=>(p.1,p.2.ren q d),((del d rows).map fun p=>(p.1,p.2.hush d)).map fun p=>(if p.1=q then d else p.1,p.2.map (·.ren q d))⟩:=rfl
theorem canE_nil (env:List (Nat×AV)) (rows:List (Nat×Row)) (far:Bool) (d k j m:Nat):St.canE ⟨env,rows⟩ far d k j (.lst .u m [])=St.canEN ⟨env,rows⟩ d k j m (look k (env.map fun p=>(p.1,p.2.hush d))):=rfl
theorem canE_o (σ:St) (far:Bool) (d r j n:Nat) (xs:List AV):σ.canE far d r j (.lst .o n xs)=σ:=rfl
theorem canE_m (σ:St) (far:Bool) (d r j n:Nat) (xs:List AV):σ.canE far d r j (.lst .m n xs)=σ:=rfl
theorem canE_s (σ:St) (far:Bool) (d r j n:Nat) (xs:List AV):σ.canE far d r j (.lst .s n xs)=σ:=rfl
theorem canEN_mk (env:List (Nat×AV)) (rows:List (Nat×Row)) (d k j m:Nat) (cs:List AV):St.canEN ⟨env,rows⟩ d k j m (some (.agg cs))=⟨put k (.agg (setA cs j (.sl d 0 0))) (env.map fun p=>(p.1,p.2.hush d)),put d (.arr m []) ((del d rows).map fun p=>(p.1,p.2.hush d))⟩:=rfl
theorem can_consw (σ:St) (r:Nat) (ds:List Can):σ.can (.w r::ds)=(σ.canX r (look r σ.rows)).can ds:=rfl
theorem canX_arr (env:List (Nat×AV)) (rows:List (Nat×Row)) (r n:Nat) (es:List AV):St.canX ⟨env,rows⟩ r (some (.arr n es))=⟨env,put r (.arr n (es.map AV.als)) rows⟩:=by simp [St.canX,alsL_map]
theorem canX_none (σ:St) (r:Nat):σ.canX r none=σ:=rfl
theorem canX_agg (σ:St) (r:Nat) (cs:List AV):σ.canX r (some (.var (.agg cs)))=σ.canXc r cs 0 cs:=rfl
theorem canXc_nil (σ:St) (r j:Nat) (all:List AV):σ.canXc r all j []=σ:=by unfold St.canXc; rfl
theorem canXc_sl (σ:St) (r j:Nat) (all cs:List AV) (q i m:Nat):σ.canXc r all j (.sl q i m::cs)=σ.canXcr r all j q i m (look q σ.rows):=by rw [St.canXc]
theorem canXc_lst (σ:St) (r j:Nat) (all cs:List AV) (f:Fl) (n:Nat) (xs:List AV):σ.canXc r all j (.lst f n xs::cs)=σ.canXc r all (j+1) cs:=by rw [St.canXc]; intros; contradiction
theorem canXc_sc (σ:St) (r j:Nat) (all cs:List AV) (v:Value):σ.canXc r all j (.sc v::cs)=σ.canXc r all (j+1) cs:=by rw [St.canXc]; intros; contradiction
theorem canXcr_mk (env:List (Nat×AV)) (rows:List (Nat×Row)) (r j:Nat) (all:List AV) (q i m k:Nat) (es:List AV):St.canXcr ⟨env,rows⟩ r all j q i m (some (.arr k es))=⟨env,put r (.var (.agg (setA all j (.lst .m k (alsL (sub es i m)))))) (put q .dead rows)⟩:=rfl
theorem canX_dead (σ:St) (r:Nat):σ.canX r (some .dead)=σ:=rfl
theorem cellAt_agg (j:Nat) (cs:List AV):cellAt j (some (.var (.agg cs)))=nthA cs j:=rfl
theorem cellAt_sl (q i m:Nat):cellAt 0 (some (.var (.sl q i m)))=.sl q i m:=rfl
theorem cellAt_lst (f:Fl) (m:Nat) (xs:List AV):cellAt 0 (some (.var (.lst f m xs)))=.lst f m xs:=rfl
theorem nthA_z (x:AV) (xs:List AV):nthA (x::xs) 0=x:=rfl
theorem nthA_s (x:AV) (xs:List AV) (j:Nat):nthA (x::xs) (j+1)=nthA xs j:=rfl
theorem setA_z (x y:AV) (xs:List AV):setA (x::xs) 0 y=y::xs:=rfl
theorem setA_s (x y:AV) (xs:List AV) (j:Nat):setA (x::xs) (j+1) y=x::setA xs j y:=rfl
theorem canG_sl (env:List (Nat×AV)) (rows:List (Nat×Row)) (far:Bool) (d r j q i m:Nat):St.canG ⟨env,rows⟩ far d r j (.sl q i m)=if q=d∨far=false∧1000000000≤q then ⟨env,rows⟩ else ⟨(env.map fun p=>(p.1,p.2.hush d)).map fun p=>(p.1,p.2.ren q d),((del d rows).map fun p=>(p.1,p.2.hush d)).map fun p=>(if p.1=q then d else p.1,p.2.map (·.ren q d))⟩:=rfl
theorem canG_nil (env:List (Nat×AV)) (rows:List (Nat×Row)) (far:Bool) (d r j m:Nat):St.canG ⟨env,rows⟩ far d r j (.lst .u m [])=St.canFN ⟨env,rows⟩ d r j m (look r ((del d rows).map fun p=>(p.1,p.2.hush d))):=rfl
theorem canFN_nl (env:List (Nat×AV)) (rows:List (Nat×Row)) (d r j m k:Nat):St.canFN ⟨env,rows⟩ d r j m (some (.var (.lst .u k [])))=⟨env.map fun p=>(p.1,p.2.hush d),put d (.arr m []) (put r (.var (.sl d 0 0)) ((del d rows).map fun p=>(p.1,p.2.hush d)))⟩:=rfl
theorem canFN_mk (env:List (Nat×AV)) (rows:List (Nat×Row)) (d r j m:Nat) (cs:List AV):St.canFN ⟨env,rows⟩ d r j m (some (.var (.agg cs)))=⟨env.map fun p=>(p.1,p.2.hush d),put d (.arr m []) (put r (.var (.agg (setA cs j (.sl d 0 0)))) ((del d rows).map fun p=>(p.1,p.2.hush d)))⟩:=rfl
theorem canV_sl (σ:St) (d r i n:Nat):σ.canV d (.sl r i n)=σ.canSl d r i n:=rfl
theorem canV_nil (σ:St) (d n:Nat):σ.canV d (.lst .u n [])=σ.canNil d n:=rfl
theorem canV_o (σ:St) (d n:Nat) (xs:List AV):σ.canV d (.lst .o n xs)=σ:=rfl
theorem canV_m (σ:St) (d n:Nat) (xs:List AV):σ.canV d (.lst .m n xs)=σ:=rfl
theorem canV_s (σ:St) (d n:Nat) (xs:List AV):σ.canV d (.lst .s n xs)=σ:=rfl
theorem get_mk (env:List (Nat×AV)) (rows:List (Nat×Row)) (k:Nat):St.get ⟨env,rows⟩ k=(look k env).getD .top:=rfl
theorem row_mk (env:List (Nat×AV)) (rows:List (Nat×Row)) (k:Nat):St.row ⟨env,rows⟩ k=look k rows:=rfl
theorem gx_t (σ:St) (n:Nat):σ.gx (.t n)=σ.get n:=rfl
theorem gx_c (σ:St) (a:AV):σ.gx (.c a)=a:=rfl
theorem app_some (env:List (Nat×AV)) (rows:List (Nat×Row)) (d:Nat) (v:AV) (u:List (Nat×Row)):St.app ⟨env,rows⟩ (some d) v u=⟨put d v env,putAll u rows⟩:=rfl
theorem app_none (env:List (Nat×AV)) (rows:List (Nat×Row)) (v:AV) (u:List (Nat×Row)):St.app ⟨env,rows⟩ none v u=⟨env,putAll u rows⟩:=rfl
theorem putAll_nil (rows:List (Nat×Row)):putAll [] rows=rows:=rfl
theorem putAll_cons (p:Nat×Row) (u rows:List (Nat×Row)):putAll (p::u) rows=putAll u (put p.1 p.2 rows):=rfl
theorem know_mk (env:List (Nat×AV)) (rows:List (Nat×Row)) (s:Nat) (b:Bool):St.know ⟨env,rows⟩ s b=⟨put s (.sc (.bool b)) env,rows⟩:=rfl
theorem look_nil {α:Type} (k:Nat):look k ([]:List (Nat×α))=none:=rfl
theorem look_cons {α:Type} (k j:Nat) (x:α) (l:List (Nat×α)):look k ((j,x)::l)=if j=k then some x else look k l:=rfl
theorem put_nil {α:Type} (k:Nat) (x:α):put k x []=[(k,x)]:=rfl
theorem put_cons {α:Type} (k j:Nat) (x y:α) (l:List (Nat×α)):put k x ((j,y)::l)=if j=k then (k,x)::l else (j,y)::put k x l:=rfl
theorem del_nil {α:Type} (k:Nat):del k ([]:List (Nat×α))=[]:=rfl
theorem del_cons {α:Type} (k j:Nat) (x:α) (l:List (Nat×α)):del k ((j,x)::l)=if j=k then del k l else (j,x)::del k l:=rfl
theorem getD_some {α:Type} (x y:α):(some x).getD y=x:=rfl
theorem getD_none {α:Type} (y:α):(none:Option α).getD y=y:=rfl
theorem canSr_mk (env:List (Nat×AV)) (rows:List (Nat×Row)) (d r i n:Nat):St.canSr ⟨env,rows⟩ d r i n=if r=d then ⟨env,rows⟩ else
 ⟨put d (.sl d i n) ((env.map fun p => (p.1, p.2.hush d)).map fun p => (p.1, p.2.ren r d)),
  ((del d rows).map fun p=>(p.1,p.2.hush d)).map fun p=>(if p.1=r then d else p.1,p.2.map (·.ren r d))⟩:=rfl
theorem canZr_mk (env:List (Nat×AV)) (rows:List (Nat×Row)) (d i m r q:Nat) (es:List AV):St.canZr ⟨env,rows⟩ d i m r (some (.arr q es))=⟨put d (.lst .m q (alsL (sub es i m))) env,put r .dead rows⟩:=rfl
theorem canSl_mk (env:List (Nat×AV)) (rows:List (Nat×Row)) (d r i n:Nat):St.canSl ⟨env,rows⟩ d r i n=if r=d∨1000000000≤r then ⟨env,rows⟩ else
 ⟨put d (.sl d i n) ((env.map fun p => (p.1, p.2.hush d)).map fun p => (p.1, p.2.ren r d)),
  ((del d rows).map fun p=>(p.1,p.2.hush d)).map fun p=>(if p.1=r then d else p.1,p.2.map (·.ren r d))⟩:=rfl
theorem canNil_mk (env:List (Nat×AV)) (rows:List (Nat×Row)) (d n:Nat):St.canNil ⟨env,rows⟩ d n =
 ⟨put d (.sl d 0 0) (env.map fun p=>(p.1,p.2.hush d)),put d (.arr n []) ((del d rows).map fun p=>(p.1,p.2.hush d))⟩:=rfl
theorem res_mk (σ:St) (lv lr:List Nat):σ.res lv lr=⟨lv.map fun k=>(k,σ.get k),lr.map fun r=>(r,(σ.row r).getD .dead)⟩:=rfl
theorem resOk_eq (σ:St) (lv lr:List Nat):σ.resOk lv lr=((∀ k∈lv,∀ r∈(σ.get k).ments,r∈lr)∧(∀ q∈lr,∀ r∈((σ.row q).getD .dead).ments,r∈lr)∧lr.Nodup):=rfl
theorem rhush_var (r:Nat) (x:AV):Row.hush r (.var x)=if r∈x.ments then .dead else .var x:=rfl
theorem rhush_arr (r:Nat) (n:Nat) (x:List AV):Row.hush r (.arr n x)=.arr n x:=rfl
theorem rhush_dead (r:Nat):Row.hush r .dead=.dead:=rfl
theorem rmap_var (h:AV→AV) (x:AV):Row.map h (.var x)=.var (h x):=rfl
theorem rmap_arr (h:AV→AV) (n:Nat) (x:List AV):Row.map h (.arr n x)=.arr n x:=rfl
theorem rmap_dead (h:AV→AV):Row.map h .dead=.dead:=rfl
theorem rments_var (x:AV):Row.ments (.var x)=x.ments:=rfl
theorem rments_arr (n:Nat) (x:List AV):Row.ments (.arr n x)=[]:=rfl
theorem rments_dead  : Row.ments .dead=[]:=rfl
theorem hush_eq (r:Nat) (a:AV):a.hush r=if r∈a.ments then .top else a:=rfl
theorem ments_sc (v:Value):(AV.sc v).ments=[]:=by simp [AV.ments]
theorem ments_lst (f:Fl) (n:Nat) (x:List AV):(AV.lst f n x).ments=[]:=by simp [AV.ments]
theorem ments_tg (f:Fl) (n:Nat) (x:List AV):(AV.tg f n x).ments=[]:=by simp [AV.ments]
theorem ments_bp (f:Fl) (x:AV) (n:Nat):(AV.bp f x n).ments=[]:=by simp [AV.ments]
theorem ments_top  : AV.top.ments=[]:=by simp [AV.ments]
theorem ments_sl (r i n:Nat):(AV.sl r i n).ments=[r]:=by simp [AV.ments]
theorem ments_pt (r i n:Nat):(AV.pt r i n).ments=[r]:=by simp [AV.ments]
theorem ments_agg (cs:List AV):(AV.agg cs).ments=mentsL cs:=by simp [AV.ments]
theorem ments_fn (f:Nat) (cs:List AV):(AV.fn f cs).ments=mentsL cs:=by simp [AV.ments]
theorem ments_tup (cs:List AV):(AV.tup cs).ments=mentsL cs:=by simp [AV.ments]
theorem mentsL_nil  : mentsL []=[]:=by simp [mentsL]
theorem mentsL_cons (c:AV) (cs:List AV):mentsL (c::cs)=c.ments++mentsL cs:=by simp [mentsL]
theorem fz_mk (env:List (Nat×AV)) (rows:List (Nat×Row)):St.fz ⟨env,rows⟩=(env.all (fun p=>p.2.fz)&&rows.all (fun p=>p.2.fz)):=rfl
theorem fz_sc (v:Value):(AV.sc v).fz=true:=by simp [AV.fz]
theorem fz_lsto (n:Nat) (xs:List AV):(AV.lst .o n xs).fz=fzL xs:=by simp [AV.fz]
theorem fz_bpo (x:AV) (n:Nat):(AV.bp .o x n).fz=x.fz:=by simp [AV.fz]
theorem fz_agg (cs:List AV):(AV.agg cs).fz=fzL cs:=by simp [AV.fz]
theorem fz_tup (cs:List AV):(AV.tup cs).fz=fzL cs:=by simp [AV.fz]
theorem fz_fn (f:Nat) (cs:List AV):(AV.fn f cs).fz=fzL cs:=by simp [AV.fz]
theorem fz_sl (r i n:Nat):(AV.sl r i n).fz=true:=by simp [AV.fz]
theorem fz_pt (r i n:Nat):(AV.pt r i n).fz=true:=by simp [AV.fz]
theorem fz_top  : AV.top.fz=true:=by simp [AV.fz]
theorem fzL_nil  : fzL []=true:=by simp [fzL]
theorem fzL_cons (c:AV) (cs:List AV):fzL (c::cs)=(c.fz&&fzL cs):=by simp [fzL]
theorem ou_sc (v:Value):(AV.sc v).ouB=true:=by simp [AV.ouB]
theorem ou_lstu (n:Nat) (xs:List AV):(AV.lst .u n xs).ouB=ouBL xs:=by simp [AV.ouB]
theorem ou_lsto (n:Nat) (xs:List AV):(AV.lst .o n xs).ouB=fzL xs:=by simp [AV.ouB]
theorem ou_agg (cs:List AV):(AV.agg cs).ouB=ouBL cs:=by simp [AV.ouB]
theorem ouL_nil  : ouBL []=true:=by simp [ouBL]
theorem ouL_cons (c:AV) (cs:List AV):ouBL (c::cs)=(c.ouB&&ouBL cs):=by simp [ouBL]
theorem rfz_var (x:AV):(Row.var x).fz=x.fz:=rfl
theorem rfz_arr (n:Nat) (xs:List AV):(Row.arr n xs).fz=ouBL xs:=rfl
theorem rfz_dead  : Row.dead.fz=true:=rfl
theorem fzL_mi (xs:List Int):fzL (xs.map AV.i)=true:=by induction xs <;> simp_all [fzL,AV.fz]
theorem fzL_mb (xs:List Bool):fzL (xs.map AV.b)=true:=by induction xs <;> simp_all [fzL,AV.fz]
theorem fzL_mz (xs:List ByteArray):fzL (xs.map AV.z)=true:=by induction xs <;> simp_all [fzL,AV.fz]
theorem fzL_m8 (xs:List Int):fzL (xs.map AV.u8)=true:=by induction xs <;> simp_all [fzL,AV.fz]
theorem fzL_m64 (xs:List Int):fzL (xs.map AV.u64)=true:=by induction xs <;> simp_all [fzL,AV.fz]
theorem ouL_m8 (xs:List Int):ouBL (xs.map AV.u8)=true:=by induction xs <;> simp_all [ouBL,AV.ouB]
theorem ouL_m64 (xs:List Int):ouBL (xs.map AV.u64)=true:=by induction xs <;> simp_all [ouBL,AV.ouB]
theorem ouL_mi (xs:List Int):ouBL (xs.map AV.i)=true:=by induction xs <;> simp_all [ouBL,AV.ouB]
theorem ouL_mb (xs:List Bool):ouBL (xs.map AV.b)=true:=by induction xs <;> simp_all [ouBL,AV.ouB]
theorem ouL_mz (xs:List ByteArray):ouBL (xs.map AV.z)=true:=by induction xs <;> simp_all [ouBL,AV.ouB]
theorem part_load1 (x:AV) (off n:Nat):part x off n false=x.cells[off]?:=rfl
theorem part_aggs (cs:List AV) (off n:Nat):part (.agg cs) off n true=if off+n≤cs.length then some (if off=0∧n=cs.length then .agg cs else .agg ((cs.drop off).take n)) else none:=by
 unfold part
 by_cases h:off+n≤cs.length
 · rw [if_pos rfl,if_pos ⟨rfl,h⟩,if_pos h]; rfl
 · rw [if_pos rfl,if_neg (fun e=>h e.2),if_neg h]
theorem setPart_agg1 (cs:List AV) (off:Nat) (v:Value):setPart (.agg cs) off (.sc v)=if off+1≤cs.length then some (.agg (fill cs off (.sc v))) else none:=rfl
theorem setPart_sl1 (cs:List AV) (off r i n:Nat):setPart (.agg cs) off (.sl r i n)=if off+1≤cs.length then some (.agg (fill cs off (.sl r i n))) else none:=rfl
theorem setPart_lst1 (cs:List AV) (off n:Nat) (f:Fl) (xs:List AV):setPart (.agg cs) off (.lst f n xs)=if off+1≤cs.length then some (.agg (fill cs off (.lst f n xs))) else none:=rfl
theorem setPart_aggs (cs vs:List AV) (off:Nat):setPart (.agg cs) off (.agg vs)=if off=0∧vs.length=cs.length then some (.agg vs) else if off+vs.length≤cs.length then some (.agg (fill cs off (.agg vs))) else none:=rfl
theorem setPart_sc (x v:Value):setPart (.sc x) 0 (.sc v)=some (.sc v):=by simp [setPart,AV.isAgg,AV.width]
theorem setPart_lst (f:Fl) (n:Nat) (xs:List AV) (f':Fl) (n':Nat) (xs':List AV):setPart (.lst f n xs) 0 (.lst f' n' xs')=some (.lst f' n' xs'):=by simp [setPart,AV.isAgg,AV.width]
theorem setPart_lstsl (f:Fl) (n:Nat) (xs:List AV) (r i k:Nat):setPart (.lst f n xs) 0 (.sl r i k)=some (.sl r i k):=by simp [setPart,AV.isAgg,AV.width]
theorem setPart_slsl (r' i' k' r i k:Nat):setPart (.sl r' i' k') 0 (.sl r i k)=some (.sl r i k):=by simp [setPart,AV.isAgg,AV.width]
theorem cells_agg (cs:List AV):(AV.agg cs).cells=cs:=rfl
theorem cells_sc (v:Value):(AV.sc v).cells=[.sc v]:=rfl
theorem cells_lst (f:Fl) (n:Nat) (xs:List AV):(AV.lst f n xs).cells=[.lst f n xs]:=rfl
theorem cells_sl (r i n:Nat):(AV.sl r i n).cells=[.sl r i n]:=rfl
theorem cells_fn (f:Nat) (cs:List AV):(AV.fn f cs).cells=[.fn f cs]:=rfl
theorem width_agg (cs:List AV):(AV.agg cs).width=cs.length:=rfl
theorem width_sc (v:Value):(AV.sc v).width=1:=rfl
theorem width_lst (f:Fl) (n:Nat) (xs:List AV):(AV.lst f n xs).width=1:=rfl
theorem width_sl (r i n:Nat):(AV.sl r i n).width=1:=rfl
theorem width_fn (f:Nat) (cs:List AV):(AV.fn f cs).width=1:=rfl
theorem fill_eq (cs:List AV) (off:Nat) (v:AV):fill cs off v=cs.take off++v.cells++cs.drop (off+v.cells.length):=rfl
theorem fills_nil (cs:List AV):fills cs []=cs:=rfl
theorem fills_cons (cs:List AV) (off:Nat) (v:AV) (l:List (Nat×AV)):fills cs ((off,v)::l)=fills (fill cs off v) l:=rfl
theorem fin_ret (rs:List RV) (res:AV) (σ:St):fin rs res .ret σ=opt (RVs.val σ rs) fun xs=>(mentsL xs).Nodup∧lift σ.row 3 (tupd xs)=res:=by
 simp only [fin,opt]; cases RVs.val σ rs <;> simp
theorem fin_nrm (rs:List RV) (res:AV) (σ:St):fin rs res .nrm σ=opt (RVs.val σ rs) fun xs=>(mentsL xs).Nodup∧lift σ.row 3 (tupd xs)=res:=by
 simp only [fin,opt]; cases RVs.val σ rs <;> simp
def rvPt (o:Option Row) (k:Nat) (ag:Bool):Option AV:=match o with
 | some (.var y)=>part y 0 k ag
 | _=>none
def rvC (σ:St) (a:AV) (k:Nat) (ag:Bool):Option AV:=match a with
 | .pt r 0 0=>rvPt (σ.row r) k ag
 | _=>none
theorem rv_t (σ:St) (n:Nat):RV.val σ (.t n)=some (σ.get n):=rfl
theorem rv_c (σ:St) (n k:Nat) (ag:Bool):RV.val σ (.c n k ag)=rvC σ (σ.get n) k ag:=by simp only [RV.val]; rfl
theorem rvC_pt (σ:St) (r k:Nat) (ag:Bool):rvC σ (.pt r 0 0) k ag=rvPt (σ.row r) k ag:=rfl
theorem rvPt_var (y:AV) (k:Nat) (ag:Bool):rvPt (some (.var y)) k ag=part y 0 k ag:=rfl
def pairO (x:Option AV) (xs:Option (List AV)):Option (List AV):=match x,xs with
 | some x,some xs=>some (x::xs)
 | _,_=>none
theorem rvs_nil (σ:St):RVs.val σ []=some []:=rfl
theorem rvs_cons (σ:St) (r:RV) (rs:List RV):RVs.val σ (r::rs)=pairO (r.val σ) (RVs.val σ rs):=by simp only [RVs.val]; rfl
theorem pairO_some (x:AV) (xs:List AV):pairO (some x) (some xs)=some (x::xs):=rfl
theorem tupd_one (x:AV):tupd [x]=x:=rfl
theorem tupd_two (x y:AV) (l:List AV):tupd (x::y::l)=.tup (x::y::l):=rfl
theorem start_eq (args:List AV):St.start args=⟨St.start.go 0 args,[]⟩:=rfl
theorem start_nil (n:Nat):St.start.go n []=[]:=rfl
theorem start_cons (n:Nat) (a:AV) (l:List AV):St.start.go n (a::l)=(n,a)::St.start.go (n+1) l:=rfl
theorem body_eq (ok:Oks) (a:ACode) (rs:List RV) (args:List AV) (res:AV):Body ok a rs args res=AWP ok a (fin rs res) (St.start args):=rfl
theorem fl1  : Fl.als .u=.m:=rfl
theorem fl2  : Fl.als .o=.o:=rfl
theorem fl3  : Fl.als .s=.s:=rfl
theorem fl4  : Fl.als .m=.m:=rfl
theorem fl5  : Fl.fix .u=.u:=rfl
theorem fl6  : Fl.fix .o=.s:=rfl
theorem fl7  : Fl.fix .s=.s:=rfl
theorem fl8  : Fl.fix .m=.m:=rfl
theorem l_map_cons {α β:Type} (f:α→β) (x:α) (l:List α):(x::l).map f=f x::l.map f:=rfl
theorem l_map_nil {α β:Type} (f:α→β):[].map f=[]:=rfl
theorem l_app_nil {α:Type} (l:List α):l++[]=l:=List.append_nil l
theorem l_nil_app {α:Type} (l:List α):[]++l=l:=rfl
theorem l_cons_app {α:Type} (x:α) (k l:List α):(x::k)++l=x::(k++l):=rfl
theorem l_len_cons {α:Type} (x:α) (l:List α):(x::l).length=l.length+1:=rfl
theorem l_len_nil {α:Type}:([]:List α).length=0:=rfl
theorem l_len_map {α β:Type} (f:α→β) (l:List α):(l.map f).length=l.length:=List.length_map ..
theorem l_get0 {α:Type} (x:α) (l:List α):(x::l)[0]?=some x:=rfl
theorem l_getS {α:Type} (x:α) (l:List α) (n:Nat):(x::l)[n+1]?=l[n]?:=rfl
theorem l_getmap {α β:Type} (f:α→β) (l:List α) (n:Nat):(l.map f)[n]?=(l[n]?).map f:=List.getElem?_map ..
theorem o_map_some {α β:Type} (f:α→β) (x:α):(some x).map f=some (f x):=rfl
theorem o_map_none {α β:Type} (f:α→β):(none:Option α).map f=none:=rfl
theorem l_take_z {α:Type} (l:List α):l.take 0=[]:=rfl
theorem l_take_s {α:Type} (x:α) (l:List α) (n:Nat):(x::l).take (n+1)=x::l.take n:=rfl
theorem l_drop_z {α:Type} (l:List α):l.drop 0=l:=rfl
theorem l_drop_s {α:Type} (x:α) (l:List α) (n:Nat):(x::l).drop (n+1)=l.drop n:=rfl
theorem l_drop_n {α:Type} (n:Nat):([]:List α).drop n=[]:=List.drop_nil
theorem l_take_n {α:Type} (n:Nat):([]:List α).take n=[]:=List.take_nil
theorem u8s_map (l:List Int):u8s (l.map AV.u8)=some l:=by induction l <;> simp_all [u8s]
theorem toNat_cast (n:Nat):((n:Int)).toNat=n:=rfl
theorem awp_loop {ok:Oks} {a:ACode} {Q:Ex→St→Prop} {σ:St} (lv lr:List Nat) (I:St→Prop) (μ:St→Nat) (h0:σ.resOk lv lr) (h1:I (σ.res lv lr)) (h2:∀ τ,I τ→AWP ok a (thn (fun τ'=>τ'.resOk lv lr∧I (τ'.res lv lr)∧μ (τ'.res lv lr) < μ τ) Q) τ):AWP ok (.loop a) Q σ:=by
 simp only [AWP]; exact ⟨lv,lr,I,μ,h0,h1,h2⟩
theorem call_u {ok:Oks} {ρ:Nat→Option Row} {d f:Nat} {args:List AV} {K:AV→List (Nat×Row)→Prop} {res:AV} (h:ok.p f (args.map (snp ρ 4)) res) (hu:res.allU) (hn:∀ p∈(adopt 4 d res).2.1,ρ p.1=none∧p.1 < 1000000000) (hk:K (adopt 4 d res).1 (adopt 4 d res).2.1):callA ok ρ d f args K:=⟨res,h,.inl hu,hn,hk⟩
theorem call_s {ok:Oks} {ρ:Nat→Option Row} {d f:Nat} {args:List AV} {K:AV→List (Nat×Row)→Prop} {v:Value} (h:ok.p f (args.map (snp ρ 4)) (.sc v)) (hk:K (.sc v) []):callA ok ρ d f args K:=⟨.sc v,h,.inl (by simp [AV.allU]),by simp [adopt_sc],by simpa [adopt_sc] using hk⟩
theorem call_m {ok:Oks} {ρ:Nat→Option Row} {d f:Nat} {args:List AV} {rs:List Nat} {K:AV→List (Nat×Row)→Prop} {res:AV} {outs:List (Nat×Row)} (h:ok.m f (args.map (AV.rg (cnm rs))) (rs.map (rowIn ρ rs)) res outs) (h1:rs.Nodup∧(∀ r∈rs,isLive (ρ r))∧(∀ r∈rs,∀ q∈oments (ρ r),q∈rs)∧(∀ r∈mentsL args,r∈rs)) (h2:(outs.map fun p=>bkn d rs p.1).Nodup∧(∀ p∈outs,1000000000≤p.1→p.1 - 1000000000 < rs.length)∧(∀ p∈outs,p.1 < 1000000000→ρ (bkn d rs p.1)=none∧bkn d rs p.1 < 1000000000)) (hk:K (res.rg (bkn d rs)) (gone rs++outs.map (rowBk d rs))):callM ok ρ d f args rs K:=⟨res,outs,h,h1,h2,hk⟩
theorem fzL_of {α:Type} {e:α→AV} (h:∀ x,(e x).fz=true) (xs:List α):fzL (xs.map e)=true:=by induction xs <;> simp_all [fzL]
theorem ouL_of {α:Type} {e:α→AV} (h:∀ x,(e x).ouB=true) (xs:List α):ouBL (xs.map e)=true:=by induction xs <;> simp_all [ouBL]
theorem inn_s {ok:Oks} {K:St→Prop} {τ:St} {t n k d f:Nat} {xs:List X} {r i off:Nat} {es:List AV} {y:AV} {ys:List AV} {v:Value} {ys':List AV} {z:AV} (h:ok.m f (xs.map (argI τ t ys.length)) [(1000000000,.arr k ys)] (.sc v) [(1000000000,.arr k ys')]) (hfl:ys.all AV.flat=true) (hfz:τ.fz=true) (harg:∀ x∈xs,argIok τ t x) (hfl':ys'.all AV.flat=true) (hz:setPart y off (.lst .u k ys')=some z) (hk:K (τ.app (some d) (.sc v) [(r,.arr n (es.set i z))])):innC ok K τ t n k d f xs r i off es y ys:=⟨hfl,hfz,harg,v,ys',h,hfl',by rw [hz]; exact hk⟩
theorem ZI {A B : Prop} (a : A) (b : B) : A ∧ B := ⟨a, b⟩
def VS1:=ZI @nrmL_map (ZI @alsL_map (ZI @fixL_map (ZI @snp_sc (ZI @snp_lst (ZI @snp_tg (ZI @snp_agg (ZI @snp_fn (ZI @snp_bp (ZI @snp_sl (ZI @snpSl_arr (ZI @snp_pt (ZI @snpPt_var (ZI @lift_sc (ZI @lift_lst (ZI @lift_agg (ZI @lift_tup (ZI @lift_sl (ZI @liftSl_arr (ZI @adopt_sc (ZI @adopt_u (ZI @adopt_o (ZI @adopt_m (ZI @adopt_s (ZI @adopt_tup (ZI @adopt_agg (ZI @adopt_nil (ZI @adopt_cons (ZI @nrm_sc (ZI @nrm_lst (ZI @nrm_agg (ZI @nrm_bp (ZI @als_sc (ZI @als_lst (ZI @als_agg (ZI @fix_sc (ZI @fix_lst (ZI @fix_agg (ZI @map_nrm_i (ZI @map_als_i (ZI @map_fix_i (ZI @map_nrm_b (ZI @map_als_b (ZI @map_fix_b (ZI @map_nrm_z (ZI @map_als_z (ZI @map_fix_z (ZI @map_nrm_u8 (ZI @cmp_als_i (ZI @cmp_als_b (ZI @cmp_als_z (ZI @map_als_u8 (ZI @map_fix_u8 (ZI @is_some (ZI @c_eq (ZI @c_and (ZI @c_and2 (ZI @c_exarr (ZI @c_exarr2 (ZI @c_fimp (ZI @c_timp (ZI @c_ball0 (ZI @c_ballc (ZI @c_subnil (ZI @c_zadd (ZI @c_addz (ZI @c_subz (ZI @c_mem0 (ZI @c_memc (ZI @c_orf (ZI @c_for (ZI @c_ort (ZI @c_tor (ZI @c_notf (ZI @c_nott (ZI @c_nle (ZI @c_zle (ZI @sub_map (ZI @rgL_map (ZI @rg_sc (ZI @rg_lst (ZI @rg_tg (ZI @rg_bp (@rg_top)))))))))))))))))))))))))))))))))))))))))))))))))))))))))))))))))))))))))))))))))))
def VS2:=ZI @rg_agg (ZI @rg_fn (ZI @rg_tup (ZI @rg_sl (ZI @rg_pt (ZI @rrg_var (ZI @rrg_arr (ZI @rrg_dead (ZI @pos_cons (ZI @cnm_eq (ZI @bkn_eq (ZI @rowIn_eq (ZI @rowBk_eq (ZI @oments_var (ZI @oments_arr (ZI @l_getD0 (ZI @l_getDS (ZI @ren_sc (ZI @ren_lst (ZI @ren_tg (ZI @ren_bp (ZI @ren_top (ZI @ren_agg (ZI @ren_fn (ZI @ren_tup (ZI @ren_sl (ZI @ren_pt (ZI @awp_skip (ZI @awp_reg (ZI @awp_drw (ZI @awp_regh (ZI @awp_seq (ZI @awp_cond (ZI @awpC_t (ZI @awpC_u (ZI @awpC_f (ZI @awp_seqa (ZI @awp_seqb (ZI @rb_mk (ZI @rbQ_eq (ZI @scal_sc (ZI @awp_blk (ZI @awp_exit (ZI @awp_ret (ZI @thn_nrm (ZI @thn_ex (ZI @thn_ret (ZI @inb_nrm (ZI @inb_ex (ZI @inb_ret (ZI @eff_mv (ZI @eff_pick (ZI @ePick_t (ZI @ePick_f (ZI @eff_alloc (ZI @eff_box (ZI @eff_build (ZI @eff_bsl (ZI @isLive_var (ZI @isLive_arr (ZI @gone_eq (ZI @k1_eq (ZI @eff_load (ZI @eLoad_bp (ZI @eLoad_pt (ZI @eLoadPt_var (ZI @eLoadPt_arr (ZI @ldArr_eq (ZI @eff_store (ZI @eStore_pt (ZI @eStorePt_var (ZI @stVar_eq (ZI @eStorePt_arr (ZI @stArr_eq (ZI @stArr2_eq (ZI @eff_bsm (ZI @eff_stv (ZI @eff_lda (ZI @eff_fdv (ZI @aPb_pt (ZI @aPb_bp (ZI @vPv_pt (ZI @eff_ldv (@eff_str)))))))))))))))))))))))))))))))))))))))))))))))))))))))))))))))))))))))))))))))))))
def VS3:=ZI @vPt_pt (ZI @vPt_bp (ZI @aPt_pt (ZI @vRow_var (ZI @aRow_arr (ZI @eff_bin (ZI @eff_beq (ZI @eBeq_e (ZI @eBeq_n (ZI @eff_aeq (ZI @eAeq_e (ZI @eAeq_n (ZI @eff_un (ZI @eff_conv (ZI @eConv_i (ZI @eff_mkf (ZI @eff_mks (ZI @eMks_i (ZI @eff_slc (ZI @eSlc_lst (ZI @eSlc_lst3 (ZI @eSlc_sl (ZI @eff_slz (ZI @eSlz_z (ZI @bOk_none (ZI @bOk_i (ZI @bV_none (ZI @bV_i (ZI @eff_fad (ZI @eFad_bp (ZI @eFad_pt (ZI @eff_idx (ZI @eff_idv (ZI @iPt_sl (ZI @iPt_lst (ZI @eff_lnv (ZI @eff_stw (ZI @wPt_pt (ZI @eIdx_lst (ZI @idxK_eq (ZI @fls_o (ZI @fls_s (ZI @fls_m (ZI @fls_u (ZI @eIdx_sl (ZI @eff_fld (ZI @eFld_agg (ZI @eff_stri (ZI @eStri_z (ZI @strK_eq (ZI @eff_ext (ZI @eExt_tup (ZI @eff_call (ZI @eff_dyn (ZI @eff_callM (ZI @eff_dynM (ZI @eDynM_fn (ZI @eDyn_fn (ZI @eff_len (ZI @eLen_lst (ZI @eLen_tg (ZI @eLen_sl (ZI @eff_lenz (ZI @eff_capn (ZI @eCapn_n (ZI @eff_slg (ZI @eSlg_n (ZI @eff_apz (ZI @eApz_n (ZI @eLenz_z (ZI @eff_b2s (ZI @eB2s_lst (ZI @eB2s_sl (ZI @eB2sR_arr (ZI @b2sK_eq (ZI @eff_isn (ZI @eIsn_lst (ZI @eIsn_tg (ZI @eIsn_sl (ZI @nilK_eq (ZI @c_ub_t (ZI @c_ub_f (ZI @l_emp_map (@eff_apq)))))))))))))))))))))))))))))))))))))))))))))))))))))))))))))))))))))))))))))))))))
def VS4:=ZI @eApq_sl (ZI @appQ_arr (ZI @eff_slx (ZI @eff_slm (ZI @eSlm_sl (ZI @eSlmR_arr (ZI @eSlx_sl (ZI @eSlxR_arr (ZI @eff_clr (ZI @eClr_sl (ZI @eClrR_arr (ZI @eff_cpy (ZI @eCpy_sl (ZI @eCpyR_arr (ZI @eff_app (ZI @eApp_sl (ZI @eApp_tg (ZI @appTg_eq (ZI @appY_mv (ZI @appMv_arr (ZI @appY_cp (ZI @appCp_some (ZI @elems_lst (ZI @elems_tg (ZI @elems_sl (ZI @elemsSl_arr (ZI @appSl_arr (ZI @eff_nilc (ZI @eNil_bp (ZI @eNil_pt (ZI @eff_mn (ZI @eMn_i (ZI @eff_mx (ZI @eMx_i (ZI @bin_add (ZI @bin_sub (ZI @bin_mul (ZI @bin_quo (ZI @bin_rem (ZI @bin_and (ZI @bin_or (ZI @bin_xor (ZI @bin_andNot (ZI @bin_eql (ZI @bin_neq (ZI @bin_lss (ZI @bin_leq (ZI @bin_gtr (ZI @bin_geq (ZI @bin_shl (ZI @bin_shr (ZI @shl_i (ZI @shr_i (ZI @bin_zadd (ZI @bin_zeql (ZI @bin_zneq (ZI @un_neg (ZI @un_not (ZI @opt_some (ZI @stOps_nil (ZI @stOps_none (ZI @stOps_some (ZI @stH_inn (ZI @stH_har (ZI @harK_eq (ZI @midS_nil (ZI @midS_cons (ZI @innP_pt (ZI @innR_arr (ZI @innL_lst (ZI @argI_t (ZI @argI_c (ZI @argIok_t (ZI @argIok_c (ZI @goOn_eq (ZI @goBy_eq (ZI @cont_eq (ZI @endR_eq (ZI @guardd_tt (ZI @guardd_tf (ZI @guardd_ft (ZI @guardd_ff (ZI @guardd_s (@can_nil)))))))))))))))))))))))))))))))))))))))))))))))))))))))))))))))))))))))))))))))))))
def VS5:=ZI @can_cons (ZI @can_consf (ZI @can_consr (ZI @canW_sl (ZI @canW_nil (ZI @canW_o (ZI @canW_m (ZI @canW_s (ZI @canG_o (ZI @canG_m (ZI @canG_s (ZI @can_consz (ZI @canZ_sl (ZI @canZ_lst (ZI @canZ_agg (ZI @canZc_nil (ZI @canZc_sl (ZI @canZc_lst (ZI @canZc_sc (ZI @canZcr_mk (ZI @can_conse (ZI @canE_sl (ZI @canE_nil (ZI @canE_o (ZI @canE_m (ZI @canE_s (ZI @canEN_mk (ZI @can_consw (ZI @canX_arr (ZI @canX_none (ZI @canX_agg (ZI @canXc_nil (ZI @canXc_sl (ZI @canXc_lst (ZI @canXc_sc (ZI @canXcr_mk (ZI @canX_dead (ZI @cellAt_agg (ZI @cellAt_sl (ZI @cellAt_lst (ZI @nthA_z (ZI @nthA_s (ZI @setA_z (ZI @setA_s (ZI @canG_sl (ZI @canG_nil (ZI @canFN_nl (ZI @canFN_mk (ZI @canV_sl (ZI @canV_nil (ZI @canV_o (ZI @canV_m (ZI @canV_s (ZI @get_mk (ZI @row_mk (ZI @gx_t (ZI @gx_c (ZI @app_some (ZI @app_none (ZI @putAll_nil (ZI @putAll_cons (ZI @know_mk (ZI @look_nil (ZI @look_cons (ZI @put_nil (ZI @put_cons (ZI @del_nil (ZI @del_cons (ZI @getD_some (ZI @getD_none (ZI @canSr_mk (ZI @canZr_mk (ZI @canSl_mk (ZI @canNil_mk (ZI @res_mk (ZI @resOk_eq (ZI @rhush_var (ZI @rhush_arr (ZI @rhush_dead (ZI @rmap_var (ZI @rmap_arr (ZI @rmap_dead (ZI @rments_var (@rments_arr)))))))))))))))))))))))))))))))))))))))))))))))))))))))))))))))))))))))))))))))))))
def VS6:=ZI @rments_dead (ZI @hush_eq (ZI @ments_sc (ZI @ments_lst (ZI @ments_tg (ZI @ments_bp (ZI @ments_top (ZI @ments_sl (ZI @ments_pt (ZI @ments_agg (ZI @ments_fn (ZI @ments_tup (ZI @mentsL_nil (ZI @mentsL_cons (ZI @part_load1 (ZI @part_aggs (ZI @setPart_agg1 (ZI @setPart_sl1 (ZI @setPart_lst1 (ZI @setPart_aggs (ZI @setPart_sc (ZI @setPart_lst (ZI @setPart_lstsl (ZI @setPart_slsl (ZI @cells_agg (ZI @cells_sc (ZI @cells_lst (ZI @cells_sl (ZI @cells_fn (ZI @width_agg (ZI @width_sc (ZI @width_lst (ZI @width_sl (ZI @width_fn (ZI @fill_eq (ZI @fills_nil (ZI @fills_cons (ZI @fin_ret (ZI @fin_nrm (ZI @rv_t (ZI @rv_c (ZI @rvC_pt (ZI @rvPt_var (ZI @rvs_nil (ZI @rvs_cons (ZI @pairO_some (ZI @tupd_one (ZI @tupd_two (ZI @start_eq (ZI @start_nil (ZI @start_cons (ZI @body_eq (ZI @fl1 (ZI @fl2 (ZI @fl3 (ZI @fl4 (ZI @fl5 (ZI @fl6 (ZI @fl7 (ZI @fl8 (ZI @l_map_cons (ZI @l_map_nil (ZI @l_app_nil (ZI @l_nil_app (ZI @l_cons_app (ZI @l_len_cons (ZI @l_len_nil (ZI @l_len_map (ZI @l_get0 (ZI @l_getS (ZI @l_getmap (ZI @o_map_some (ZI @o_map_none (ZI @l_take_z (ZI @l_take_s (ZI @l_drop_z (ZI @l_drop_s (ZI @l_drop_n (ZI @l_take_n (ZI @u8s_map (@toNat_cast))))))))))))))))))))))))))))))))))))))))))))))))))))))))))))))))))))))))))))))))
def VA:=ZI @fixL_map (ZI @adopt_sc (ZI @adopt_u (ZI @adopt_o (ZI @adopt_m (ZI @adopt_s (ZI @adopt_tup (ZI @adopt_agg (ZI @adopt_nil (ZI @adopt_cons (ZI @fix_sc (ZI @fix_lst (ZI @fix_agg (ZI @map_fix_i (ZI @map_fix_b (ZI @map_fix_z (ZI @map_fix_u8 (ZI @c_zadd (ZI @c_addz (ZI @rgL_map (ZI @rg_sc (ZI @rg_lst (ZI @rg_tg (ZI @rg_bp (ZI @rg_top (ZI @rg_agg (ZI @rg_fn (ZI @rg_tup (ZI @rg_sl (ZI @rg_pt (ZI @rrg_var (ZI @rrg_arr (ZI @rrg_dead (ZI @pos_cons (ZI @cnm_eq (ZI @bkn_eq (ZI @rowBk_eq (ZI @l_getD0 (ZI @l_getDS (ZI @gone_eq (ZI @cont_eq (ZI @app_some (ZI @app_none (ZI @putAll_nil (ZI @putAll_cons (ZI @put_nil (ZI @put_cons (ZI @fl5 (ZI @fl6 (ZI @fl7 (ZI @fl8 (ZI @l_map_cons (ZI @l_map_nil (ZI @l_nil_app (ZI @l_cons_app (@l_len_map)))))))))))))))))))))))))))))))))))))))))))))))))))))))
end Vs

