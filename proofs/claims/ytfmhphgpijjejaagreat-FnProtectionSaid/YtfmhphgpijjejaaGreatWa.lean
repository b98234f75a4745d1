/-
  Part of the proof that FnProtection returns true at every input.
-/
import Derived.Calls
import Derived.Below
set_option linter.defProp false
set_option linter.unusedSimpArgs false
set_option linter.unusedVariables false
open List renaming replicate -> A0
namespace Vs
open Go
def g9:=@cond_true
def g8:=@cond_false
def g7:=@decide_eq_true
def u9:=@decide_eq_false
def u7:=@if_pos
def u6:=@if_neg
def u0:=@decide_eq_true_eq
inductive Fl where|o|s|m|u
 deriving DecidableEq
def Fl.als:Fl->Fl
 | .u=>.m
 |f=>f
def Fl.fix:Fl->Fl
 | .o=>.s
 |f=>f
inductive AV where
 |sc (v:Value)
 |lst (f:Fl) (n:Nat) (xs:List AV)
 |tg (f:Fl) (n:Nat) (xs:List AV)
 |agg (cs:List AV)
 |bp (f:Fl) (x:AV) (off:Nat)
 |sl (r i n:Nat)
 |pt (r i off:Nat)
 |fn (f:Nat) (cs:List AV)
 |tup (vs:List AV)
 |ub
 |top
instance:Inhabited AV:=⟨.top⟩
abbrev AV.i(n:Int):AV:=.sc (.int .i64 n)
abbrev AV.u8(n:Int):AV:=.sc (.int .u8 n)
abbrev AV.u64(n:Int):AV:=.sc (.int .u64 n)
abbrev AV.b(b:Bool):AV:=.sc (.bool b)
abbrev AV.z(s:ByteArray):AV:=.sc (.string s)
def AV.width:AV->Nat
 | .agg cs=>cs.length
 | .top=>0
 | .tup _=>0
 |_=>1
def AV.isAgg:AV->Bool
 | .agg _=>true
 |_=>false
def AV.cells:AV->List AV
 | .agg cs=>cs
 | .top=>[]
 | .tup _=>[]
 |x=>[x]
mutual
def AV.nrm:AV->AV
 | .sc v=>.sc v
 | .lst _ n xs=>.lst .o n (hY xs)
 | .tg _ n xs=>.lst .o n (hY xs)
 | .agg cs=>.agg (hY cs)
 | .bp _ x off=>.bp .o x.nrm off
 | .fn f cs=>.fn f (hY cs)
 |_=>.top
def hY:List AV->List AV
 |[]=>[]
 |c::cs=>c.nrm::hY cs
end
mutual
def AV.als:AV->AV
 | .sc v=>.sc v
 | .lst f n xs=>.lst f.als n (dv xs)
 | .agg cs=>.agg (dv cs)
 |_=>.top
def dv:List AV->List AV
 |[]=>[]
 |c::cs=>c.als::dv cs
end
mutual
def AV.fix:AV->AV
 | .sc v=>.sc v
 | .lst f n xs=>.lst f.fix n (gI xs)
 | .agg cs=>.agg (gI cs)
 | .tup cs=>.tup (gI cs)
 | .fn f cs=>.fn f (gI cs)
 |_=>.top
def gI:List AV->List AV
 |[]=>[]
 |c::cs=>c.fix::gI cs
end
mutual
def AV.ments:AV->List Nat
 | .sl r _ _=>[r]
 | .pt r _ _=>[r]
 | .agg cs=>aP cs
 | .fn _ cs=>aP cs
 | .tup cs=>aP cs
 |_=>[]
def aP:List AV->List Nat
 |[]=>[]
 |c::cs=>c.ments++aP cs
end
mutual
def AV.allU:AV->Prop
 | .sc _=>True
 | .lst f _ xs=>f=.u/\kF xs
 | .agg cs=>kF cs
 | .tup cs=>kF cs
 |_=>False
def kF:List AV->Prop
 |[]=>True
 |c::cs=>c.allU/\kF cs
end
mutual
def AV.allO:AV->Prop
 | .sc _=>True
 | .lst f _ xs=>f=.o/\oM xs
 | .agg cs=>oM cs
 | .tup cs=>oM cs
 |_=>False
def oM:List AV->Prop
 |[]=>True
 |c::cs=>c.allO/\oM cs
end
mutual
def AV.ou:AV->Prop
 | .sc _=>True
 | .lst f _ xs=>(f=.u/\ouL xs)\/(f=.o/\oM xs)
 | .agg cs=>ouL cs
 | .tup cs=>ouL cs
 |_=>False
def ouL:List AV->Prop
 |[]=>True
 |c::cs=>c.ou/\ouL cs
end
mutual
def AV.noU:AV->Prop
 | .sc _=>True
 | .lst f _ xs=>f≠.u/\CI xs
 | .agg cs=>CI cs
 | .tup cs=>CI cs
 |_=>False
def CI:List AV->Prop
 |[]=>True
 |c::cs=>c.noU/\CI cs
end
def sub(es:List AV)(i n:Nat):List AV:=if i=0/\n=es.length then es else(es.drop i).take n
def dg{α:Type}(es:List α)(i:Nat)(ys:List α):List α:=if i+ys.length<=es.length then es.take i++ys++es.drop (i+ys.length) else es
inductive Row where
 |var (x:AV)
 |arr (n:Nat) (es:List AV)
 |dead
def cR:Option Row->Prop
 |some (.var _)=>True
 |some (.arr _ _)=>True
 |_=>False
def aB{α:Type}(k:Nat):List (Nat×α)->Option α
 |[]=>none
 |(j,x)::l=>if j=k then some x else aB k l
def put{α:Type}(k:Nat)(x:α):List (Nat×α)->List (Nat×α)
 |[]=>[(k,x)]
 |(j,y)::l=>if j=k then(k,x)::l else(j,y)::put k x l
def oT(o:Option Row)(i n:Nat):AV:=match o with
 |some (.arr w es)=>.lst .o w (hY (sub es i n))
 |_=>.top
def mD(h:AV->AV)(o:Option Row)(i off:Nat):AV:=match o with
 |some (.var y)=>if i=0 then .bp .o (h y) off else .top
 | some (.arr _ es) => match es[i]? with
   |some y=>.bp .o y.nrm off
   |none=>.top
 |_=>.top
def snp(ρ:Nat->Option Row):Nat->AV->AV
 |0,_=>.top
 | k + 1, x => match x with
   | .sl r i n=>oT (ρ r) i n
   | .pt r i off=>mD (snp ρ k) (ρ r) i off
   | .agg cs=>.agg (cs.map (snp ρ k))
   | .fn f cs=>.fn f (cs.map (snp ρ k))
   |x=>x.nrm
def mw(o:Option Row)(i n:Nat):AV:=match o with
 |some (.arr w es)=>.lst .u w (sub es i n)
 |_=>.top
def lift(ρ:Nat->Option Row):Nat->AV->AV
 |0,_=>.top
 | k + 1, x => match x with
   | .sl r i n=>mw (ρ r) i n
   | .agg cs=>.agg (cs.map (lift ρ k))
   | .tup cs=>.tup (cs.map (lift ρ k))
   | .sc v=>.sc v
   | .lst f n xs=>.lst f n xs
   |_=>.top
def adopt:Nat->Nat->AV->AV×List (Nat×Row)×Nat
 |0,c,_=>(.top,[],c)
 | k + 1, c, x => match x with
   | .lst .u n es=>(.sl c 0 es.length,[(c,.arr n (gI es))],c+1000)
   | .agg cs=>let(l,u,c):=go k c cs;(.agg l,u,c)
   | .tup cs=>let(l,u,c):=go k c cs;(.tup l,u,c)
   |x=>(x.fix,[],c)
where
 go (k:Nat):Nat->List AV->List AV×List (Nat×Row)×Nat
  |c,[]=>([],[],c)
  | c, x :: xs =>
    let(y,u,c):=adopt k c x;let(ys,us,c):=go k c xs
    (y::ys,u++us,c)
inductive X where
 |t (n:Nat)
 |c (a:AV)
inductive AOp where
 |mv (x:X)
 |pick (c a b:X)
 |alloc (z:AV)
 |box (n:Nat) (x:X)
 |build (z:List AV) (ps:List (Nat×Nat×X))
 |bsl (n:Nat) (fr:Bool) (ps:List X)
 |load (n:Nat) (ag:Bool) (x:X)
 |store (n:Nat) (x v:X)
 |bin (op:BinOp) (x y:X)
 |beq (neg:Bool) (x y:X)
 |un (op:UnOp) (x:X)
 |conv (k:IntKind) (x:X)
 |mkf (f:Nat) (cs:List X)
 |mks (n:Nat) (z:AV) (bytes:Nat) (l c:X)
 |slc (n:Nat) (x:X) (lo hi mx:Option X)
 |slz (x:X) (lo hi:Option X)
 |fad (off:Nat) (x:X)
 |idx (n:Nat) (x i:X)
 |fld (off n:Nat) (ag:Bool) (x:X)
 |stri (x i:X)
 |ext (x:X) (j:Nat)
 |call (f:Nat) (xs:List X)
 |dyn (x:X) (xs:List X)
 |callM (f:Nat) (xs:List X) (rs:List Nat)
 |dynM (x:X) (xs:List X) (rs:List Nat)
 |len (x:X)
 |lenz (x:X)
 |capn (x:X)
 |slg (n:Nat) (x hi:X)
 |apz (n:Nat) (z:AV) (bytes:Nat) (x l:X)
 |b2s (x:X)
 |isn (neg:Bool) (x:X)
 |aeq (neg:Bool) (x y:X)
 |apq (n:Nat) (x y:X)
 |slx (n:Nat) (x:X) (lo hi:Option X)
 |slm (n:Nat) (x lo hi mx:X)
 |clr (n:Nat) (z:AV) (x:X)
 |cpy (n:Nat) (x y:X)
 |ldv (av:List Nat) (n:Nat) (ag:Bool) (x:X)
 |lde (av:List Nat) (n:Nat) (ag:Bool) (x:X)
 |str (n:Nat) (x v:X)
 |lda (n:Nat) (ag:Bool) (x:X)
 |stv (n:Nat) (x v:X)
 |fdv (av:List Nat) (off:Nat) (x:X)
 |idv (av:List Nat) (n:Nat) (x i:X)
 |lnv (av:List Nat) (x:X)
 |stw (r n:Nat) (x v:X)
 |bsm (n:Nat) (ps:List X)
 |app (n bytes:Nat) (mv:Bool) (x y:X)
 |nilc (x:X)
 |mn (x y:X)
 |mx (x y:X)
 |bad
structure bl where
 d:Option Nat
 op:AOp
 gd:Option (Nat×Bool)
inductive Can where
 |s (d:Nat)
 |f (far:Bool) (d r j:Nat)
 |r (d:Nat)
 |z (d:Nat)
 |e (far:Bool) (d k j:Nat)
 |w (r:Nat)
inductive au where
 |skip
 |reg (ops:List bl) (can:List Can)
 |drw (ops:List bl) (can:List Can)
 |seq (a b:au)
 |seqr (a:au) (lv lr:List Nat) (b:au)
 |seqa (x a:au) (lv lr:List Nat) (b:au)
 |seqb (a:au) (lv:List Nat) (b:au)
 |cond (x:X) (a b:au)
 |blk (id:Nat) (a:au)
 |loop (a:au)
 |exit (id:Nat)
 |ret
structure St where
 env:List (Nat×AV)
 rows:List (Nat×Row)
def St.get(σ:St)(k:Nat):AV:=(aB k σ.env).getD .top
def St.row(σ:St)(r:Nat):Option Row:=aB r σ.rows
def St.gx(σ:St):X->AV
 | .t n=>σ.get n
 | .c a=>a
def bg(l:List (Nat×Row))(rows:List (Nat×Row)):List (Nat×Row):=l.foldl (fun rs p=>put p.1 p.2 rs) rows
def St.app(σ:St)(d:Option Nat)(v:AV)(u:List (Nat×Row)):St:=
 {env:=match d with|some d=>put d v σ.env|none=>σ.env,rows:=bg u σ.rows}
def St.know(σ:St)(s:Nat)(b:Bool):St:={σ with env:=put s (.b b) σ.env}
def I64(n:Int):Prop:=-9223372036854775808<=n/\n<=9223372036854775807
def fill(cs:List AV)(off:Nat)(v:AV):List AV:=cs.take off++v.cells++cs.drop (off+v.cells.length)
def lM:List AV->List (Nat×AV)->List AV
 |cs,[]=>cs
 |cs,(off,v)::l=>lM (fill cs off v) l
def part(x:AV)(off n:Nat)(ag:Bool):Option AV:=
 if ag then(if x.isAgg=true/\off+n<=x.width then some (if off=0/\n=x.width then .agg x.cells else .agg ((x.cells.drop off).take n)) else none)
 else x.cells[off]?
def setPart(x:AV)(off:Nat)(v:AV):Option AV:=
 if x.isAgg=true then
  (if v.isAgg=true then(if off=0/\v.width=x.width then some v else if off+v.width<=x.width then some (.agg (fill x.cells off v)) else none)
   else if off+1<=x.width then some (.agg (fill x.cells off v)) else none)
 else if off=0/\v.isAgg=false/\x.width=1 then some v else none
def bits(op:BinOp)(k:IntKind)(x y:Int):Int:=
 let a:=BitVec.ofInt k.bits x;let b:=BitVec.ofInt k.bits y
 k.wrap (match op with| .and=>(a &&& b).toNat| .or=>(a ||| b).toNat| .xor=>(a ^^^ b).toNat|_=>(a &&& ~~~b).toNat)
def ofI(k:IntKind)(n:Int)(K:AV->Prop):Prop:=K (.sc (.int k (k.wrap n)))
def eb(op:BinOp)(k:IntKind)(a b:Int)(K:AV->Prop):Prop:=
 match op with
 | .add=>ofI k (a+b) K
 | .sub=>ofI k (a-b) K
 | .mul=>ofI k (a*b) K
 | .quo=>b≠0/\ofI k (a.tdiv b) K
 | .rem=>b≠0/\K (.sc (.int k (a.tmod b)))
 | .and=>K (.sc (.int k (bits .and k a b)))
 | .or=>K (.sc (.int k (bits .or k a b)))
 | .xor=>K (.sc (.int k (bits .xor k a b)))
 | .andNot=>K (.sc (.int k (bits .andNot k a b)))
 | .eql=>K (.b (a==b))
 | .neq=>K (.b (a !=b))
 | .lss=>K (.b (decide (a<b)))
 | .leq=>K (.b (decide (a<=b)))
 | .gtr=>K (.b (decide (a>b)))
 | .geq=>K (.b (decide (a>=b)))
 |_=>False
def fg(op:BinOp)(k:IntKind)(a y:Int)(K:AV->Prop):Prop:=
 0<=y/\match op with
 | .shl=>ofI k (a*2^(min y.toNat k.bits)) K
 | .shr=>K (.sc (.int k (a.fdiv (2^(min y.toNat k.bits)))))
 |_=>False
def dA(op:BinOp)(x y:AV)(K:AV->Prop):Prop:=
 match x,y with
 | .sc (.int k a), .sc (.int k' b) =>
   match op with
   | .shl=>fg .shl k a b K
   | .shr=>fg .shr k a b K
   |op=>k=k'/\eb op k a b K
 | .sc (.string a), .sc (.string b) =>
   match op with
   | .add=>a.size+b.size<=9223372036854775807/\K (.z (a++b))
   | .eql=>K (.b (a.toList==b.toList))
   | .neq=>K (.b (!(a.toList==b.toList)))
   |_=>False
 |_,_=>False
def unV(op:UnOp)(x:AV)(K:AV->Prop):Prop:=
 match op,x with
 | .neg,.sc (.int k n)=>ofI k (0-n) K
 | .not,.sc (.bool b)=>K (.b (!b))
 |_,_=>False
def bP(rs:List Nat):List (Nat×Row):=rs.map fun r=>(r,.dead)
def nz(n:Nat)(o:Option Row)(i k:Nat):Option (List AV):=match o with
 |some (.arr w es)=>if w=n then some (dv (sub es i k)) else none
 |_=>none
def dX(n:Nat)(ρ:Nat->Option Row):AV->Option (List AV)
 | .lst _ w xs=>if w=n then some xs else none
 | .tg _ w xs=>if w=n then some xs else none
 | .sl r i k=>nz n (ρ r) i k
 |_=>none
def zd(n r m:Nat)(o:Option Row):Option (List AV×List (Nat×Row)):=match o with
 |some (.arr w ys)=>if w=n/\m=ys.length then some (ys,[(r,.dead)]) else none
 |_=>none
def kt(o:Option (List AV)):Option (List AV×List (Nat×Row)):=match o with
 |some ys=>some (ys,[])
 |none=>none
def mh(ρ:Nat->Option Row)(n:Nat)(mv:Bool)(y:AV):Option (List AV×List (Nat×Row)):=match mv,y with
 |true,.sl r 0 m=>zd n r m (ρ r)
 |_,y=>kt (dX n ρ y)
def bOk(o:Option AV):Prop:=match o with
 |none=>True
 |some (.sc (.int _ n))=>0<=n
 |_=>False
def bV(o:Option AV)(dflt:Nat):Nat:=match o with
 |some (.sc (.int _ n))=>n.toNat
 |_=>dflt
def u8s:List AV->Option (List Int)
 |[]=>some []
 | .sc (.int .u8 n) :: xs => match u8s xs with
   |some ns=>some (n::ns)
   |none=>none
 |_=>none
def b2s(ns:List Int):ByteArray:=ns.foldl (fun r n=>r.push (UInt8.ofNat n.toNat)) ByteArray.empty
def opt{α:Type}(o:Option α)(K:α->Prop):Prop:=match o with
 |some v=>K v
 |none=>False
section
variable(K:AV->List (Nat×Row)->Prop)
def k1(v:AV):Prop:=K v []
def lN(c a b:AV):Prop:=match c with
 | .sc (.bool t)=>(t=true->K a [])/\(t=false->K b [])
 |_=>False
def QD(off n:Nat)(ag:Bool)(y:AV):Prop:=opt (part y.als off n ag) (k1 K)
def eT(o:Option Row)(i off n:Nat)(ag:Bool):Prop:=match o with
 |some (.var y)=>i=0/\opt (part y off n ag) (k1 K)
 |some (.arr _ es)=>opt es[i]? (QD K off n ag)
 |_=>False
def eP(ρ:Nat->Option Row)(n:Nat)(ag:Bool)(x:AV):Prop:=match x with
 | .bp _ y off=>opt (part y off n ag) (k1 K)
 | .pt r i off=>eT K (ρ r) i off n ag
 |_=>False
def SQ(r:Nat)(y:AV):Prop:=K .top [(r,.var y)]
def Dm(u:List (Nat×Row))(r w i:Nat)(es:List AV)(y:AV):Prop:=K .top (u++[(r,.arr w (es.set i y))])
def qD(ρ:Nat->Option Row)(r w i off:Nat)(es:List AV)(v y:AV):Prop:=
 r∉v.ments/\v.ments.Nodup/\(lift ρ 2 v).width=v.width/\opt (setPart y off (lift ρ 2 v)) (Dm K (bP v.ments) r w i es)
def ej(ρ:Nat->Option Row)(o:Option Row)(r i off:Nat)(v:AV):Prop:=match o with
 |some (.var y)=>i=0/\opt (setPart y off v) (SQ K r)
 |some (.arr w es)=>opt es[i]? (qD K ρ r w i off es v)
 |_=>False
def dQ(ρ:Nat->Option Row)(n:Nat)(x v:AV):Prop:=match x with
 | .pt r i off=>v.width=n/\ej K ρ (ρ r) r i off v
 |_=>False
def iPt(av:List Nat):AV->Prop
 | .sl r _ _=>r∉av
 | .lst _ _ _=>True
 |_=>False
def Ce:Option Row->Prop
 |some (.var _)=>True
 |_=>False
def Ck:Option Row->Prop
 |some (.arr _ _)=>True
 |_=>False
def lPt(av:List Nat):AV->Prop
 | .pt r _ _=>r∉av
 | .bp _ _ _=>True
 |_=>False
def vPt(av:List Nat)(ρ:Nat->Option Row):AV->Prop
 | .pt r _ _=>r∉av/\Ce (ρ r)
 | .bp _ _ _=>True
 |_=>False
def aPt(ρ:Nat->Option Row):AV->Prop
 | .pt r _ _=>Ck (ρ r)
 |_=>False
def aPb(ρ:Nat->Option Row):AV->Prop
 | .pt r _ _=>Ck (ρ r)
 | .bp _ _ _=>True
 |_=>False
def wPt(r:Nat)(ρ:Nat->Option Row):AV->Prop
 | .pt q _ _=>q=r/\Ce (ρ q)
 |_=>False
def vPv(ρ:Nat->Option Row):AV->Prop
 | .pt r _ _=>Ce (ρ r)
 |_=>False
def yA(neg:Bool)(x y:AV):Prop:=match x,y with
 | .sc (.bool a),.sc (.bool b)=>K (.sc (.bool (if neg then !(a==b) else(a==b)))) []
 |_,_=>False
def AU(neg:Bool)(x y:AV):Prop:=match x,y with
 | .agg [.sc (.int .i64 a),.sc (.int .i64 b)],.agg [.sc (.int .i64 c),.sc (.int .i64 e)]=>K (.sc (.bool (if neg then !(a==c&&b==e) else(a==c&&b==e)))) []
 |_,_=>False
def si(k:IntKind)(x:AV):Prop:=match x with
 | .sc (.int _ n)=>K (.sc (.int k (k.wrap n))) []
 |_=>False
def tw(o:Option Row)(d n:Nat)(z:AV)(bytes:Nat)(l c:AV):Prop:=match l,c with
 | .sc (.int .i64 l),.sc (.int .i64 c)=>o=none/\z.width=n/\0<=l/\l<=c/\c*bytes<=140737488355328/\c<=9223372036854775807/\K (.sl d 0 l.toNat) [(d,.arr n (A0 l.toNat z))]
 |_,_=>False
def su(ρ:Nat->Option Row)(n:Nat)(x:AV)(lo hi mx:Option AV):Prop:=match x with
 | .lst f w xs=>w=n/\bOk lo/\bOk hi/\bV lo 0<=bV hi xs.length/\bV hi xs.length<=xs.length/\
  match mx with
  |none=>K (.lst f n (sub xs (bV lo 0) (bV hi xs.length-bV lo 0))) []
  |some m=>hi.isSome/\bOk (some m)/\bV (some m) 0=bV hi xs.length/\K (.tg f n (sub xs (bV lo 0) (bV hi xs.length-bV lo 0))) []
 | .sl r i m=>(∃es,ρ r=some (.arr n es))/\bOk lo/\bOk hi/\bV lo 0<=bV hi m/\bV hi m<=m/\mx=none/\K (.sl r (i+bV lo 0) (bV hi m-bV lo 0)) []
 |_=>False
def VR(x:AV)(lo hi:Option AV):Prop:=match x with
 | .sc (.string s)=>bOk lo/\bOk hi/\bV lo 0<=bV hi s.size/\bV hi s.size<=s.size/\K (.sc (.string (s.extract (bV lo 0) (bV hi s.size)))) []
 |_=>False
def mt(ρ:Nat->Option Row)(off:Nat)(x:AV):Prop:=match x with
 | .bp f y o=>K (.bp f y (o+off)) []
 | .pt r i o=>cR (ρ r)/\K (.pt r i (o+off)) []
 |_=>False
def aen(f:Fl)(y:AV):Prop:=K (.bp f y 0) []
def ke(ρ:Nat->Option Row)(n:Nat)(x i:AV):Prop:=match x,i with
 | .lst f w xs,.sc (.int _ j)=>w=n/\0<=j/\opt xs[j.toNat]? (aen K f.als)
 | .sl r a m,.sc (.int _ j)=>(∃es,ρ r=some (.arr n es))/\0<=j/\j<m/\K (.pt r (a+j.toNat) 0) []
 |_,_=>False
def HR(off n:Nat)(ag:Bool)(x:AV):Prop:=x.isAgg=true/\opt (part x off n ag) (k1 K)
def aci(c:UInt8):Prop:=K (.sc (.int .u8 c.toNat)) []
def qT(x i:AV):Prop:=match x,i with
 | .sc (.string s),.sc (.int _ j)=>0<=j/\opt s[j.toNat]? (aci K)
 |_,_=>False
def Db(x:AV)(j:Nat):Prop:=match x with
 | .tup vs=>opt vs[j]? (k1 K)
 |_=>False
def lx(ρ:Nat->Option Row)(x:AV):Prop:=match x with
 | .lst _ _ xs=>K (.i xs.length) []
 | .tg _ _ xs=>K (.i xs.length) []
 | .sl r _ n=>(∃w es,ρ r=some (.arr w es))/\K (.i n) []
 |_=>False
def qH(x:AV):Prop:=match x with
 | .lst .u _ []=>K (.i 0) []
 |_=>False
def Dp(n:Nat)(x hi:AV):Prop:=match x,hi with
 | .lst .u w [],.sc (.int _ h)=>w=n/\h=0/\K (.lst .u n []) []
 |_,_=>False
def sG(x:AV):Prop:=match x with
 | .sc (.string s)=>K (.i s.size) []
 |_=>False
def Sx(ns:List Int):Prop:=K (.sc (.string (b2s ns))) []
def FH(o:Option Row)(i m:Nat):Prop:=match o with
 |some (.arr w es)=>w=1/\opt (u8s (sub es i m)) (Sx K)
 |_=>False
def XR(ρ:Nat->Option Row)(x:AV):Prop:=match x with
 | .lst _ w xs=>w=1/\opt (u8s xs) (Sx K)
 | .sl r i m=>FH K (ρ r) i m
 |_=>False
def xC(o:Option Row)(r n:Nat)(z:AV)(i m:Nat):Prop:=match o with
 |some (.arr w es)=>w=n/\z.width=n/\K (.tup []) [(r,.arr w (dg es i (A0 m z)))]
 |_=>False
def Hv(ρ:Nat->Option Row)(n:Nat)(z x:AV):Prop:=match x with
 | .sl r i m=>xC K (ρ r) r n z i m
 |_=>False
def zX(o:Option Row)(r n i m:Nat)(ys:List AV):Prop:=match o with
 |some (.arr w es)=>w=n/\K (.i (min ys.length m:Nat)) [(r,.arr w (dg es i (ys.take (min ys.length m))))]
 |_=>False
def Ia(ρ:Nat->Option Row)(n:Nat)(x y:AV):Prop:=match x with
 | .sl r i m=>opt (dX n ρ y) (zX K (ρ r) r n i m)
 |_=>False
def tq(neg e:Bool):Prop:=K (cond e .ub (.b neg)) []
def yn(ρ:Nat->Option Row)(neg:Bool)(x:AV):Prop:=match x with
 | .lst _ _ xs=>tq K neg xs.isEmpty
 | .tg _ _ xs=>tq K neg xs.isEmpty
 | .sl r _ n=>(∃w es,ρ r=some (.arr w es))/\tq K neg (n==0)
 |_=>False
def Pv(o:Option Row)(r n i m:Nat)(ys:List AV):Prop:=match o with
 |some (.arr w es)=>w=n/\i+m+ys.length<=es.length/\K (.sl r i (m+ys.length)) [(r,.arr w (dg es (i+m) ys))]
 |_=>False
def Ki(ρ:Nat->Option Row)(n:Nat)(x y:AV):Prop:=match x with
 | .sl r i m=>opt (dX n ρ y) (Pv K (ρ r) r n i m)
 |_=>False
def uU(o:Option Row)(r n i m:Nat)(lo hi:Option AV):Prop:=match o with
 |some (.arr w es)=>w=n/\bOk lo/\bOk hi/\bV lo 0<=bV hi m/\i+bV hi m<=es.length/\K (.sl r (i+bV lo 0) (bV hi m-bV lo 0)) []
 |_=>False
def AG(ρ:Nat->Option Row)(n:Nat)(x:AV)(lo hi:Option AV):Prop:=match x with
 | .sl r i m=>uU K (ρ r) r n i m lo hi
 |_=>False
def zg(o:Option Row)(n m:Nat)(lo hi mx:AV):Prop:=match o,lo,hi,mx with
 |some (.arr w _),.sc (.int _ l),.sc (.int _ h),.sc (.int _ q)=>w=n/\0<=l/\l<=h/\h<=q/\q<=(m:Int)/\K .top []
 |_,_,_,_=>False
def HM(ρ:Nat->Option Row)(n:Nat)(x lo hi mx:AV):Prop:=match x with
 | .sl r _ m=>zg K (ρ r) n m lo hi mx
 |_=>False
def qi(o:Option Row)(d n bytes r i m:Nat)(p:List AV×List (Nat×Row)):Prop:=match o with
 |some (.arr w es)=>w=n/\r∉p.2.map (·.1)/\(m+p.1.length)*bytes<=140737488355328/\K (.sl d 0 (m+p.1.length)) ((r,.dead)::p.2++[(d,.arr n (sub es i m++p.1))])
 |_=>False
def xW(d n bytes w:Nat)(es:List AV)(p:List AV×List (Nat×Row)):Prop:=
 w=n/\0<p.1.length/\(es.length+p.1.length)*bytes<=140737488355328/\K (.sl d 0 (es.length+p.1.length)) (p.2++[(d,.arr n (dv es++p.1))])
def vE(ρ:Nat->Option Row)(d n bytes:Nat)(mv:Bool)(x y:AV):Prop:=match x with
 | .sl r i m=>ρ d=none/\opt (mh ρ n mv y) (qi K (ρ r) d n bytes r i m)
 | .tg _ w es=>ρ d=none/\opt (mh ρ n mv y) (xW K d n bytes w es)
 |_=>False
def JY(o:Option Row)(d n:Nat)(z:AV)(bytes:Nat)(x l:AV):Prop:=match x,l with
 | .lst .u w [],.sc (.int .i64 l)=>o=none/\w=n/\z.width=n/\n=1/\0<l/\l*bytes<=140737488355328/\K (.sl d 0 l.toNat) [(d,.arr n (A0 l.toNat z))]
 |_,_=>False
def tN(ρ:Nat->Option Row)(x:AV):Prop:=match x with
 | .bp f y o=>K (.bp f y o) []
 | .pt r i o=>cR (ρ r)/\K (.pt r i o) []
 |_=>False
def eMn(x y:AV):Prop:=match x,y with
 | .sc (.int k a),.sc (.int k' b)=>k=k'/\K (.sc (.int k (if b<a then b else a))) []
 |_,_=>False
def eMx(x y:AV):Prop:=match x,y with
 | .sc (.int k a),.sc (.int k' b)=>k=k'/\K (.sc (.int k (if a<b then b else a))) []
 |_,_=>False
end
structure Oks where
 p:Nat->List AV->AV->Prop
 m:Nat->List AV->List (Nat×Row)->AV->List (Nat×Row)->Prop
 h:Nat->List AV->List (Nat×Row)->AV->List (Nat×Row)->Prop
mutual
def AV.rg(h:Nat->Nat):AV->AV
 | .sl q i n=>.sl (h q) i n
 | .pt q i o=>.pt (h q) i o
 | .agg cs=>.agg (rgL h cs)
 | .fn f cs=>.fn f (rgL h cs)
 | .tup cs=>.tup (rgL h cs)
 |x=>x
def rgL(h:Nat->Nat):List AV->List AV
 |[]=>[]
 |c::cs=>c.rg h::rgL h cs
end
def Row.rg(h:Nat->Nat):Row->Row
 | .var x=>.var (x.rg h)
 |x=>x
def pos(r:Nat):List Nat->Nat
 |[]=>0
 |x::xs=>if x=r then 0 else pos r xs+1
def cnm(rs:List Nat)(r:Nat):Nat:=1000000000+pos r rs
def bkn(d:Nat)(rs:List Nat)(q:Nat):Nat:=if 1000000000<=q then rs.getD (q-1000000000) 0 else q+100000*(d+1)
def gV(ρ:Nat->Option Row)(rs:List Nat)(r:Nat):Nat×Row:=(cnm rs r,((ρ r).getD .dead).rg (cnm rs))
def fS(d:Nat)(rs:List Nat)(p:Nat×Row):Nat×Row:=(bkn d rs p.1,p.2.rg (bkn d rs))
def mc:Option Row->List Nat
 |some (.var x)=>x.ments
 |_=>[]
section
variable(ok:Oks)
def callM(ρ:Nat->Option Row)(d f:Nat)(args:List AV)(rs:List Nat)(K:AV->List (Nat×Row)->Prop):Prop:=
 ∃ res outs, ok.m f (args.map (AV.rg (cnm rs))) (rs.map (gV ρ rs)) res outs ∧
   (rs.Nodup/\(∀r∈rs,cR (ρ r))/\(∀r∈rs,∀q∈mc (ρ r),q∈rs)/\(∀r∈aP args,r∈rs))/\
   ((outs.map fun p => bkn d rs p.1).Nodup ∧ (∀ p ∈ outs, 1000000000 ≤ p.1 → p.1 - 1000000000 < rs.length) ∧
     (∀p∈outs,p.1<1000000000->ρ (bkn d rs p.1)=none/\bkn d rs p.1<1000000000))/\
   K (res.rg (bkn d rs)) (bP rs++outs.map (fS d rs))
def rQ(ρ:Nat->Option Row)(d:Nat)(x:AV)(xs:List AV)(rs:List Nat)(K:AV->List (Nat×Row)->Prop):Prop:=match x with
 | .fn f cs=>callM ok ρ d f (xs++cs) rs K
 |_=>False
def gC(ρ:Nat->Option Row)(d f:Nat)(args:List AV)(K:AV->List (Nat×Row)->Prop):Prop:=
 ∃ res, ok.p f (args.map (snp ρ 4)) res ∧ (res.allU ∨ aP args = [] ∧ (res.ou ∨ res.noU)) ∧ (∀ p ∈ (adopt 4 d res).2.1, ρ p.1 = none ∧ p.1 < 1000000000) ∧
   K (adopt 4 d res).1 (adopt 4 d res).2.1
def xA(ρ:Nat->Option Row)(d:Nat)(x:AV)(xs:List AV)(K:AV->List (Nat×Row)->Prop):Prop:=match x with
 | .fn f cs=>gC ok ρ d f (xs++cs) K
 |_=>False
def eff(g:X->AV)(ρ:Nat->Option Row)(d:Nat):AOp->(AV->List (Nat×Row)->Prop)->Prop
 | .mv x,K=>K (g x) []
 | .pick c a b,K=>lN K (g c) (g a) (g b)
 | .alloc z,K=>ρ d=none/\K (.pt d 0 0) [(d,.var z)]
 | .box n x,K=>ρ d=none/\(g x).width=n/\K (.pt d 0 0) [(d,.var (g x))]
 | .build z ps,K=>(∀p∈ps,(g p.2.2).width=p.2.1/\p.1+p.2.1<=z.length)/\K (.agg (lM z (ps.map fun p=>(p.1,g p.2.2)))) []
 | .bsl n fr ps,K=>(fr=true->aP (ps.map g)=[])/\ρ d=none/\(∀p∈ps,(g p).width=n)/\(aP (ps.map g)).Nodup/\
  K (.sl d 0 ps.length) (bP (aP (ps.map g))++[(d,.arr n ((ps.map g).map (lift ρ 2)))])
 | .load n ag x,K=>eP K ρ n ag (g x)
 | .store n x v,K=>dQ K ρ n (g x) (g v)
 | .bin op x y,K=>dA op (g x) (g y) (k1 K)
 | .beq neg x y,K=>yA K neg (g x) (g y)
 | .un op x,K=>unV op (g x) (k1 K)
 | .conv k x,K=>si K k (g x)
 | .mkf f cs,K=>K (.fn f (cs.map g)) []
 | .mks n z bytes l c,K=>tw K (ρ d) d n z bytes (g l) (g c)
 | .slc n x lo hi mx,K=>su K ρ n (g x) (lo.map g) (hi.map g) (mx.map g)
 | .slz x lo hi,K=>VR K (g x) (lo.map g) (hi.map g)
 | .fad off x,K=>mt K ρ off (g x)
 | .idx n x i,K=>ke K ρ n (g x) (g i)
 | .idv av n x i,K=>iPt av (g x)/\ke K ρ n (g x) (g i)
 | .lnv av x,K=>iPt av (g x)/\lx K ρ (g x)
 | .stw r n x v,K=>wPt r ρ (g x)/\dQ K ρ n (g x) (g v)
 | .fld off n ag x,K=>HR K off n ag (g x)
 | .stri x i,K=>qT K (g x) (g i)
 | .ext x j,K=>Db K (g x) j
 | .call f xs,K=>gC ok ρ d f (xs.map g) K
 | .dyn x xs,K=>xA ok ρ d (g x) (xs.map g) K
 | .callM f xs rs,K=>callM ok ρ d f (xs.map g) rs K
 | .dynM x xs rs,K=>rQ ok ρ d (g x) (xs.map g) rs K
 | .len x,K=>lx K ρ (g x)
 | .lenz x,K=>sG K (g x)
 | .capn x,K=>qH K (g x)
 | .slg n x hi,K=>Dp K n (g x) (g hi)
 | .apz n z bytes x l,K=>JY K (ρ d) d n z bytes (g x) (g l)
 | .b2s x,K=>XR K ρ (g x)
 | .isn neg x,K=>yn K ρ neg (g x)
 | .aeq neg x y,K=>AU K neg (g x) (g y)
 | .apq n x y,K=>Ki K ρ n (g x) (g y)
 | .slx n x lo hi,K=>AG K ρ n (g x) (lo.map g) (hi.map g)
 | .slm n x lo hi mx,K=>HM K ρ n (g x) (g lo) (g hi) (g mx)
 | .clr n z x,K=>Hv K ρ n z (g x)
 | .cpy n x y,K=>Ia K ρ n (g x) (g y)
 | .ldv av n ag x,K=>vPt av ρ (g x)/\eP K ρ n ag (g x)
 | .lde av n ag x,K=>lPt av (g x)/\eP K ρ n ag (g x)
 | .str n x v,K=>aPt ρ (g x)/\(g v).ments=[]/\dQ K ρ n (g x) (g v)
 | .lda n ag x,K=>aPb ρ (g x)/\eP K ρ n ag (g x)
 | .stv n x v,K=>vPv ρ (g x)/\dQ K ρ n (g x) (g v)
 | .fdv av off x,K=>vPt av ρ (g x)/\mt K ρ off (g x)
 | .bsm n ps,K=>(∀r∈aP (ps.map g),Ck (ρ r))/\ρ d=none/\(∀p∈ps,(g p).width=n)/\(aP (ps.map g)).Nodup/\
  K (.sl d 0 ps.length) (bP (aP (ps.map g))++[(d,.arr n ((ps.map g).map (lift ρ 2)))])
 | .app n bytes mv x y,K=>vE K ρ d n bytes mv (g x) (g y)
 | .nilc x,K=>tN K ρ (g x)
 | .mn x y,K=>eMn K (g x) (g y)
 | .mx x y,K=>eMx K (g x) (g y)
 | .bad,_=>False
def fy(σ:St)(s:Nat)(w:Bool)(x:AV)(A B:St->Prop):Prop:=match x with
 | .sc (.bool t)=>(t=w->A (σ.know s w))/\(t=!w->B (σ.know s (!w)))
 | .tup []=>B σ
 |_=>False
def Vh(d:Option Nat)(R:St->Prop)(σ:St)(v:AV)(u:List (Nat×Row)):Prop:=R (σ.app d v u)
def Bk(d:Option Nat)(o:AOp)(R:St->Prop)(σ:St):Prop:=eff ok σ.gx σ.row (d.getD 0) o (Vh d R σ)
def NE(d:Option Nat)(R:St->Prop)(σ:St):Prop:=R (σ.app d (.tup []) [])
def abe(o:bl)(σ:St)(R:St->Prop):Prop:=
 match o.gd with
 |none=>Bk ok o.d o.op R σ
 |some (s,w)=>fy σ s w (σ.get s) (Bk ok o.d o.op R) (NE o.d R)
def fd:List bl->(St->Prop)->St->Prop
 |[],K,σ=>K σ
 |o::os,K,σ=>abe ok o σ (fd os K)
mutual
def AV.fz:AV->Bool
 | .sc _=>true
 | .lst f _ xs=>(match f with| .o=>fzL xs|_=>false)
 | .agg cs=>fzL cs
 | .tup cs=>fzL cs
 | .fn _ cs=>fzL cs
 | .bp f x _=>(match f with| .o=>x.fz|_=>false)
 | .sl _ _ _=>true
 | .pt _ _ _=>true
 | .top=>true
 | .ub=>true
 |_=>false
def fzL:List AV->Bool
 |[]=>true
 |c::cs=>c.fz&&fzL cs
end
mutual
def AV.ouB:AV->Bool
 | .sc _=>true
 | .lst f _ xs=>(match f with| .o=>fzL xs| .u=>gf xs|_=>false)
 | .agg cs=>gf cs
 | .top=>true
 |_=>false
def gf:List AV->Bool
 |[]=>true
 |c::cs=>c.ouB&&gf cs
end
def Row.fz:Row->Bool
 | .var x=>x.fz
 | .arr _ es=>gf es
 | .dead=>true
def St.fz(σ:St):Bool:=σ.env.all (fun p=>p.2.fz)&&σ.rows.all (fun p=>p.2.fz)
def argI(τ:St)(t len:Nat):X->AV
 | .t j=>if j=t then .sl 1000000000 0 len else τ.get j
 | .c a=>a
def Rh(τ:St)(t:Nat):X->Prop
 | .t j=>j=t\/(τ.get j).ments=[]
 | .c a=>a.ments=[]
def AV.hush(r:Nat)(a:AV):AV:=if r∈a.ments then .top else a
mutual
def AV.ren(r d:Nat):AV->AV
 | .sl q i n=>.sl (if q=r then d else q) i n
 | .pt q i o=>.pt (if q=r then d else q) i o
 | .agg cs=>.agg (iX r d cs)
 | .fn f cs=>.fn f (iX r d cs)
 | .tup cs=>.tup (iX r d cs)
 |x=>x
def iX(r d:Nat):List AV->List AV
 |[]=>[]
 |c::cs=>c.ren r d::iX r d cs
end
def Row.map(h:AV->AV):Row->Row
 | .var x=>.var (h x)
 |x=>x
def Row.hush(r:Nat):Row->Row
 | .var x=>if r∈x.ments then .dead else .var x
 |x=>x
def del{α:Type}(k:Nat):List (Nat×α)->List (Nat×α)
 |[]=>[]
 |(j,x)::l=>if j=k then del k l else(j,x)::del k l
def St.canSl (σ : St) (d r i n : Nat) : St :=
    if r=d\/1000000000<=r then σ
    else
     { env:=put d (.sl d i n) ((σ.env.map fun p=>(p.1,p.2.hush d)).map fun p=>(p.1,p.2.ren r d)),
       rows:=((del d σ.rows).map fun p=>(p.1,p.2.hush d)).map fun p=>(if p.1=r then d else p.1,p.2.map (·.ren r d))}
def St.canSr (σ : St) (d r i n : Nat) : St :=
    if r=d then σ
    else
     { env:=put d (.sl d i n) ((σ.env.map fun p=>(p.1,p.2.hush d)).map fun p=>(p.1,p.2.ren r d)),
       rows:=((del d σ.rows).map fun p=>(p.1,p.2.hush d)).map fun p=>(if p.1=r then d else p.1,p.2.map (·.ren r d))}
def St.canNil (σ : St) (d n : Nat) : St :=
    { env:=put d (.sl d 0 0) (σ.env.map fun p=>(p.1,p.2.hush d)),
      rows:=put d (.arr n []) ((del d σ.rows).map fun p=>(p.1,p.2.hush d))}
def St.canV(σ:St)(d:Nat)(x:AV):St:=match x with
 | .sl r i n=>σ.canSl d r i n
 | .lst .u n []=>σ.canNil d n
 |_=>σ
def St.canW(σ:St)(d:Nat)(x:AV):St:=match x with
 | .sl r i n=>σ.canSr d r i n
 | .lst .u n []=>σ.canNil d n
 |_=>σ
def St.canZr(σ:St)(d i m:Nat)(r:Nat):Option Row->St
 |some (.arr q es)=>⟨put d (.lst .m q (dv (sub es i m))) σ.env,put r .dead σ.rows⟩
 |_=>σ
def gU:List AV->Nat->AV->List AV
 |[],_,_=>[]
 |_::xs,0,y=>y::xs
 |x::xs,j+1,y=>x::gU xs j y
def St.canZcr(σ:St)(d:Nat)(all:List AV)(j r i m:Nat):Option Row->St
 |some (.arr q es)=>⟨put d (.agg (gU all j (.lst .m q (dv (sub es i m))))) σ.env,put r .dead σ.rows⟩
 |_=>σ
def St.canZc(σ:St)(d:Nat)(all:List AV):Nat->List AV->St
 |_,[]=>σ
 |j,.sl r i m::_=>σ.canZcr d all j r i m (aB r σ.rows)
 |j,_::cs=>σ.canZc d all (j+1) cs
def St.canZ(σ:St)(d:Nat)(x:AV):St:=match x with
 | .sl r i m=>σ.canZr d i m r (aB r σ.rows)
 | .agg cs=>σ.canZc d cs 0 cs
 |_=>σ
def tJ:List AV->Nat->AV
 |[],_=>.top
 |x::_,0=>x
 |_::xs,j+1=>tJ xs j
def ik(j:Nat):Option Row->AV
 |some (.var (.agg cs))=>tJ cs j
 |some (.var (.sl q i m))=>if j=0 then .sl q i m else .top
 |some (.var (.lst f m xs))=>if j=0 then .lst f m xs else .top
 |_=>.top
def St.canFN(σ:St)(d r j m:Nat):Option Row->St
 |some (.var (.agg cs))=>⟨σ.env.map fun p=>(p.1,p.2.hush d),put d (.arr m []) (put r (.var (.agg (gU cs j (.sl d 0 0)))) ((del d σ.rows).map fun p=>(p.1,p.2.hush d)))⟩
 |some (.var (.lst .u _ []))=>⟨σ.env.map fun p=>(p.1,p.2.hush d),put d (.arr m []) (put r (.var (.sl d 0 0)) ((del d σ.rows).map fun p=>(p.1,p.2.hush d)))⟩
 |_=>σ
def St.canG(σ:St)(far:Bool)(d r j:Nat):AV->St
 | .sl q _ _=>if q=d\/far=false/\1000000000<=q then σ else
  ⟨(σ.env.map fun p=>(p.1,p.2.hush d)).map fun p=>(p.1,p.2.ren q d),((del d σ.rows).map fun p=>(p.1,p.2.hush d)).map fun p=>(if p.1=q then d else p.1,p.2.map (·.ren q d))⟩
 | .lst .u m []=>σ.canFN d r j m (aB r ((del d σ.rows).map fun p=>(p.1,p.2.hush d)))
 |_=>σ
def St.canEN(σ:St)(d k j m:Nat):Option AV->St
 |some (.agg cs)=>⟨put k (.agg (gU cs j (.sl d 0 0))) (σ.env.map fun p=>(p.1,p.2.hush d)),put d (.arr m []) ((del d σ.rows).map fun p=>(p.1,p.2.hush d))⟩
 |_=>σ
def St.canE(σ:St)(far:Bool)(d k j:Nat):AV->St
 | .sl q _ _=>if q=d\/far=false/\1000000000<=q then σ else
  ⟨(σ.env.map fun p=>(p.1,p.2.hush d)).map fun p=>(p.1,p.2.ren q d),((del d σ.rows).map fun p=>(p.1,p.2.hush d)).map fun p=>(if p.1=q then d else p.1,p.2.map (·.ren q d))⟩
 | .lst .u m []=>σ.canEN d k j m (aB k (σ.env.map fun p=>(p.1,p.2.hush d)))
 |_=>σ
def St.canXcr(σ:St)(r:Nat)(all:List AV)(j q i m:Nat):Option Row->St
 |some (.arr k es)=>⟨σ.env,put r (.var (.agg (gU all j (.lst .m k (dv (sub es i m)))))) (put q .dead σ.rows)⟩
 |_=>σ
def St.canXc(σ:St)(r:Nat)(all:List AV):Nat->List AV->St
 |_,[]=>σ
 |j,.sl q i m::_=>σ.canXcr r all j q i m (aB q σ.rows)
 |j,.lst .u n []::_=>⟨σ.env,put r (.var (.agg (gU all j (.lst .m n [])))) σ.rows⟩
 |j,_::cs=>σ.canXc r all (j+1) cs
def St.canX(σ:St)(r:Nat):Option Row->St
 |some (.arr n es)=>⟨σ.env,put r (.arr n (dv es)) σ.rows⟩
 |some (.var (.agg cs))=>σ.canXc r cs 0 cs
 |_=>σ
def St.can1(σ:St):Can->St
 | .s d=>σ.canV d (σ.get d)
 | .f far d r j=>σ.canG far d r j (ik j (aB r σ.rows))
 | .r d=>σ.canW d (σ.get d)
 | .z d=>σ.canZ d (σ.get d)
 | .e far d k j=>σ.canE far d k j (ik j (some (.var (σ.get k))))
 | .w r=>σ.canX r (aB r σ.rows)
def St.can(σ:St):List Can->St
 |[]=>σ
 |d::ds=>(σ.can1 d).can ds
def Can.low(n:Nat):Can->Bool
 | .s d=>decide (d<n)
 | .f _ d _ _=>decide (d<1000000000)&&decide (n<=d)
 | .r d=>decide (d<n)
 | .z d=>decide (d<n)
 | .e _ d k _=>decide (d<1000000000)&&decide (n<=d)&&decide (k<n)
 | .w _=>true
def St.res(σ:St)(lv lr:List Nat):St:=
 {env:=lv.map fun k=>(k,σ.get k),rows:=lr.map fun r=>(r,(σ.row r).getD .dead)}
def Row.ments:Row->List Nat
 | .var x=>x.ments
 |_=>[]
def St.resOk(σ:St)(lv lr:List Nat):Prop:=
 (∀k∈lv,∀r∈(σ.get k).ments,r∈lr)/\(∀q∈lr,∀r∈((σ.row q).getD .dead).ments,r∈lr)/\lr.Nodup
inductive Ex where
 |nrm
 |ex (id:Nat)
 |ret
def thn(K:St->Prop)(Q:Ex->St->Prop):Ex->St->Prop
 | .nrm,σ=>K σ
 |e,σ=>Q e σ
def inb(id:Nat)(Q:Ex->St->Prop):Ex->St->Prop
 | .ex j,σ=>if j=id then Q .nrm σ else Q (.ex j) σ
 |e,σ=>Q e σ
def tst(x:AV)(A B:Prop):Prop:=match x with
 | .sc (.bool t)=>(t=true->A)/\(t=false->B)
 | .ub=>A/\B
 |_=>False
def Me(Q:Ex->St->Prop)(can:List Can)(σ:St):Prop:=Q .nrm (σ.can can)
def St.rb(σ:St)(lv:List Nat):St:=⟨lv.map fun k=>(k,snp σ.row 4 (σ.get k)),[]⟩
def AV.scal:AV->AV
 | .sc v=>.sc v
 |_=>.top
def St.scal(σ:St):St:=⟨σ.env.map fun p=>(p.1,p.2.scal),[]⟩
def rbQ(Q:Ex->St->Prop)(e:Ex)(τ:St):Prop:=Q e τ.scal
def AWP:au->(Ex->St->Prop)->St->Prop
 | .skip,Q,σ=>Q .nrm σ
 | .reg ops can,Q,σ=>fd ok ops (Me Q can) σ
 | .drw ops can,Q,σ=>fd ok ops (Me Q can) σ
 | .seq a b,Q,σ=>AWP a (thn (AWP b Q) Q) σ
 | .seqr a lv lr b,Q,σ=>AWP a (thn (fun τ=>τ.resOk lv lr/\AWP b Q (τ.res lv lr)) Q) σ
 | .seqa x a lv lr b,Q,σ=>AWP x (thn (AWP a (thn (fun τ=>τ.resOk lv lr/\AWP b Q (τ.res lv lr)) Q)) Q) σ
 | .seqb a lv b,Q,σ=>AWP a (thn (fun τ=>AWP b (rbQ Q) (τ.rb lv)) Q) σ
 | .cond x a b,Q,σ=>tst (σ.gx x) (AWP a Q σ) (AWP b Q σ)
 | .blk id a,Q,σ=>AWP a (inb id Q) σ
 | .loop a,Q,σ=>∃(lv lr:List Nat)(I:St->Prop)(μ:St->Nat),σ.resOk lv lr/\I (σ.res lv lr)/\
  ∀τ,I τ->AWP a (thn (fun τ'=>τ'.resOk lv lr/\I (τ'.res lv lr)/\μ (τ'.res lv lr)<μ τ) Q) τ
 | .exit id,Q,σ=>Q (.ex id) σ
 | .ret,Q,σ=>Q .ret σ
inductive RV where
 |t (n:Nat)
 |c (n k:Nat) (ag:Bool)
def RV.val(σ:St):RV->Option AV
 | .t n=>some (σ.get n)
 | .c n k ag => match σ.get n with
   | .pt r 0 0 => match σ.row r with
     |some (.var y)=>part y 0 k ag
     |_=>none
   |_=>none
def RVs.val(σ:St):List RV->Option (List AV)
 |[]=>some []
 | r :: rs => match r.val σ, RVs.val σ rs with
   |some x,some xs=>some (x::xs)
   |_,_=>none
def ir:List AV->AV
 |[x]=>x
 |xs=>.tup xs
def fin(rs:List RV)(res:AV):Ex->St->Prop
 | .nrm,σ| .ret,σ=>∃xs,RVs.val σ rs=some xs/\(aP xs).Nodup/\lift σ.row 3 (ir xs)=res
 |_,_=>False
def St.start(args:List AV):St:={env:=go 0 args,rows:=[]}
where go:Nat->List AV->List (Nat×AV)
 |_,[]=>[]
 |n,a::as=>(n,a)::go (n+1) as
def WU(a:au)(rs:List RV)(args:List AV)(res:AV):Prop:=AWP ok a (fin rs res) (St.start args)
end
end Vs

namespace Vs
open Go
variable(n d:Nat)(K:AV->List (Nat×Row)->Prop)(ρ:Nat->Option Row)(r:Nat)(σ:St)(ok:Oks)(i:Nat)(xs cs:List AV)(g:X->AV)(k:Nat)(x:X)(f:Fl)(off j m:Nat)(es:List AV)(w:Nat)(y:AV)(rows:List (Nat×Row))(a b:Int)(Q:Ex->St->Prop)(env:List (Nat×AV))(v:Value)(h:Nat->Nat)(ag:Bool)(q:Nat)(all:List AV)(far:Bool)(av:List Nat)(c:Nat)(rs:List Nat)(bytes:Nat)(p:Prop)(z:AV)(u:List (Nat×Row))(t:Nat)(neg:Bool)(ys:List AV)(s:Nat)(lv:List Nat)(lo hi:Option AV)(ds:List Can)(A B:St->Prop)(can:List Can)(lr:List Nat)(o:Nat)(mv:Bool)(res:AV)
theorem jo:hY xs=xs.map AV.nrm:=by
 induction xs with
 |nil=>simp[hY]
 |cons x xs ih=>simp[hY,ih]
theorem jm:dv xs=xs.map AV.als:=by
 induction xs with
 |nil=>simp[dv]
 |cons x xs ih=>simp[dv,ih]
theorem gl:gI xs=xs.map AV.fix:=by
 induction xs with
 |nil=>simp[gI]
 |cons x xs ih=>simp[gI,ih]
theorem nv:iX r d xs=xs.map (AV.ren r d):=by
 induction xs with
 |nil=>simp[iX]
 |cons x xs ih=>simp[iX,ih]
theorem vd:kF xs↔∀x∈xs,x.allU:=by
 induction xs with
 |nil=>simp[kF]
 |cons x xs ih=>simp[kF,ih]
def aak:snp ρ (k+1) (.sc v)=.sc v:=by simp[snp,AV.nrm]
def Yi:snp ρ (k+1) (.lst f n xs)=.lst .o n (xs.map AV.nrm):=by simp[snp,AV.nrm,jo]
def afi:snp ρ (k+1) (.tg f n xs)=.lst .o n (xs.map AV.nrm):=by simp[snp,AV.nrm,jo]
def XI:snp ρ (k+1) (.agg cs)=.agg (cs.map (snp ρ k)):=by simp[snp]
def adi(f:Nat):snp ρ (k+1) (.fn f cs)=.fn f (cs.map (snp ρ k)):=by simp[snp]
def aar(x:AV):snp ρ (k+1) (.bp f x off)=.bp .o x.nrm off:=by simp[snp,AV.nrm]
def afl:snp ρ (k+1) (.sl r i n)=oT (ρ r) i n:=by simp only[snp]
def GO:oT (some (.arr w es)) i n=.lst .o w ((sub es i n).map AV.nrm):=by simp[oT,jo]
def agd:snp ρ (k+1) (.pt r i off)=mD (snp ρ k) (ρ r) i off:=by simp only[snp]
def GJ(h:AV->AV):mD h (some (.var y)) 0 off=.bp .o (h y) off:=by simp[mD]
def Wg:lift ρ (k+1) (.sc v)=.sc v:=by simp[lift]
def KE:lift ρ (k+1) (.lst f n xs)=.lst f n xs:=by simp[lift]
def Lh:lift ρ (k+1) (.agg cs)=.agg (cs.map (lift ρ k)):=by simp[lift]
def Kx:lift ρ (k+1) (.tup cs)=.tup (cs.map (lift ρ k)):=by simp[lift]
def Vx:lift ρ (k+1) (.sl r i n)=mw (ρ r) i n:=by simp only[lift]
def BH:mw (some (.arr w es)) i n=.lst .u w (sub es i n):=rfl
theorem nG:adopt (k+1) c (.sc v)=(.sc v,[],c):=by simp[adopt,AV.fix]
def Fq:adopt (k+1) c (.lst .u n es)=(.sl c 0 es.length,[(c,.arr n (es.map AV.fix))],c+1000):=by simp[adopt,gl]
def Dy:adopt (k+1) c (.lst .o n es)=(.lst .s n (es.map AV.fix),[],c):=by simp[adopt,AV.fix,gl,Fl.fix]
def DN:adopt (k+1) c (.lst .m n es)=(.lst .m n (es.map AV.fix),[],c):=by simp[adopt,AV.fix,gl,Fl.fix]
def ES:adopt (k+1) c (.lst .s n es)=(.lst .s n (es.map AV.fix),[],c):=by simp[adopt,AV.fix,gl,Fl.fix]
def uM:adopt (k+1) c (.tup xs)=(.tup (adopt.go k c xs).1,(adopt.go k c xs).2.1,(adopt.go k c xs).2.2):=by simp[adopt]
def uS:adopt (k+1) c (.agg xs)=(.agg (adopt.go k c xs).1,(adopt.go k c xs).2.1,(adopt.go k c xs).2.2):=by simp[adopt]
def uY:adopt.go k c []=([],[],c):=by simp[adopt.go]
def sQ(x:AV):adopt.go k c (x::xs)=
 ((adopt k c x).1::(adopt.go k (adopt k c x).2.2 xs).1,(adopt k c x).2.1++(adopt.go k (adopt k c x).2.2 xs).2.1,(adopt.go k (adopt k c x).2.2 xs).2.2):=by simp[adopt.go]
theorem cB:(AV.sc v).nrm=.sc v:=by simp[AV.nrm]
theorem eX:(AV.lst f n xs).nrm=.lst .o n (xs.map AV.nrm):=by simp[AV.nrm,jo]
theorem eZ:(AV.agg cs).nrm=.agg (cs.map AV.nrm):=by simp[AV.nrm,jo]
def abv(x:AV):(AV.bp f x off).nrm=.bp .o x.nrm off:=by simp[AV.nrm]
theorem dU:(AV.sc v).als=.sc v:=by simp[AV.als]
theorem eW:(AV.lst f n xs).als=.lst f.als n (xs.map AV.als):=by simp[AV.als,jm]
theorem eV:(AV.agg cs).als=.agg (cs.map AV.als):=by simp[AV.als,jm]
theorem eB:(AV.sc v).fix=.sc v:=by simp[AV.fix]
theorem eE:(AV.lst f n xs).fix=.lst f.fix n (xs.map AV.fix):=by simp[AV.fix,gl]
theorem eF:(AV.agg cs).fix=.agg (cs.map AV.fix):=by simp[AV.fix,gl]
theorem eS(xs:List Int):(xs.map AV.i).map AV.nrm=xs.map AV.i:=by simp[cB]
theorem eU(xs:List Int):(xs.map AV.i).map AV.als=xs.map AV.i:=by simp[dU]
theorem eu(xs:List Int):(xs.map AV.i).map AV.fix=xs.map AV.i:=by simp[eB]
def Js(xs:List Bool):(xs.map AV.b).map AV.nrm=xs.map AV.b:=by simp[cB]
def Kb(xs:List Bool):(xs.map AV.b).map AV.als=xs.map AV.b:=by simp[dU]
def uL(xs:List Bool):(xs.map AV.b).map AV.fix=xs.map AV.b:=by simp[eB]
theorem oz(xs:List ByteArray):(xs.map AV.z).map AV.nrm=xs.map AV.z:=by simp[cB]
theorem nX(xs:List ByteArray):(xs.map AV.z).map AV.als=xs.map AV.z:=by simp[dU]
theorem lw(xs:List ByteArray):(xs.map AV.z).map AV.fix=xs.map AV.z:=by simp[eB]
def Bx(xs:List Int):(xs.map AV.u8).map AV.nrm=xs.map AV.u8:=by simp[cB]
def JV:AV.als∘AV.i=AV.i:=by funext x;simp[dU]
def Gf:AV.als∘AV.b=AV.b:=by funext x;simp[dU]
def Kg:AV.als∘AV.z=AV.z:=by funext x;simp[dU]
def Dq(xs:List Int):(xs.map AV.u8).map AV.als=xs.map AV.u8:=by simp[dU]
def qv(xs:List Int):(xs.map AV.u8).map AV.fix=xs.map AV.u8:=by simp[eB]
def Xm{α:Type}(a:α):(some a).isSome=true:=rfl
def c_eq{α:Type}(a:α):(a=a)=True:=eq_self a
def ahm:(True/\p)=p:=true_and p
def abc:(p/\True)=p:=and_true p
def Wi:(∃es,some (Row.arr n xs)=some (Row.arr n es))=True:=by simp
def Mp:(∃w es,some (Row.arr n xs)=some (Row.arr w es))=True:=by simp
def aew:(False->p)=True:=by simp
def ads:(True->p)=p:=by simp
def WD{α:Type}(q:α->Prop):(∀p∈([]:List α),q p)=True:=by simp
def TV{α:Type}(x:α)(l:List α)(q:α->Prop):(∀p∈x::l,q p)=(q x/\∀p∈l,q p):=by simp
def PP:sub [] 0 0=[]:=rfl
def MM:0+n=n:=Nat.zero_add n
def LG:n+0=n:=Nat.add_zero n
def acj:n-0=n:=Nat.sub_zero n
def aha:(d∈([]:List Nat))=False:=by simp
def acr(x:Nat)(l:List Nat):(d∈x::l)=(d=x\/d∈l):=by simp
def ahr:(p\/False)=p:=or_false p
def ajv:(False\/p)=p:=false_or p
def aih:(p\/True)=True:=or_true p
def aju:(True\/p)=True:=true_or p
def ada:(¬False)=True:=not_false_eq_true
def agf:(¬True)=False:=not_true_eq_false
def ajw:(n<=n)=True:=by simp
def ajt:(0<=n)=True:=by simp
def TW{α:Type}(f:α->AV)(l:List α):sub (l.map f) 0 l.length=l.map f:=by simp[sub]
theorem nR:rgL h xs=xs.map (AV.rg h):=by
 induction xs with
 |nil=>simp[rgL]
 |cons x xs ih=>simp[rgL,ih]
def YU:(AV.sc v).rg h=.sc v:=by simp[AV.rg]
def Om:(AV.lst f n xs).rg h=.lst f n xs:=by simp[AV.rg]
def Yz:(AV.tg f n xs).rg h=.tg f n xs:=by simp[AV.rg]
def ZB(x:AV):(AV.bp f x off).rg h=.bp f x off:=by simp[AV.rg]
def RB:AV.top.rg h=.top:=by simp[AV.rg]
def Qi:(AV.agg cs).rg h=.agg (cs.map (AV.rg h)):=by simp[AV.rg,nR]
def Zu(f:Nat):(AV.fn f cs).rg h=.fn f (cs.map (AV.rg h)):=by simp[AV.rg,nR]
def KV:(AV.tup cs).rg h=.tup (cs.map (AV.rg h)):=by simp[AV.rg,nR]
def aae:(AV.sl q i n).rg h=.sl (h q) i n:=by simp[AV.rg]
def ZY:(AV.pt q i n).rg h=.pt (h q) i n:=by simp[AV.rg]
def EX(x:AV):(Row.var x).rg h=.var (x.rg h):=rfl
def En:(Row.arr n xs).rg h=.arr n xs:=rfl
def yH:Row.dead.rg h=.dead:=rfl
def Am(x:Nat)(xs:List Nat):pos r (x::xs)=if x=r then 0 else pos r xs+1:=rfl
def Ri:cnm rs r=1000000000+pos r rs:=rfl
def KH:bkn d rs q=if 1000000000<=q then rs.getD (q-1000000000) 0 else q+100000*(d+1):=rfl
def SH:gV ρ rs r=(cnm rs r,((ρ r).getD .dead).rg (cnm rs)):=rfl
def xq(p:Nat×Row):fS d rs p=(bkn d rs p.1,p.2.rg (bkn d rs)):=rfl
def Ds(x:AV):mc (some (.var x))=x.ments:=rfl
def BN:mc (some (.arr n xs))=[]:=rfl
def EC(x y:Nat)(l:List Nat):(x::l).getD 0 y=x:=rfl
def DE(x y:Nat)(l:List Nat):(x::l).getD (n+1) y=l.getD n y:=by simp
def adl:(AV.sc v).ren r d=.sc v:=by simp[AV.ren]
def UY:(AV.lst f n xs).ren r d=.lst f n xs:=by simp[AV.ren]
def aau:(AV.tg f n xs).ren r d=.tg f n xs:=by simp[AV.ren]
def aat(x:AV):(AV.bp f x off).ren r d=.bp f x off:=by simp[AV.ren]
def UL:AV.top.ren r d=.top:=by simp[AV.ren]
def XL:(AV.agg cs).ren r d=.agg (cs.map (AV.ren r d)):=by simp[AV.ren,nv]
def acd(f:Nat):(AV.fn f cs).ren r d=.fn f (cs.map (AV.ren r d)):=by simp[AV.ren,nv]
def VZ:(AV.tup cs).ren r d=.tup (cs.map (AV.ren r d)):=by simp[AV.ren,nv]
def aal:(AV.sl q i n).ren r d=.sl (if q=r then d else q) i n:=by simp[AV.ren]
def afp:(AV.pt q i n).ren r d=.pt (if q=r then d else q) i n:=by simp[AV.ren]
def Pe:AWP ok .skip Q σ=Q .nrm σ:=by simp only[AWP]
def Vk(ops:List bl):AWP ok (.reg ops can) Q σ=fd ok ops (Me Q can) σ:=by simp only[AWP]
def TK(ops:List bl):AWP ok (.drw ops can) Q σ=fd ok ops (Me Q can) σ:=by simp only[AWP]
def XG(a b:au):AWP ok (.seq a b) Q σ=AWP ok a (thn (AWP ok b Q) Q) σ:=by simp only[AWP]
def wC(ok:Oks)(v:AV)(a b:au)(Q:Ex->St->Prop)(σ:St):Prop:=tst v (AWP ok a Q σ) (AWP ok b Q σ)
def Mi(a b:au):AWP ok (.cond x a b) Q σ=wC ok (σ.gx x) a b Q σ:=by simp only[AWP,wC]
def act(a b:au):wC ok (.sc (.bool true)) a b Q σ=AWP ok a Q σ:=by simp[wC,tst]
def afx(a b:au):wC ok .ub a b Q σ=(AWP ok a Q σ/\AWP ok b Q σ):=by simp[wC,tst]
def agu(a b:au):wC ok (.sc (.bool false)) a b Q σ=AWP ok b Q σ:=by simp[wC,tst]
def PJ(x a:au)(b:au):AWP ok (.seqa x a lv lr b) Q σ=AWP ok x (thn (AWP ok (.seqr a lv lr b) Q) Q) σ:=by simp only[AWP]
def Lo(a:au)(b:au):AWP ok (.seqb a lv b) Q σ=AWP ok a (thn (fun τ=>AWP ok b (rbQ Q) (τ.rb lv)) Q) σ:=by simp only[AWP]
def aje:St.rb ⟨env,rows⟩ lv=⟨lv.map fun k=>(k,snp (St.row ⟨env,rows⟩) 4 (St.get ⟨env,rows⟩ k)),[]⟩:=rfl
def ace(e:Ex):rbQ Q e ⟨env,rows⟩=Q e ⟨env.map fun p=>(p.1,p.2.scal),[]⟩:=rfl
def Ul:(AV.sc v).scal=.sc v:=rfl
def TN(id:Nat)(a:au):AWP ok (.blk id a) Q σ=AWP ok a (inb id Q) σ:=by simp only[AWP]
def SO(id:Nat):AWP ok (.exit id) Q σ=Q (.ex id) σ:=by simp only[AWP]
def Uo:AWP ok .ret Q σ=Q .ret σ:=by simp only[AWP]
def Um(K:St->Prop):thn K Q .nrm σ=K σ:=rfl
def aam(K:St->Prop):thn K Q (.ex i) σ=Q (.ex i) σ:=rfl
def Wc(K:St->Prop):thn K Q .ret σ=Q .ret σ:=rfl
def Vm:inb i Q .nrm σ=Q .nrm σ:=rfl
def aea:inb i Q (.ex j) σ=if j=i then Q .nrm σ else Q (.ex j) σ:=rfl
def Vu:inb i Q .ret σ=Q .ret σ:=rfl
def aex:eff ok g ρ d (.mv x) K=K (g x) []:=rfl
def RK(c a b:X):eff ok g ρ d (.pick c a b) K=lN K (g c) (g a) (g b):=rfl
def Tp(a b:AV):lN K (.sc (.bool true)) a b=K a []:=by simp[lN]
def UE(a b:AV):lN K (.sc (.bool false)) a b=K b []:=by simp[lN]
def Kh:eff ok g ρ d (.alloc z) K=(ρ d=none/\K (.pt d 0 0) [(d,.var z)]):=rfl
def Ug:eff ok g ρ d (.box n x) K=(ρ d=none/\(g x).width=n/\K (.pt d 0 0) [(d,.var (g x))]):=rfl
def JS(z:List AV)(ps:List (Nat×Nat×X)):eff ok g ρ d (.build z ps) K=
 ((∀p∈ps,(g p.2.2).width=p.2.1/\p.1+p.2.1<=z.length)/\K (.agg (lM z (ps.map fun p=>(p.1,g p.2.2)))) []):=rfl
def UO(fr:Bool)(ps:List X):eff ok g ρ d (.bsl n fr ps) K=((fr=true->aP (ps.map g)=[])/\ρ d=none/\(∀p∈ps,(g p).width=n)/\(aP (ps.map g)).Nodup/\
 K (.sl d 0 ps.length) (bP (aP (ps.map g))++[(d,.arr n ((ps.map g).map (lift ρ 2)))])):=rfl
def BV(x:AV):cR (some (.var x))=True:=rfl
def Cy(x:List AV):cR (some (.arr n x))=True:=rfl
def Fn:bP rs=rs.map fun r=>(r,.dead):=rfl
def ajy(v:AV):k1 K v=K v []:=rfl
def Qt:eff ok g ρ d (.load n ag x) K=eP K ρ n ag (g x):=rfl
def RX:eP K ρ n ag (.bp f y off)=opt (part y off n ag) (k1 K):=rfl
def PI:eP K ρ n ag (.pt r i off)=eT K (ρ r) i off n ag:=rfl
def yi:eT K (some (.var y)) i off n ag=(i=0/\opt (part y off n ag) (k1 K)):=rfl
def yK:eT K (some (.arr w es)) i off n ag=opt es[i]? (QD K off n ag):=rfl
def MV:QD K off n ag y=opt (part y.als off n ag) (k1 K):=rfl
def HC(v:X):eff ok g ρ d (.store n x v) K=dQ K ρ n (g x) (g v):=rfl
def Gb(v:AV):dQ K ρ n (.pt r i off) v=(v.width=n/\ej K ρ (ρ r) r i off v):=rfl
def vY(v:AV):ej K ρ (some (.var y)) r i off v=(i=0/\opt (setPart y off v) (SQ K r)):=rfl
def Rm:SQ K r y=K .top [(r,.var y)]:=rfl
def vz(v:AV):ej K ρ (some (.arr w es)) r i off v=opt es[i]? (qD K ρ r w i off es v):=rfl
def Lq(v:AV):qD K ρ r w i off es v y=
 (r∉v.ments/\v.ments.Nodup/\(lift ρ 2 v).width=v.width/\opt (setPart y off (lift ρ 2 v)) (Dm K (bP v.ments) r w i es)):=rfl
def Ib:Dm K u r w i es y=K .top (u++[(r,.arr w (es.set i y))]):=rfl
def UQ(ps:List X):eff ok g ρ d (.bsm n ps) K=((∀r∈aP (ps.map g),Ck (ρ r))/\ρ d=none/\(∀p∈ps,(g p).width=n)/\(aP (ps.map g)).Nodup/\
 K (.sl d 0 ps.length) (bP (aP (ps.map g))++[(d,.arr n ((ps.map g).map (lift ρ 2)))])):=rfl
def TQ(v:X):eff ok g ρ d (.stv n x v) K=(vPv ρ (g x)/\dQ K ρ n (g x) (g v)):=rfl
def Xt:eff ok g ρ d (.lda n ag x) K=(aPb ρ (g x)/\eP K ρ n ag (g x)):=rfl
def Tf:eff ok g ρ d (.fdv av off x) K=(vPt av ρ (g x)/\mt K ρ off (g x)):=rfl
def abm:aPb ρ (.pt r i off)=Ck (ρ r):=rfl
def aem:aPb ρ (.bp f y off)=True:=rfl
def afs:vPv ρ (.pt r i off)=Ce (ρ r):=rfl
def TS:eff ok g ρ d (.ldv av n ag x) K=(vPt av ρ (g x)/\eP K ρ n ag (g x)):=rfl
def Xz(v:X):eff ok g ρ d (.str n x v) K=(aPt ρ (g x)/\(g v).ments=[]/\dQ K ρ n (g x) (g v)):=rfl
def Wz:eff ok g ρ d (.lde av n ag x) K=(lPt av (g x)/\eP K ρ n ag (g x)):=rfl
def aeu:vPt av ρ (.pt r i off)=(r∉av/\Ce (ρ r)):=rfl
def aap:vPt av ρ (.bp f y off)=True:=rfl
def adq:aPt ρ (.pt r i off)=Ck (ρ r):=rfl
def QA(x:AV):Ce (some (.var x))=True:=rfl
def Oi(x:List AV):Ck (some (.arr n x))=True:=rfl
def Xi(op:BinOp)(y:X):eff ok g ρ d (.bin op x y) K=dA op (g x) (g y) (k1 K):=rfl
def Tt(y:X):eff ok g ρ d (.beq neg x y) K=yA K neg (g x) (g y):=rfl
def aaq(a b:Bool):yA K false (.sc (.bool a)) (.sc (.bool b))=K (.sc (.bool (a==b))) []:=rfl
def afh(a b:Bool):yA K true (.sc (.bool a)) (.sc (.bool b))=K (.sc (.bool (!(a==b)))) []:=rfl
def XP(y:X):eff ok g ρ d (.aeq neg x y) K=AU K neg (g x) (g y):=rfl
def afe(c e:Int):AU K false (.agg [.sc (.int .i64 a),.sc (.int .i64 b)]) (.agg [.sc (.int .i64 c),.sc (.int .i64 e)])=K (.sc (.bool (a==c&&b==e))) []:=rfl
def agc(c e:Int):AU K true (.agg [.sc (.int .i64 a),.sc (.int .i64 b)]) (.agg [.sc (.int .i64 c),.sc (.int .i64 e)])=K (.sc (.bool (!(a==c&&b==e)))) []:=rfl
def abj(op:UnOp):eff ok g ρ d (.un op x) K=unV op (g x) (k1 K):=rfl
def KW(q:IntKind):eff ok g ρ d (.conv q x) K=si K q (g x):=rfl
def WT(q q':IntKind)(n:Int):si K q (.sc (.int q' n))=K (.sc (.int q (q.wrap n))) []:=rfl
def Wn(f:Nat)(cs:List X):eff ok g ρ d (.mkf f cs) K=K (.fn f (cs.map g)) []:=rfl
def UV(l c:X):eff ok g ρ d (.mks n z bytes l c) K=tw K (ρ d) d n z bytes (g l) (g c):=rfl
def agv(o:Option Row)(l c:Int):tw K o d n z bytes (.sc (.int .i64 l)) (.sc (.int .i64 c))=
 (o=none/\z.width=n/\0<=l/\l<=c/\c*bytes<=140737488355328/\c<=9223372036854775807/\K (.sl d 0 l.toNat) [(d,.arr n (A0 l.toNat z))]):=rfl
def Wm(lo hi mx:Option X):eff ok g ρ d (.slc n x lo hi mx) K=su K ρ n (g x) (lo.map g) (hi.map g) (mx.map g):=rfl
def NU:su K ρ n (.lst f w xs) lo hi none=
 (w=n/\bOk lo/\bOk hi/\bV lo 0<=bV hi xs.length/\bV hi xs.length<=xs.length/\K (.lst f n (sub xs (bV lo 0) (bV hi xs.length-bV lo 0))) []):=rfl
def Jd(m:AV):su K ρ n (.lst f w xs) lo hi (some m)=
 (w=n/\bOk lo/\bOk hi/\bV lo 0<=bV hi xs.length/\bV hi xs.length<=xs.length/\hi.isSome/\bOk (some m)/\bV (some m) 0=bV hi xs.length/\K (.tg f n (sub xs (bV lo 0) (bV hi xs.length-bV lo 0))) []):=rfl
def UU(mx:Option AV):su K ρ n (.sl r i m) lo hi mx=
 ((∃es,ρ r=some (.arr n es))/\bOk lo/\bOk hi/\bV lo 0<=bV hi m/\bV hi m<=m/\mx=none/\K (.sl r (i+bV lo 0) (bV hi m-bV lo 0)) []):=rfl
def aax(s:ByteArray):VR K (.sc (.string s)) lo hi=
 (bOk lo/\bOk hi/\bV lo 0<=bV hi s.size/\bV hi s.size<=s.size/\K (.sc (.string (s.extract (bV lo 0) (bV hi s.size)))) []):=rfl
def So:bOk none=True:=rfl
def aja(q:IntKind)(j:Int):bOk (some (.sc (.int q j)))=(0<=j):=rfl
def Uj:bV none n=n:=rfl
def bV_i(q:IntKind)(j:Int):bV (some (.sc (.int q j))) n=j.toNat:=rfl
def TX:eff ok g ρ d (.fad off x) K=mt K ρ off (g x):=rfl
def VY:mt K ρ off (.bp f y o)=K (.bp f y (o+off)) []:=rfl
def Us:mt K ρ off (.pt r i o)=(cR (ρ r)/\K (.pt r i (o+off)) []):=rfl
def WW(i:X):eff ok g ρ d (.idx n x i) K=ke K ρ n (g x) (g i):=rfl
def XS(i:X):eff ok g ρ d (.idv av n x i) K=(iPt av (g x)/\ke K ρ n (g x) (g i)):=rfl
def acb:iPt av (.sl r i n)=(r∉av):=rfl
def Yf:iPt av (.lst f n xs)=True:=rfl
def afr:lPt av (.pt r i off)=(r∉av):=rfl
def aeb:lPt av (.bp f y off)=True:=rfl
def UI:eff ok g ρ d (.lnv av x) K=(iPt av (g x)/\lx K ρ (g x)):=rfl
def Xa(v:X):eff ok g ρ d (.stw r n x v) K=(wPt r ρ (g x)/\dQ K ρ n (g x) (g v)):=rfl
def aei:wPt r ρ (.pt q i off)=(q=r/\Ce (ρ q)):=rfl
def NQ(q:IntKind)(j:Int):ke K ρ n (.lst f w xs) (.sc (.int q j))=(w=n/\0<=j/\opt xs[j.toNat]? (aen K f.als)):=rfl
def WM:aen K f y=K (.bp f y 0) []:=rfl
def aiw:Fl.als .o=.o:=rfl
def ajg:Fl.als .s=.s:=rfl
def ahg:Fl.als .m=.m:=rfl
def aia:Fl.als .u=.m:=rfl
def WG(a:Nat)(q:IntKind)(j:Int):ke K ρ n (.sl r a m) (.sc (.int q j))=((∃es,ρ r=some (.arr n es))/\0<=j/\j<m/\K (.pt r (a+j.toNat) 0) []):=rfl
def UD:eff ok g ρ d (.fld off n ag x) K=HR K off n ag (g x):=rfl
def KR:HR K off n ag (.agg cs)=opt (part (.agg cs) off n ag) (k1 K):=by simp[HR,AV.isAgg]
def Og(i:X):eff ok g ρ d (.stri x i) K=qT K (g x) (g i):=rfl
def UJ(s:ByteArray)(q:IntKind)(j:Int):qT K (.sc (.string s)) (.sc (.int q j))=(0<=j/\opt s[j.toNat]? (aci K)):=rfl
def WR(c:UInt8):aci K c=K (.sc (.int .u8 c.toNat)) []:=rfl
def Wl:eff ok g ρ d (.ext x j) K=Db K (g x) j:=rfl
def Nj(vs:List AV):Db K (.tup vs) j=opt vs[j]? (k1 K):=rfl
def SF(f:Nat)(xs:List X):eff ok g ρ d (.call f xs) K=gC ok ρ d f (xs.map g) K:=rfl
def Tz(xs:List X):eff ok g ρ d (.dyn x xs) K=xA ok ρ d (g x) (xs.map g) K:=rfl
def JH(f:Nat)(xs:List X):eff ok g ρ d (.callM f xs rs) K=callM ok ρ d f (xs.map g) rs K:=rfl
def Nr(xs:List X):eff ok g ρ d (.dynM x xs rs) K=rQ ok ρ d (g x) (xs.map g) rs K:=rfl
def NF(f:Nat):rQ ok ρ d (.fn f cs) xs rs K=callM ok ρ d f (xs++cs) rs K:=rfl
def Yj(f:Nat):xA ok ρ d (.fn f cs) xs K=gC ok ρ d f (xs++cs) K:=rfl
def TB:eff ok g ρ d (.len x) K=lx K ρ (g x):=rfl
def QT:lx K ρ (.lst f n xs)=K (.sc (.int .i64 xs.length)) []:=rfl
def WF:lx K ρ (.tg f n xs)=K (.sc (.int .i64 xs.length)) []:=rfl
def Th:lx K ρ (.sl r i n)=((∃w es,ρ r=some (.arr w es))/\K (.sc (.int .i64 n)) []):=rfl
def SB:eff ok g ρ d (.lenz x) K=sG K (g x):=rfl
def KO:eff ok g ρ d (.capn x) K=qH K (g x):=rfl
def Ve:qH K (.lst .u n [])=K (.i 0) []:=rfl
def Vj(hi:X):eff ok g ρ d (.slg n x hi) K=Dp K n (g x) (g hi):=rfl
def acm(k:IntKind)(h:Int):Dp K n (.lst .u w []) (.sc (.int k h))=(w=n/\h=0/\K (.lst .u n []) []):=rfl
def Ww(l:X):eff ok g ρ d (.apz n z bytes x l) K=JY K (ρ d) d n z bytes (g x) (g l):=rfl
def aag(o:Option Row)(l:Int):JY K o d n z bytes (.lst .u w []) (.sc (.int .i64 l))=(o=none/\w=n/\z.width=n/\n=1/\0<l/\l*bytes<=140737488355328/\K (.sl d 0 l.toNat) [(d,.arr n (A0 l.toNat z))]):=rfl
def Xr(s:ByteArray):sG K (.sc (.string s))=K (.sc (.int .i64 s.size)) []:=rfl
def Oc:XR K ρ (.lst f n xs)=(n=1/\opt (u8s xs) (Sx K)):=rfl
def SZ:XR K ρ (.sl r i n)=FH K (ρ r) i n:=rfl
def Ha:FH K (some (.arr w es)) i m=(w=1/\opt (u8s (sub es i m)) (Sx K)):=rfl
def WZ(ns:List Int):Sx K ns=K (.sc (.string (b2s ns))) []:=rfl
def XK:eff ok g ρ d (.isn neg x) K=yn K ρ neg (g x):=rfl
def PV:yn K ρ neg (.lst f n xs)=tq K neg xs.isEmpty:=rfl
def Ye:yn K ρ neg (.tg f n xs)=tq K neg xs.isEmpty:=rfl
def VK:yn K ρ neg (.sl r i n)=((∃w es,ρ r=some (.arr w es))/\tq K neg (n==0)):=rfl
def Wp(e:Bool):tq K neg e=K (cond e .ub (.sc (.bool neg))) []:=rfl
def adt(x:AV):cond true AV.ub x=AV.ub:=rfl
def aaz(x:AV):cond false AV.ub x=x:=rfl
def HB{α β:Type}(f:α->β)(xs:List α):(xs.map f).isEmpty=xs.isEmpty:=List.isEmpty_map
def Tw(y:X):eff ok g ρ d (.apq n x y) K=Ki K ρ n (g x) (g y):=rfl
def Xo:Ki K ρ n (.sl r i m) y=opt (dX n ρ y) (Pv K (ρ r) r n i m):=rfl
def Rj:Pv K (some (.arr w es)) r n i m ys=(w=n/\i+m+ys.length<=es.length/\K (.sl r i (m+ys.length)) [(r,.arr w (dg es (i+m) ys))]):=rfl
def Vr(lo hi:Option X):eff ok g ρ d (.slx n x lo hi) K=AG K ρ n (g x) (lo.map g) (hi.map g):=rfl
def UZ(lo hi mx:X):eff ok g ρ d (.slm n x lo hi mx) K=HM K ρ n (g x) (g lo) (g hi) (g mx):=rfl
def XC(lo hi mx:AV):HM K ρ n (.sl r i m) lo hi mx=zg K (ρ r) n m lo hi mx:=rfl
def Gt(k1 k2 k3:IntKind)(l h q:Int):zg K (some (.arr w es)) n m (.sc (.int k1 l)) (.sc (.int k2 h)) (.sc (.int k3 q))=(w=n/\0<=l/\l<=h/\h<=q/\q<=(m:Int)/\K .top []):=rfl
def WO:AG K ρ n (.sl r i m) lo hi=uU K (ρ r) r n i m lo hi:=rfl
def IV:uU K (some (.arr w es)) r n i m lo hi=
 (w=n/\bOk lo/\bOk hi/\bV lo 0<=bV hi m/\i+bV hi m<=es.length/\K (.sl r (i+bV lo 0) (bV hi m-bV lo 0)) []):=rfl
def Tm:eff ok g ρ d (.clr n z x) K=Hv K ρ n z (g x):=rfl
def WB:Hv K ρ n z (.sl r i m)=xC K (ρ r) r n z i m:=rfl
def Je:xC K (some (.arr w es)) r n z i m=(w=n/\z.width=n/\K (.tup []) [(r,.arr w (dg es i (A0 m z)))]):=rfl
def Xy(y:X):eff ok g ρ d (.cpy n x y) K=Ia K ρ n (g x) (g y):=rfl
def Tg:Ia K ρ n (.sl r i m) y=opt (dX n ρ y) (zX K (ρ r) r n i m):=rfl
def Jw:zX K (some (.arr w es)) r n i m ys=(w=n/\K (.sc (.int .i64 (min ys.length m:Nat))) [(r,.arr w (dg es i (ys.take (min ys.length m))))]):=rfl
def WC(y:X):eff ok g ρ d (.app n bytes mv x y) K=vE K ρ d n bytes mv (g x) (g y):=rfl
def Vf:vE K ρ d n bytes mv (.sl r i m) y=(ρ d=none/\opt (mh ρ n mv y) (qi K (ρ r) d n bytes r i m)):=rfl
def Tk:vE K ρ d n bytes mv (.tg f w es) y=(ρ d=none/\opt (mh ρ n mv y) (xW K d n bytes w es)):=rfl
def KI:xW K d n bytes w es (ys,u)=
 (w=n/\0<ys.length/\(es.length+ys.length)*bytes<=140737488355328/\K (.sl d 0 (es.length+ys.length)) (u++[(d,.arr n (es.map AV.als++ys))])):=by simp[xW,jm]
def Ud:mh ρ n true (.sl r 0 m)=zd n r m (ρ r):=rfl
def GQ:zd n r m (some (.arr w ys))=if w=n/\m=ys.length then some (ys,[(r,.dead)]) else none:=rfl
def UA:mh ρ n false y=kt (dX n ρ y):=rfl
def Bv:kt (some ys)=some (ys,[]):=rfl
def Hn:dX n ρ (.lst f w xs)=if w=n then some xs else none:=rfl
def RM:dX n ρ (.tg f w xs)=if w=n then some xs else none:=rfl
def QS:dX n ρ (.sl r i k)=nz n (ρ r) i k:=rfl
def yz:nz n (some (.arr w es)) i k=if w=n then some ((sub es i k).map AV.als) else none:=by simp[nz,jm]
def Hk:qi K (some (.arr w es)) d n bytes r i m (ys,u)=
 (w=n/\r∉u.map (·.1)/\(m+ys.length)*bytes<=140737488355328/\K (.sl d 0 (m+ys.length)) ((r,.dead)::u++[(d,.arr n (sub es i m++ys))])):=rfl
def Pk:eff ok g ρ d (.nilc x) K=tN K ρ (g x):=rfl
def WA:tN K ρ (.bp f y o)=K (.bp f y o) []:=rfl
def WH:tN K ρ (.pt r i o)=(cR (ρ r)/\K (.pt r i o) []):=rfl
def acg(y:X):eff ok g ρ d (.mn x y) K=eMn K (g x) (g y):=rfl
def ahz:eMn K (.sc (.int .i64 a)) (.sc (.int .i64 b))=K (.sc (.int .i64 (if b<a then b else a))) []:=by simp[eMn]
def adn(y:X):eff ok g ρ d (.mx x y) K=eMx K (g x) (g y):=rfl
def aiv:eMx K (.sc (.int .i64 a)) (.sc (.int .i64 b))=K (.sc (.int .i64 (if a<b then b else a))) []:=by simp[eMx]
def XB(K:AV->Prop)(k:IntKind):dA .add (.sc (.int k a)) (.sc (.int k b)) K=K (.sc (.int k (k.wrap (a+b)))):=by simp[dA,eb,ofI]
def Tu(K:AV->Prop)(k:IntKind):dA .sub (.sc (.int k a)) (.sc (.int k b)) K=K (.sc (.int k (k.wrap (a-b)))):=by simp[dA,eb,ofI]
def Xb(K:AV->Prop)(k:IntKind):dA .mul (.sc (.int k a)) (.sc (.int k b)) K=K (.sc (.int k (k.wrap (a*b)))):=by simp[dA,eb,ofI]
def Vo(K:AV->Prop)(k:IntKind):dA .quo (.sc (.int k a)) (.sc (.int k b)) K=(b≠0/\K (.sc (.int k (k.wrap (a.tdiv b))))):=by simp[dA,eb,ofI]
def Te(K:AV->Prop)(k:IntKind):dA .rem (.sc (.int k a)) (.sc (.int k b)) K=(b≠0/\K (.sc (.int k (a.tmod b)))):=by simp[dA,eb]
def Vn(K:AV->Prop)(k:IntKind):dA .and (.sc (.int k a)) (.sc (.int k b)) K=K (.sc (.int k (bits .and k a b))):=by simp[dA,eb]
def aas(K:AV->Prop)(k:IntKind):dA .or (.sc (.int k a)) (.sc (.int k b)) K=K (.sc (.int k (bits .or k a b))):=by simp[dA,eb]
def Wh(K:AV->Prop)(k:IntKind):dA .xor (.sc (.int k a)) (.sc (.int k b)) K=K (.sc (.int k (bits .xor k a b))):=by simp[dA,eb]
def Bd(K:AV->Prop)(k:IntKind):dA .andNot (.sc (.int k a)) (.sc (.int k b)) K=K (.sc (.int k (bits .andNot k a b))):=by simp[dA,eb]
def Xf(K:AV->Prop)(k:IntKind):dA .eql (.sc (.int k a)) (.sc (.int k b)) K=K (.sc (.bool (a==b))):=by simp[dA,eb]
def TF(K:AV->Prop)(k:IntKind):dA .neq (.sc (.int k a)) (.sc (.int k b)) K=K (.sc (.bool (a !=b))):=by simp[dA,eb]
def UP(K:AV->Prop)(k:IntKind):dA .lss (.sc (.int k a)) (.sc (.int k b)) K=K (.sc (.bool (decide (a<b)))):=by simp[dA,eb]
def TY(K:AV->Prop)(k:IntKind):dA .leq (.sc (.int k a)) (.sc (.int k b)) K=K (.sc (.bool (decide (a<=b)))):=by simp[dA,eb]
def Uh(K:AV->Prop)(k:IntKind):dA .gtr (.sc (.int k a)) (.sc (.int k b)) K=K (.sc (.bool (decide (b<a)))):=by simp[dA,eb]
def TC(K:AV->Prop)(k:IntKind):dA .geq (.sc (.int k a)) (.sc (.int k b)) K=K (.sc (.bool (decide (b<=a)))):=by simp[dA,eb]
def WL(K:AV->Prop)(k k':IntKind):dA .shl (.sc (.int k a)) (.sc (.int k' b)) K=fg .shl k a b K:=by simp[dA]
def Ti(K:AV->Prop)(k k':IntKind):dA .shr (.sc (.int k a)) (.sc (.int k' b)) K=fg .shr k a b K:=by simp[dA]
def ahu(K:AV->Prop)(k:IntKind):fg .shl k a b K=(0<=b/\K (.sc (.int k (k.wrap (a*2^(min b.toNat k.bits)))))):=by simp[fg,ofI]
def aio(K:AV->Prop)(k:IntKind):fg .shr k a b K=(0<=b/\K (.sc (.int k (a.fdiv (2^(min b.toNat k.bits)))))):=by simp[fg]
def Mu(K:AV->Prop)(a b:ByteArray):dA .add (.sc (.string a)) (.sc (.string b)) K=(a.size+b.size<=9223372036854775807/\K (.sc (.string (a++b)))):=rfl
def Rz(K:AV->Prop)(a b:ByteArray):dA .eql (.sc (.string a)) (.sc (.string b)) K=K (.sc (.bool (a.toList==b.toList))):=rfl
def Qk(K:AV->Prop)(a b:ByteArray):dA .neq (.sc (.string a)) (.sc (.string b)) K=K (.sc (.bool (!(a.toList==b.toList)))):=rfl
def abx(K:AV->Prop)(k:IntKind):unV .neg (.sc (.int k a)) K=K (.sc (.int k (k.wrap (0-a)))):=by simp[unV,ofI]
def aed(K:AV->Prop)(a:Bool):unV .not (.sc (.bool a)) K=K (.sc (.bool (!a))):=rfl
def Ns{α:Type}(x:α)(K:α->Prop):opt (some x) K=K x:=rfl
def Iy(K:St->Prop):fd ok [] K σ=K σ:=rfl
def CS(K:St->Prop)(d:Option Nat)(o:AOp)(os:List bl):fd ok (⟨d,o,none⟩::os) K σ=eff ok σ.gx σ.row (d.getD 0) o (Vh d (fd ok os K) σ):=rfl
def BF(K:St->Prop)(d:Option Nat)(o:AOp)(w:Bool)(os:List bl):fd ok (⟨d,o,some (s,w)⟩::os) K σ=
 fy σ s w (σ.get s) (Bk ok d o (fd ok os K)) (NE d (fd ok os K)):=rfl
def afc(len:Nat):argI σ t len (.t j)=if j=t then .sl 1000000000 0 len else σ.get j:=rfl
def adu(len:Nat)(a:AV):argI σ t len (.c a)=a:=rfl
def Rq:Rh σ t (.t j)=(j=t\/(σ.get j).ments=[]):=rfl
def ME(a:AV):Rh σ t (.c a)=(a.ments=[]):=rfl
def VN(K:St->Prop)(d:Option Nat)(o:AOp):Bk ok d o K σ=eff ok σ.gx σ.row (d.getD 0) o (Vh d K σ):=rfl
def WQ(K:St->Prop)(d:Option Nat):NE d K σ=K (σ.app d (.tup []) []):=rfl
def Fw(K:St->Prop)(d:Option Nat)(v:AV):Vh d K σ v u=K (σ.app d v u):=rfl
def Wt:Me Q can σ=Q .nrm (σ.can can):=rfl
def Gi:fy σ s true (.sc (.bool true)) A B=A (σ.know s true):=by simp[fy]
def Hm:fy σ s true (.sc (.bool false)) A B=B (σ.know s false):=by simp[fy]
def GV:fy σ s false (.sc (.bool true)) A B=B (σ.know s true):=by simp[fy]
def Jf:fy σ s false (.sc (.bool false)) A B=A (σ.know s false):=by simp[fy]
def SS(w:Bool):fy σ s w (.tup []) A B=B σ:=rfl
def Vd:σ.can []=σ:=rfl
def SM:σ.can (.s d::ds)=(σ.canV d (σ.get d)).can ds:=rfl
def IB:σ.can (.f far d r j::ds)=(σ.canG far d r j (ik j (aB r σ.rows))).can ds:=rfl
def Ir:σ.can (.r d::ds)=(σ.canW d (σ.get d)).can ds:=rfl
def Uq:σ.canW d (.sl r i n)=σ.canSr d r i n:=rfl
def NI:σ.canW d (.lst .u n [])=σ.canNil d n:=rfl
def afj:σ.canW d (.lst .o n xs)=σ:=rfl
def aaj:σ.canW d (.lst .m n xs)=σ:=rfl
def abb:σ.canW d (.lst .s n xs)=σ:=rfl
def aeh:σ.canG far d r j (.lst .o n xs)=σ:=rfl
def afg:σ.canG far d r j (.lst .m n xs)=σ:=rfl
def adk:σ.canG far d r j (.lst .s n xs)=σ:=rfl
def HU:σ.can (.z d::ds)=(σ.canZ d (σ.get d)).can ds:=rfl
def Yp:σ.canZ d (.sl r i m)=σ.canZr d i m r (aB r σ.rows):=rfl
def PY:σ.canZ d (.lst f n xs)=σ:=rfl
def NZ:σ.canZ d (.agg cs)=σ.canZc d cs 0 cs:=rfl
def JI:σ.canZc d all j []=σ:=by unfold St.canZc;rfl
def SK:σ.canZc d all j (.sl r i m::cs)=σ.canZcr d all j r i m (aB r σ.rows):=by rw[St.canZc]
def GN:σ.canZc d all j (.lst f n xs::cs)=σ.canZc d all (j+1) cs:=by rw[St.canZc];intros;contradiction
def Sl:σ.canZc d all j (.sc v::cs)=σ.canZc d all (j+1) cs:=by rw[St.canZc];intros;contradiction
def Gn:St.canZcr ⟨env,rows⟩ d all j r i m (some (.arr q es))=⟨put d (.agg (gU all j (.lst .m q (dv (sub es i m))))) env,put r .dead rows⟩:=rfl
def IX:σ.can (.e far d k j::ds)=(σ.canE far d k j (ik j (some (.var (σ.get k))))).can ds:=rfl
def XW:St.canE ⟨env,rows⟩ far d k j (.sl q i m)=if q=d\/far=false/\1000000000<=q then⟨env,rows⟩ else⟨(env.map fun p=>(p.1,p.2.hush d)).map fun p=>(p.1,p.2.ren q d),((del d rows).map fun p=>(p.1,p.2.hush d)).map fun p=>(if p.1=q then d else p.1,p.2.map (·.ren q d))⟩:=rfl
def Oe:St.canE ⟨env,rows⟩ far d k j (.lst .u m [])=St.canEN ⟨env,rows⟩ d k j m (aB k (env.map fun p=>(p.1,p.2.hush d))):=rfl
def ael:σ.canE far d r j (.lst .o n xs)=σ:=rfl
def aey:σ.canE far d r j (.lst .m n xs)=σ:=rfl
def afn:σ.canE far d r j (.lst .s n xs)=σ:=rfl
def Nd:St.canEN ⟨env,rows⟩ d k j m (some (.agg cs))=⟨put k (.agg (gU cs j (.sl d 0 0))) (env.map fun p=>(p.1,p.2.hush d)),put d (.arr m []) ((del d rows).map fun p=>(p.1,p.2.hush d))⟩:=rfl
def HO:σ.can (.w r::ds)=(σ.canX r (aB r σ.rows)).can ds:=rfl
def Su:St.canX ⟨env,rows⟩ r (some (.arr n es))=⟨env,put r (.arr n (es.map AV.als)) rows⟩:=by simp[St.canX,jm]
def Ic:σ.canX r none=σ:=rfl
def OJ:σ.canX r (some (.var (.agg cs)))=σ.canXc r cs 0 cs:=rfl
def Il:σ.canXc r all j []=σ:=by unfold St.canXc;rfl
def Lk:σ.canXc r all j (.sl q i m::cs)=σ.canXcr r all j q i m (aB q σ.rows):=by rw[St.canXc]
def Df:σ.canXc r all j (.lst .o n xs::cs)=σ.canXc r all (j+1) cs:=by rw[St.canXc]<;>(intros;simp_all)
def Cz:σ.canXc r all j (.lst .m n xs::cs)=σ.canXc r all (j+1) cs:=by rw[St.canXc]<;>(intros;simp_all)
def Cl:σ.canXc r all j (.lst .s n xs::cs)=σ.canXc r all (j+1) cs:=by rw[St.canXc]<;>(intros;simp_all)
def Cj:σ.canXc r all j (.lst .u n []::cs)=⟨σ.env,put r (.var (.agg (gU all j (.lst .m n [])))) σ.rows⟩:=by rw[St.canXc]
def Qd:σ.canXc r all j (.sc v::cs)=σ.canXc r all (j+1) cs:=by rw[St.canXc]<;>(intros;contradiction)
def Io:St.canXcr ⟨env,rows⟩ r all j q i m (some (.arr k es))=⟨env,put r (.var (.agg (gU all j (.lst .m k (dv (sub es i m)))))) (put q .dead rows)⟩:=rfl
def HL:σ.canX r (some .dead)=σ:=rfl
def CE:ik j (some (.var (.agg cs)))=tJ cs j:=rfl
def Kp:ik 0 (some (.var (.sl q i m)))=.sl q i m:=rfl
def CC:ik 0 (some (.var (.lst f m xs)))=.lst f m xs:=rfl
def acl(x:AV):tJ (x::xs) 0=x:=rfl
def aee(x:AV):tJ (x::xs) (j+1)=tJ xs j:=rfl
def adm(x:AV):gU (x::xs) 0 y=y::xs:=rfl
def aai(x:AV):gU (x::xs) (j+1) y=x::gU xs j y:=rfl
def Wy:St.canG ⟨env,rows⟩ far d r j (.sl q i m)=if q=d\/far=false/\1000000000<=q then⟨env,rows⟩ else⟨(env.map fun p=>(p.1,p.2.hush d)).map fun p=>(p.1,p.2.ren q d),((del d rows).map fun p=>(p.1,p.2.hush d)).map fun p=>(if p.1=q then d else p.1,p.2.map (·.ren q d))⟩:=rfl
def OT:St.canG ⟨env,rows⟩ far d r j (.lst .u m [])=St.canFN ⟨env,rows⟩ d r j m (aB r ((del d rows).map fun p=>(p.1,p.2.hush d))):=rfl
def Ow:St.canFN ⟨env,rows⟩ d r j m (some (.var (.lst .u k [])))=⟨env.map fun p=>(p.1,p.2.hush d),put d (.arr m []) (put r (.var (.sl d 0 0)) ((del d rows).map fun p=>(p.1,p.2.hush d)))⟩:=rfl
def QW:St.canFN ⟨env,rows⟩ d r j m (some (.var (.agg cs)))=⟨env.map fun p=>(p.1,p.2.hush d),put d (.arr m []) (put r (.var (.agg (gU cs j (.sl d 0 0)))) ((del d rows).map fun p=>(p.1,p.2.hush d)))⟩:=rfl
def Xh:σ.canV d (.sl r i n)=σ.canSl d r i n:=rfl
def LC:σ.canV d (.lst .u n [])=σ.canNil d n:=rfl
def adg:σ.canV d (.lst .o n xs)=σ:=rfl
def acy:σ.canV d (.lst .m n xs)=σ:=rfl
def abu:σ.canV d (.lst .s n xs)=σ:=rfl
def afy:St.get ⟨env,rows⟩ k=(aB k env).getD .top:=rfl
def abh:St.row ⟨env,rows⟩ k=aB k rows:=rfl
def gx_t:σ.gx (.t n)=σ.get n:=rfl
def gx_c(a:AV):σ.gx (.c a)=a:=rfl
def zi(v:AV):St.app ⟨env,rows⟩ (some d) v u=⟨put d v env,bg u rows⟩:=rfl
def zB(v:AV):St.app ⟨env,rows⟩ none v u=⟨env,bg u rows⟩:=rfl
def sW:bg [] rows=rows:=rfl
def pn(p:Nat×Row):bg (p::u) rows=bg u (put p.1 p.2 rows):=rfl
def Vv(b:Bool):St.know ⟨env,rows⟩ s b=⟨put s (.sc (.bool b)) env,rows⟩:=rfl
def MW{α:Type}:aB k ([]:List (Nat×α))=none:=rfl
def JC{α:Type}(x:α)(l:List (Nat×α)):aB k ((j,x)::l)=if j=k then some x else aB k l:=rfl
def ET{α:Type}(x:α):put k x []=[(k,x)]:=rfl
def yc{α:Type}(x y:α)(l:List (Nat×α)):put k x ((j,y)::l)=if j=k then(k,x)::l else(j,y)::put k x l:=rfl
def XN{α:Type}:del k ([]:List (Nat×α))=[]:=rfl
def PO{α:Type}(x:α)(l:List (Nat×α)):del k ((j,x)::l)=if j=k then del k l else(j,x)::del k l:=rfl
def getD_some{α:Type}(x y:α):(some x).getD y=x:=rfl
def Ke{α:Type}(y:α):(none:Option α).getD y=y:=rfl
def Sq:St.canSr ⟨env,rows⟩ d r i n=if r=d then⟨env,rows⟩ else
 ⟨put d (.sl d i n) ((env.map fun p=>(p.1,p.2.hush d)).map fun p=>(p.1,p.2.ren r d)),
  ((del d rows).map fun p=>(p.1,p.2.hush d)).map fun p=>(if p.1=r then d else p.1,p.2.map (·.ren r d))⟩:=rfl
def Pw:St.canZr ⟨env,rows⟩ d i m r (some (.arr q es))=⟨put d (.lst .m q (dv (sub es i m))) env,put r .dead rows⟩:=rfl
def NS:St.canSl ⟨env,rows⟩ d r i n=if r=d\/1000000000<=r then⟨env,rows⟩ else
 ⟨put d (.sl d i n) ((env.map fun p=>(p.1,p.2.hush d)).map fun p=>(p.1,p.2.ren r d)),
  ((del d rows).map fun p=>(p.1,p.2.hush d)).map fun p=>(if p.1=r then d else p.1,p.2.map (·.ren r d))⟩:=rfl
def Hu:St.canNil ⟨env,rows⟩ d n=
 ⟨put d (.sl d 0 0) (env.map fun p=>(p.1,p.2.hush d)),put d (.arr n []) ((del d rows).map fun p=>(p.1,p.2.hush d))⟩:=rfl
def abf:σ.res lv lr=⟨lv.map fun k=>(k,σ.get k),lr.map fun r=>(r,(σ.row r).getD .dead)⟩:=rfl
def Ss:σ.resOk lv lr=((∀k∈lv,∀r∈(σ.get k).ments,r∈lr)/\(∀q∈lr,∀r∈((σ.row q).getD .dead).ments,r∈lr)/\lr.Nodup):=rfl
def Ji(x:AV):Row.hush r (.var x)=if r∈x.ments then .dead else .var x:=rfl
def JF(x:List AV):Row.hush r (.arr n x)=.arr n x:=rfl
def CZ:Row.hush r .dead=.dead:=rfl
def Qa(h:AV->AV)(x:AV):Row.map h (.var x)=.var (h x):=rfl
def NC(h:AV->AV)(x:List AV):Row.map h (.arr n x)=.arr n x:=rfl
def Ik(h:AV->AV):Row.map h .dead=.dead:=rfl
def Cs(x:AV):Row.ments (.var x)=x.ments:=rfl
def Bg(x:List AV):Row.ments (.arr n x)=[]:=rfl
def zy:Row.ments .dead=[]:=rfl
def Xk(a:AV):a.hush r=if r∈a.ments then .top else a:=rfl
def PZ:(AV.sc v).ments=[]:=by simp[AV.ments]
def HP(x:List AV):(AV.lst f n x).ments=[]:=by simp[AV.ments]
def PQ(x:List AV):(AV.tg f n x).ments=[]:=by simp[AV.ments]
def NJ(x:AV):(AV.bp f x n).ments=[]:=by simp[AV.ments]
def Ih:AV.top.ments=[]:=by simp[AV.ments]
def Ra:(AV.sl r i n).ments=[r]:=by simp[AV.ments]
def SA:(AV.pt r i n).ments=[r]:=by simp[AV.ments]
def Gm:(AV.agg cs).ments=aP cs:=by simp[AV.ments]
def Kw(f:Nat):(AV.fn f cs).ments=aP cs:=by simp[AV.ments]
def HQ:(AV.tup cs).ments=aP cs:=by simp[AV.ments]
def BG:aP []=[]:=by simp[aP]
def AC(c:AV):aP (c::cs)=c.ments++aP cs:=by simp[aP]
theorem eG:(AV.sc v).fz=true:=by simp[AV.fz]
theorem ct:(AV.lst .o n xs).fz=fzL xs:=by simp[AV.fz]
theorem cX:(AV.agg cs).fz=fzL cs:=by simp[AV.fz]
theorem cw:fzL []=true:=by simp[fzL]
theorem bW(c:AV):fzL (c::cs)=(c.fz&&fzL cs):=by simp[fzL]
theorem eD:(AV.sc v).ouB=true:=by simp[AV.ouB]
theorem cu:(AV.lst .u n xs).ouB=gf xs:=by simp[AV.ouB]
theorem da:(AV.agg cs).ouB=gf cs:=by simp[AV.ouB]
theorem cv:gf []=true:=by simp[gf]
theorem bX(c:AV):gf (c::cs)=(c.ouB&&gf cs):=by simp[gf]
theorem dj(xs:List Int):fzL (xs.map AV.i)=true:=by induction xs<;>simp_all [fzL,AV.fz]
theorem dd(xs:List Bool):fzL (xs.map AV.b)=true:=by induction xs<;>simp_all [fzL,AV.fz]
theorem db(xs:List ByteArray):fzL (xs.map AV.z)=true:=by induction xs<;>simp_all [fzL,AV.fz]
theorem df(xs:List Int):fzL (xs.map AV.u8)=true:=by induction xs<;>simp_all [fzL,AV.fz]
theorem cx(xs:List Int):fzL (xs.map AV.u64)=true:=by induction xs<;>simp_all [fzL,AV.fz]
theorem de(xs:List Int):gf (xs.map AV.u8)=true:=by induction xs<;>simp_all [gf,AV.ouB]
theorem cr(xs:List Int):gf (xs.map AV.u64)=true:=by induction xs<;>simp_all [gf,AV.ouB]
theorem dh(xs:List Int):gf (xs.map AV.i)=true:=by induction xs<;>simp_all [gf,AV.ouB]
theorem di(xs:List Bool):gf (xs.map AV.b)=true:=by induction xs<;>simp_all [gf,AV.ouB]
theorem cZ(xs:List ByteArray):gf (xs.map AV.z)=true:=by induction xs<;>simp_all [gf,AV.ouB]
def BO(x:AV):part x off n false=x.cells[off]?:=rfl
def JT:part (.agg cs) off n true=if off+n<=cs.length then some (if off=0/\n=cs.length then .agg cs else .agg ((cs.drop off).take n)) else none:=by
 unfold part;by_cases h:off+n<=cs.length
 ·rw[u7 rfl,u7 ⟨rfl,h⟩,u7 h];rfl
 ·rw[u7 rfl,u6 (fun e=>h e.2),u6 h]
def wN:setPart (.agg cs) off (.sc v)=if off+1<=cs.length then some (.agg (fill cs off (.sc v))) else none:=rfl
def zl:setPart (.agg cs) off (.sl r i n)=if off+1<=cs.length then some (.agg (fill cs off (.sl r i n))) else none:=rfl
def xm:setPart (.agg cs) off (.lst f n xs)=if off+1<=cs.length then some (.agg (fill cs off (.lst f n xs))) else none:=rfl
def wV(vs:List AV):setPart (.agg cs) off (.agg vs)=if off=0/\vs.length=cs.length then some (.agg vs) else if off+vs.length<=cs.length then some (.agg (fill cs off (.agg vs))) else none:=rfl
def CJ(x:Value):setPart (.sc x) 0 (.sc v)=some (.sc v):=by simp[setPart,AV.isAgg,AV.width]
def AF(f':Fl)(n':Nat)(xs':List AV):setPart (.lst f n xs) 0 (.lst f' n' xs')=some (.lst f' n' xs'):=by simp[setPart,AV.isAgg,AV.width]
def tx:setPart (.lst f n xs) 0 (.sl r i k)=some (.sl r i k):=by simp[setPart,AV.isAgg,AV.width]
def vJ(r' i' k':Nat):setPart (.sl r' i' k') 0 (.sl r i k)=some (.sl r i k):=by simp[setPart,AV.isAgg,AV.width]
def Jx:(AV.agg cs).cells=cs:=rfl
def Mb:(AV.sc v).cells=[.sc v]:=rfl
def Jq:(AV.lst f n xs).cells=[.lst f n xs]:=rfl
def MB:(AV.sl r i n).cells=[.sl r i n]:=rfl
def NP(f:Nat):(AV.fn f cs).cells=[.fn f cs]:=rfl
def HX:(AV.agg cs).width=cs.length:=rfl
def Sj:(AV.sc v).width=1:=rfl
def IP:(AV.lst f n xs).width=1:=rfl
def Nc:(AV.sl r i n).width=1:=rfl
def Nu(f:Nat):(AV.fn f cs).width=1:=rfl
def VO(v:AV):fill cs off v=cs.take off++v.cells++cs.drop (off+v.cells.length):=rfl
def Hq:lM cs []=cs:=rfl
def CB(v:AV)(l:List (Nat×AV)):lM cs ((off,v)::l)=lM (fill cs off v) l:=rfl
def Yl(rs:List RV):fin rs res .ret σ=opt (RVs.val σ rs) fun xs=>(aP xs).Nodup/\lift σ.row 3 (ir xs)=res:=by
 simp only[fin,opt];cases RVs.val σ rs<;>simp
def VT(rs:List RV):fin rs res .nrm σ=opt (RVs.val σ rs) fun xs=>(aP xs).Nodup/\lift σ.row 3 (ir xs)=res:=by
 simp only[fin,opt];cases RVs.val σ rs<;>simp
def agy(o:Option Row)(k:Nat)(ag:Bool):Option AV:=match o with
 |some (.var y)=>part y 0 k ag
 |_=>none
def rvC(σ:St)(a:AV)(k:Nat)(ag:Bool):Option AV:=match a with
 | .pt r 0 0=>agy (σ.row r) k ag
 |_=>none
def rv_t:RV.val σ (.t n)=some (σ.get n):=rfl
def rv_c:RV.val σ (.c n k ag)=rvC σ (σ.get n) k ag:=by simp only[RV.val];rfl
def ade:rvC σ (.pt r 0 0) k ag=agy (σ.row r) k ag:=rfl
def QE:agy (some (.var y)) k ag=part y 0 k ag:=rfl
def ZX(x:Option AV)(xs:Option (List AV)):Option (List AV):=match x,xs with
 |some x,some xs=>some (x::xs)
 |_,_=>none
def Xj:RVs.val σ []=some []:=rfl
def Mr(r:RV)(rs:List RV):RVs.val σ (r::rs)=ZX (r.val σ) (RVs.val σ rs):=by simp only[RVs.val];rfl
def Co(x:AV):ZX (some x) (some xs)=some (x::xs):=rfl
def Mg(x:AV):ir [x]=x:=rfl
def PE(x:AV)(l:List AV):ir (x::y::l)=.tup (x::y::l):=rfl
def RZ(args:List AV):St.start args=⟨St.start.go 0 args,[]⟩:=rfl
def JJ:St.start.go n []=[]:=rfl
def Bt(a:AV)(l:List AV):St.start.go n (a::l)=(n,a)::St.start.go (n+1) l:=rfl
theorem ca(a:au)(rs:List RV)(args:List AV):WU ok a rs args res=AWP ok a (fin rs res) (St.start args):=rfl
def fl1:Fl.als .u=.m:=rfl
def fl2:Fl.als .o=.o:=rfl
def fl3:Fl.als .s=.s:=rfl
def fl4:Fl.als .m=.m:=rfl
def fl5:Fl.fix .u=.u:=rfl
def fl6:Fl.fix .o=.s:=rfl
def fl7:Fl.fix .s=.s:=rfl
def fl8:Fl.fix .m=.m:=rfl
def rU{α β:Type}(f:α->β)(x:α)(l:List α):(x::l).map f=f x::l.map f:=rfl
def uD{α β:Type}(f:α->β):[].map f=[]:=rfl
def GF{α:Type}(l:List α):l++[]=l:=List.append_nil l
def uJ{α:Type}(l:List α):[]++l=l:=rfl
def ri{α:Type}(x:α)(k l:List α):(x::k)++l=x::(k++l):=rfl
def BW{α:Type}(x:α)(l:List α):(x::l).length=l.length+1:=rfl
def Gp{α:Type}:([]:List α).length=0:=rfl
def vk{α β:Type}(f:α->β)(l:List α):(l.map f).length=l.length:=List.length_map ..
def aer{α:Type}(x:α)(l:List α):(x::l)[0]?=some x:=rfl
def adj{α:Type}(x:α)(l:List α):(x::l)[n+1]?=l[n]?:=rfl
def Rb{α β:Type}(f:α->β)(l:List α):(l.map f)[n]?=(l[n]?).map f:=List.getElem?_map ..
def Da{α β:Type}(f:α->β)(x:α):(some x).map f=some (f x):=rfl
def Cd{α β:Type}(f:α->β):(none:Option α).map f=none:=rfl
def Rv{α:Type}(l:List α):l.take 0=[]:=rfl
def Pg{α:Type}(x:α)(l:List α):(x::l).take (n+1)=x::l.take n:=rfl
def Re{α:Type}(l:List α):l.drop 0=l:=rfl
def SE{α:Type}(x:α)(l:List α):(x::l).drop (n+1)=l.drop n:=rfl
def PK{α:Type}:([]:List α).drop n=[]:=List.drop_nil
def Kr{α:Type}:([]:List α).take n=[]:=List.take_nil
def VG(l:List Int):u8s (l.map AV.u8)=some l:=by induction l<;>simp_all [u8s]
def CD:((n:Int)).toNat=n:=rfl
def Lm{ok:Oks}{a:au}{Q:Ex->St->Prop}{σ:St}(I:St->Prop)(μ:St->Nat)(h0:σ.resOk lv lr)(h1:I (σ.res lv lr))(h2:∀τ,I τ->AWP ok a (thn (fun τ'=>τ'.resOk lv lr/\I (τ'.res lv lr)/\μ (τ'.res lv lr)<μ τ) Q) τ):AWP ok (.loop a) Q σ:=by
 simp only[AWP];exact⟨lv,lr,I,μ,h0,h1,h2⟩
def NV{ok:Oks}{ρ:Nat->Option Row}{d f:Nat}{args:List AV}{K:AV->List (Nat×Row)->Prop}{res:AV}(h:ok.p f (args.map (snp ρ 4)) res)(hu:res.allU)(hn:∀p∈(adopt 4 d res).2.1,ρ p.1=none/\p.1<1000000000)(hk:K (adopt 4 d res).1 (adopt 4 d res).2.1):gC ok ρ d f args K:=⟨res,h,.inl hu,hn,hk⟩
def Pb{ok:Oks}{ρ:Nat->Option Row}{d f:Nat}{args:List AV}{K:AV->List (Nat×Row)->Prop}{v:Value}(h:ok.p f (args.map (snp ρ 4)) (.sc v))(hk:K (.sc v) []):gC ok ρ d f args K:=⟨.sc v,h,.inl (by simp[AV.allU]),by simp[nG],by simpa[nG] using hk⟩
def nW{ok:Oks}{ρ:Nat->Option Row}{d f:Nat}{args:List AV}{rs:List Nat}{K:AV->List (Nat×Row)->Prop}{res:AV}{outs:List (Nat×Row)}(h:ok.m f (args.map (AV.rg (cnm rs))) (rs.map (gV ρ rs)) res outs)(h1:rs.Nodup/\(∀r∈rs,cR (ρ r))/\(∀r∈rs,∀q∈mc (ρ r),q∈rs)/\(∀r∈aP args,r∈rs))(h2:(outs.map fun p=>bkn d rs p.1).Nodup/\(∀p∈outs,1000000000<=p.1->p.1-1000000000<rs.length)/\(∀p∈outs,p.1<1000000000->ρ (bkn d rs p.1)=none/\bkn d rs p.1<1000000000))(hk:K (res.rg (bkn d rs)) (bP rs++outs.map (fS d rs))):callM ok ρ d f args rs K:=⟨res,outs,h,h1,h2,hk⟩
def gq{α:Type}{e:α->AV}(h:∀x,(e x).fz=true)(xs:List α):fzL (xs.map e)=true:=by induction xs<;>simp_all [fzL]
def gv{α:Type}{e:α->AV}(h:∀x,(e x).ouB=true)(xs:List α):gf (xs.map e)=true:=by induction xs<;>simp_all [gf]
def ZI{A B:Prop}(a:A)(b:B):A/\B:=⟨a,b⟩
def VS1:=ZI @jo (ZI @jm (ZI @gl (ZI @aak (ZI @Yi (ZI @afi (ZI @XI (ZI @adi (ZI @aar (ZI @afl (ZI @GO (ZI @agd (ZI @GJ (ZI @Wg (ZI @KE (ZI @Lh (ZI @Kx (ZI @Vx (ZI @BH (ZI @nG (ZI @Fq (ZI @Dy (ZI @DN (ZI @ES (ZI @uM (ZI @uS (ZI @uY (ZI @sQ (ZI @cB (ZI @eX (ZI @eZ (ZI @abv (ZI @dU (ZI @eW (ZI @eV (ZI @eB (ZI @eE (ZI @eF (ZI @eS (ZI @eU (ZI @eu (ZI @Js (ZI @Kb (ZI @uL (ZI @oz (ZI @nX (ZI @lw (ZI @Bx (ZI @JV (ZI @Gf (ZI @Kg (ZI @Dq (ZI @qv (ZI @Xm (ZI @c_eq (ZI @ahm (ZI @abc (ZI @Wi (ZI @Mp (ZI @aew (ZI @ads (ZI @WD (ZI @TV (ZI @PP (ZI @MM (ZI @LG (ZI @acj (ZI @aha (ZI @acr (ZI @ahr (ZI @ajv (ZI @aih (ZI @aju (ZI @ada (ZI @agf (ZI @ajw (ZI @ajt (ZI @TW (ZI @nR (ZI @YU (ZI @Om (ZI @Yz (ZI @ZB (ZI @RB @Qi)))))))))))))))))))))))))))))))))))))))))))))))))))))))))))))))))))))))))))))))))))
def VS2:=ZI @Zu (ZI @KV (ZI @aae (ZI @ZY (ZI @EX (ZI @En (ZI @yH (ZI @Am (ZI @Ri (ZI @KH (ZI @SH (ZI @xq (ZI @Ds (ZI @BN (ZI @EC (ZI @DE (ZI @adl (ZI @UY (ZI @aau (ZI @aat (ZI @UL (ZI @XL (ZI @acd (ZI @VZ (ZI @aal (ZI @afp (ZI @Pe (ZI @Vk (ZI @TK (ZI @XG (ZI @Mi (ZI @act (ZI @afx (ZI @agu (ZI @PJ (ZI @Lo (ZI @aje (ZI @ace (ZI @Ul (ZI @TN (ZI @SO (ZI @Uo (ZI @Um (ZI @aam (ZI @Wc (ZI @Vm (ZI @aea (ZI @Vu (ZI @aex (ZI @RK (ZI @Tp (ZI @UE (ZI @Kh (ZI @Ug (ZI @JS (ZI @UO (ZI @BV (ZI @Cy (ZI @Fn (ZI @ajy (ZI @Qt (ZI @RX (ZI @PI (ZI @yi (ZI @yK (ZI @MV (ZI @HC (ZI @Gb (ZI @vY (ZI @Rm (ZI @vz (ZI @Lq (ZI @Ib (ZI @UQ (ZI @TQ (ZI @Xt (ZI @Tf (ZI @abm (ZI @aem (ZI @afs (ZI @TS (ZI @Xz (ZI @Wz @aeu))))))))))))))))))))))))))))))))))))))))))))))))))))))))))))))))))))))))))))))))))
def VS3:=ZI @aap (ZI @adq (ZI @QA (ZI @Oi (ZI @Xi (ZI @Tt (ZI @aaq (ZI @afh (ZI @XP (ZI @afe (ZI @agc (ZI @abj (ZI @KW (ZI @WT (ZI @Wn (ZI @UV (ZI @agv (ZI @Wm (ZI @NU (ZI @Jd (ZI @UU (ZI @aax (ZI @So (ZI @aja (ZI @Uj (ZI @bV_i (ZI @TX (ZI @VY (ZI @Us (ZI @WW (ZI @XS (ZI @acb (ZI @Yf (ZI @afr (ZI @aeb (ZI @UI (ZI @Xa (ZI @aei (ZI @NQ (ZI @WM (ZI @aiw (ZI @ajg (ZI @ahg (ZI @aia (ZI @WG (ZI @UD (ZI @KR (ZI @Og (ZI @UJ (ZI @WR (ZI @Wl (ZI @Nj (ZI @SF (ZI @Tz (ZI @JH (ZI @Nr (ZI @NF (ZI @Yj (ZI @TB (ZI @QT (ZI @WF (ZI @Th (ZI @SB (ZI @KO (ZI @Ve (ZI @Vj (ZI @acm (ZI @Ww (ZI @aag (ZI @Xr (ZI @Oc (ZI @SZ (ZI @Ha (ZI @WZ (ZI @XK (ZI @PV (ZI @Ye (ZI @VK (ZI @Wp (ZI @adt (ZI @aaz (ZI @HB @Tw)))))))))))))))))))))))))))))))))))))))))))))))))))))))))))))))))))))))))))))))))
def VS4:=ZI @Xo (ZI @Rj (ZI @Vr (ZI @UZ (ZI @XC (ZI @Gt (ZI @WO (ZI @IV (ZI @Tm (ZI @WB (ZI @Je (ZI @Xy (ZI @Tg (ZI @Jw (ZI @WC (ZI @Vf (ZI @Tk (ZI @KI (ZI @Ud (ZI @GQ (ZI @UA (ZI @Bv (ZI @Hn (ZI @RM (ZI @QS (ZI @yz (ZI @Hk (ZI @Pk (ZI @WA (ZI @WH (ZI @acg (ZI @ahz (ZI @adn (ZI @aiv (ZI @XB (ZI @Tu (ZI @Xb (ZI @Vo (ZI @Te (ZI @Vn (ZI @aas (ZI @Wh (ZI @Bd (ZI @Xf (ZI @TF (ZI @UP (ZI @TY (ZI @Uh (ZI @TC (ZI @WL (ZI @Ti (ZI @ahu (ZI @aio (ZI @Mu (ZI @Rz (ZI @Qk (ZI @abx (ZI @aed (ZI @Ns (ZI @Iy (ZI @CS (ZI @BF (ZI @afc (ZI @adu (ZI @Rq (ZI @ME (ZI @VN (ZI @WQ (ZI @Fw (ZI @Wt (ZI @Gi (ZI @Hm (ZI @GV (ZI @Jf (ZI @SS (ZI @Vd @SM)))))))))))))))))))))))))))))))))))))))))))))))))))))))))))))))))))))))))))
def VS5:=ZI @IB (ZI @Ir (ZI @Uq (ZI @NI (ZI @afj (ZI @aaj (ZI @abb (ZI @aeh (ZI @afg (ZI @adk (ZI @HU (ZI @Yp (ZI @PY (ZI @NZ (ZI @JI (ZI @SK (ZI @GN (ZI @Sl (ZI @Gn (ZI @IX (ZI @XW (ZI @Oe (ZI @ael (ZI @aey (ZI @afn (ZI @Nd (ZI @HO (ZI @Su (ZI @Ic (ZI @OJ (ZI @Il (ZI @Lk (ZI @Df (ZI @Cz (ZI @Cl (ZI @Cj (ZI @Qd (ZI @Io (ZI @HL (ZI @CE (ZI @Kp (ZI @CC (ZI @acl (ZI @aee (ZI @adm (ZI @aai (ZI @Wy (ZI @OT (ZI @Ow (ZI @QW (ZI @Xh (ZI @LC (ZI @adg (ZI @acy (ZI @abu (ZI @afy (ZI @abh (ZI @gx_t (ZI @gx_c (ZI @zi (ZI @zB (ZI @sW (ZI @pn (ZI @Vv (ZI @MW (ZI @JC (ZI @ET (ZI @yc (ZI @XN (ZI @PO (ZI @getD_some (ZI @Ke (ZI @Sq (ZI @Pw (ZI @NS (ZI @Hu (ZI @abf (ZI @Ss (ZI @Ji (ZI @JF (ZI @CZ (ZI @Qa (ZI @NC (ZI @Ik @Cs)))))))))))))))))))))))))))))))))))))))))))))))))))))))))))))))))))))))))))))))))))
def VS6:=ZI @Bg (ZI @zy (ZI @Xk (ZI @PZ (ZI @HP (ZI @PQ (ZI @NJ (ZI @Ih (ZI @Ra (ZI @SA (ZI @Gm (ZI @Kw (ZI @HQ (ZI @BG (ZI @AC (ZI @BO (ZI @JT (ZI @wN (ZI @zl (ZI @xm (ZI @wV (ZI @CJ (ZI @AF (ZI @tx (ZI @vJ (ZI @Jx (ZI @Mb (ZI @Jq (ZI @MB (ZI @NP (ZI @HX (ZI @Sj (ZI @IP (ZI @Nc (ZI @Nu (ZI @VO (ZI @Hq (ZI @CB (ZI @Yl (ZI @VT (ZI @rv_t (ZI @rv_c (ZI @ade (ZI @QE (ZI @Xj (ZI @Mr (ZI @Co (ZI @Mg (ZI @PE (ZI @RZ (ZI @JJ (ZI @Bt (ZI @ca (ZI @fl1 (ZI @fl2 (ZI @fl3 (ZI @fl4 (ZI @fl5 (ZI @fl6 (ZI @fl7 (ZI @fl8 (ZI @rU (ZI @uD (ZI @GF (ZI @uJ (ZI @ri (ZI @BW (ZI @Gp (ZI @vk (ZI @aer (ZI @adj (ZI @Rb (ZI @Da (ZI @Cd (ZI @Rv (ZI @Pg (ZI @Re (ZI @SE (ZI @PK (ZI @Kr (ZI @VG @CD))))))))))))))))))))))))))))))))))))))))))))))))))))))))))))))))))))))))))))))))
def VA:=ZI @gl (ZI @nG (ZI @Fq (ZI @Dy (ZI @DN (ZI @ES (ZI @uM (ZI @uS (ZI @uY (ZI @sQ (ZI @eB (ZI @eE (ZI @eF (ZI @eu (ZI @uL (ZI @lw (ZI @qv (ZI @MM (ZI @LG (ZI @nR (ZI @YU (ZI @Om (ZI @Yz (ZI @ZB (ZI @RB (ZI @Qi (ZI @Zu (ZI @KV (ZI @aae (ZI @ZY (ZI @EX (ZI @En (ZI @yH (ZI @Am (ZI @Ri (ZI @KH (ZI @xq (ZI @EC (ZI @DE (ZI @Fn (ZI @Fw (ZI @zi (ZI @zB (ZI @sW (ZI @pn (ZI @ET (ZI @yc (ZI @fl5 (ZI @fl6 (ZI @fl7 (ZI @fl8 (ZI @rU (ZI @uD (ZI @uJ (ZI @ri (@vk)))))))))))))))))))))))))))))))))))))))))))))))))))))))
end Vs

