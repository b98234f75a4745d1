/-
  Part of the proof that FnExactAddService returns true at every input.
-/
import Derived.Calls
import Derived.Below
set_option linter.defProp false
set_option linter.unusedSimpArgs false
set_option linter.unusedVariables false
open List renaming replicate -> A0
namespace Vs
open Go
inductive Fl where|o|s|m|u
 deriving DecidableEq
def Fl.als:Fl->Fl
 | .u=>.m
 |f=>f
def Fl.fix:Fl->Fl
 | .o=>.s
 |f=>f
inductive AV where
 |sc (v:Value)
 |lst (f:Fl) (n:Nat) (xs:List AV)
 |tg (f:Fl) (n:Nat) (xs:List AV)
 |agg (cs:List AV)
 |bp (f:Fl) (x:AV) (off:Nat)
 |sl (r i n:Nat)
 |pt (r i off:Nat)
 |fn (f:Nat) (cs:List AV)
 |tup (vs:List AV)
 |ub
 |top
instance:Inhabited AV:=⟨.top⟩
abbrev AV.i(n:Int):AV:=.sc (.int .i64 n)
abbrev AV.u8(n:Int):AV:=.sc (.int .u8 n)
abbrev AV.u64(n:Int):AV:=.sc (.int .u64 n)
abbrev AV.b(b:Bool):AV:=.sc (.bool b)
abbrev AV.z(s:ByteArray):AV:=.sc (.string s)
def AV.width:AV->Nat
 | .agg cs=>cs.length
 | .top=>0
 | .tup _=>0
 |_=>1
def AV.isAgg:AV->Bool
 | .agg _=>true
 |_=>false
def AV.cells:AV->List AV
 | .agg cs=>cs
 | .top=>[]
 | .tup _=>[]
 |x=>[x]
def AV.flat:AV->Bool
 | .sc _=>true
 | .agg cs=>cs.all fun| .sc _=>true|_=>false
 |_=>false
mutual
def AV.nrm:AV->AV
 | .sc v=>.sc v
 | .lst _ n xs=>.lst .o n (iP xs)
 | .tg _ n xs=>.lst .o n (iP xs)
 | .agg cs=>.agg (iP cs)
 | .bp _ x off=>.bp .o x.nrm off
 | .fn f cs=>.fn f (iP cs)
 |_=>.top
def iP:List AV->List AV
 |[]=>[]
 |c::cs=>c.nrm::iP cs
end
mutual
def AV.als:AV->AV
 | .sc v=>.sc v
 | .lst f n xs=>.lst f.als n (dW xs)
 | .agg cs=>.agg (dW cs)
 |_=>.top
def dW:List AV->List AV
 |[]=>[]
 |c::cs=>c.als::dW cs
end
mutual
def AV.fix:AV->AV
 | .sc v=>.sc v
 | .lst f n xs=>.lst f.fix n (gJ xs)
 | .agg cs=>.agg (gJ cs)
 | .tup cs=>.tup (gJ cs)
 | .fn f cs=>.fn f (gJ cs)
 |_=>.top
def gJ:List AV->List AV
 |[]=>[]
 |c::cs=>c.fix::gJ cs
end
mutual
def AV.ments:AV->List Nat
 | .sl r _ _=>[r]
 | .pt r _ _=>[r]
 | .agg cs=>aP cs
 | .fn _ cs=>aP cs
 | .tup cs=>aP cs
 |_=>[]
def aP:List AV->List Nat
 |[]=>[]
 |c::cs=>c.ments++aP cs
end
mutual
def AV.allU:AV->Prop
 | .sc _=>True
 | .lst f _ xs=>f=.u/\kw xs
 | .agg cs=>kw cs
 | .tup cs=>kw cs
 |_=>False
def kw:List AV->Prop
 |[]=>True
 |c::cs=>c.allU/\kw cs
end
mutual
def AV.allO:AV->Prop
 | .sc _=>True
 | .lst f _ xs=>f=.o/\oS xs
 | .agg cs=>oS cs
 | .tup cs=>oS cs
 |_=>False
def oS:List AV->Prop
 |[]=>True
 |c::cs=>c.allO/\oS cs
end
mutual
def AV.ou:AV->Prop
 | .sc _=>True
 | .lst f _ xs=>(f=.u/\ouL xs)\/(f=.o/\oS xs)
 | .agg cs=>ouL cs
 | .tup cs=>ouL cs
 |_=>False
def ouL:List AV->Prop
 |[]=>True
 |c::cs=>c.ou/\ouL cs
end
mutual
def AV.noU:AV->Prop
 | .sc _=>True
 | .lst f _ xs=>f≠.u/\Dk xs
 | .agg cs=>Dk cs
 | .tup cs=>Dk cs
 |_=>False
def Dk:List AV->Prop
 |[]=>True
 |c::cs=>c.noU/\Dk cs
end
def sub(es:List AV)(i n:Nat):List AV:=if i=0/\n=es.length then es else(es.drop i).take n
def en{α:Type}(es:List α)(i:Nat)(ys:List α):List α:=if i+ys.length<=es.length then es.take i++ys++es.drop (i+ys.length) else es
inductive Row where
 |var (x:AV)
 |arr (n:Nat) (es:List AV)
 |dead
def cH:Option Row->Prop
 |some (.var _)=>True
 |some (.arr _ _)=>True
 |_=>False
def aC{α:Type}(k:Nat):List (Nat×α)->Option α
 |[]=>none
 |(j,x)::l=>if j=k then some x else aC k l
def put{α:Type}(k:Nat)(x:α):List (Nat×α)->List (Nat×α)
 |[]=>[(k,x)]
 |(j,y)::l=>if j=k then(k,x)::l else(j,y)::put k x l
def oO(o:Option Row)(i n:Nat):AV:=match o with
 |some (.arr w es)=>.lst .o w (iP (sub es i n))
 |_=>.top
def mR(h:AV->AV)(o:Option Row)(i off:Nat):AV:=match o with
 |some (.var y)=>if i=0 then .bp .o (h y) off else .top
 | some (.arr _ es) => match es[i]? with
   |some y=>.bp .o y.nrm off
   |none=>.top
 |_=>.top
def snp(ρ:Nat->Option Row):Nat->AV->AV
 |0,_=>.top
 | k + 1, x => match x with
   | .sl r i n=>oO (ρ r) i n
   | .pt r i off=>mR (snp ρ k) (ρ r) i off
   | .agg cs=>.agg (cs.map (snp ρ k))
   | .fn f cs=>.fn f (cs.map (snp ρ k))
   |x=>x.nrm
def mp(o:Option Row)(i n:Nat):AV:=match o with
 |some (.arr w es)=>.lst .u w (sub es i n)
 |_=>.top
def lift(ρ:Nat->Option Row):Nat->AV->AV
 |0,_=>.top
 | k + 1, x => match x with
   | .sl r i n=>mp (ρ r) i n
   | .agg cs=>.agg (cs.map (lift ρ k))
   | .tup cs=>.tup (cs.map (lift ρ k))
   | .sc v=>.sc v
   | .lst f n xs=>.lst f n xs
   |_=>.top
def adopt:Nat->Nat->AV->AV×List (Nat×Row)×Nat
 |0,c,_=>(.top,[],c)
 | k + 1, c, x => match x with
   | .lst .u n es=>(.sl c 0 es.length,[(c,.arr n (gJ es))],c+1000)
   | .agg cs=>let(l,u,c):=go k c cs;(.agg l,u,c)
   | .tup cs=>let(l,u,c):=go k c cs;(.tup l,u,c)
   |x=>(x.fix,[],c)
where
 go (k:Nat):Nat->List AV->List AV×List (Nat×Row)×Nat
  |c,[]=>([],[],c)
  | c, x :: xs =>
    let(y,u,c):=adopt k c x;let(ys,us,c):=go k c xs
    (y::ys,u++us,c)
inductive X where
 |t (n:Nat)
 |c (a:AV)
inductive AOp where
 |mv (x:X)
 |pick (c a b:X)
 |alloc (z:AV)
 |box (n:Nat) (x:X)
 |build (z:List AV) (ps:List (Nat×Nat×X))
 |bsl (n:Nat) (fr:Bool) (ps:List X)
 |load (n:Nat) (ag:Bool) (x:X)
 |store (n:Nat) (x v:X)
 |bin (op:BinOp) (x y:X)
 |beq (neg:Bool) (x y:X)
 |un (op:UnOp) (x:X)
 |conv (k:IntKind) (x:X)
 |mkf (f:Nat) (cs:List X)
 |mks (n:Nat) (z:AV) (bytes:Nat) (l c:X)
 |slc (n:Nat) (x:X) (lo hi mx:Option X)
 |slz (x:X) (lo hi:Option X)
 |fad (off:Nat) (x:X)
 |idx (n:Nat) (x i:X)
 |fld (off n:Nat) (ag:Bool) (x:X)
 |stri (x i:X)
 |ext (x:X) (j:Nat)
 |call (f:Nat) (xs:List X)
 |dyn (x:X) (xs:List X)
 |callM (f:Nat) (xs:List X) (rs:List Nat)
 |dynM (x:X) (xs:List X) (rs:List Nat)
 |len (x:X)
 |lenz (x:X)
 |capn (x:X)
 |slg (n:Nat) (x hi:X)
 |apz (n:Nat) (z:AV) (bytes:Nat) (x l:X)
 |b2s (x:X)
 |isn (neg:Bool) (x:X)
 |aeq (neg:Bool) (x y:X)
 |apq (n:Nat) (x y:X)
 |slx (n:Nat) (x:X) (lo hi:Option X)
 |slm (n:Nat) (x lo hi mx:X)
 |clr (n:Nat) (z:AV) (x:X)
 |cpy (n:Nat) (x y:X)
 |ldv (av:List Nat) (n:Nat) (ag:Bool) (x:X)
 |lde (av:List Nat) (n:Nat) (ag:Bool) (x:X)
 |str (n:Nat) (x v:X)
 |lda (n:Nat) (ag:Bool) (x:X)
 |stv (n:Nat) (x v:X)
 |fdv (av:List Nat) (off:Nat) (x:X)
 |idv (av:List Nat) (n:Nat) (x i:X)
 |lnv (av:List Nat) (x:X)
 |stw (r n:Nat) (x v:X)
 |bsm (n:Nat) (ps:List X)
 |app (n bytes:Nat) (mv:Bool) (x y:X)
 |nilc (x:X)
 |mn (x y:X)
 |mx (x y:X)
 |bad
structure bn where
 d:Option Nat
 op:AOp
 gd:Option (Nat×Bool)
inductive HOp where
 |inn (t n k:Nat) (x:X) (mids:List (Nat×X)) (d f:Nat) (xs:List X)
 |har (d f:Nat) (xs:List X) (rs:List Nat)
inductive Can where
 |s (d:Nat)
 |f (far:Bool) (d r j:Nat)
 |r (d:Nat)
 |z (d:Nat)
 |e (far:Bool) (d k j:Nat)
 |w (r:Nat)
inductive ar where
 |skip
 |reg (ops:List bn) (can:List Can)
 |regh (pre:List bn) (h:HOp) (post:List bn) (can:List Can)
 |drw (ops:List bn) (can:List Can)
 |seq (a b:ar)
 |seqr (a:ar) (lv lr:List Nat) (b:ar)
 |seqa (x a:ar) (lv lr:List Nat) (b:ar)
 |seqb (a:ar) (lv:List Nat) (b:ar)
 |cond (x:X) (a b:ar)
 |blk (id:Nat) (a:ar)
 |loop (a:ar)
 |exit (id:Nat)
 |ret
structure St where
 env:List (Nat×AV)
 rows:List (Nat×Row)
def St.get(σ:St)(k:Nat):AV:=(aC k σ.env).getD .top
def St.row(σ:St)(r:Nat):Option Row:=aC r σ.rows
def St.gx(σ:St):X->AV
 | .t n=>σ.get n
 | .c a=>a
def bh(l:List (Nat×Row))(rows:List (Nat×Row)):List (Nat×Row):=l.foldl (fun rs p=>put p.1 p.2 rs) rows
def St.app(σ:St)(d:Option Nat)(v:AV)(u:List (Nat×Row)):St:=
 {env:=match d with|some d=>put d v σ.env|none=>σ.env,rows:=bh u σ.rows}
def St.know(σ:St)(s:Nat)(b:Bool):St:={σ with env:=put s (.b b) σ.env}
def I64(n:Int):Prop:=-9223372036854775808<=n/\n<=9223372036854775807
def fill(cs:List AV)(off:Nat)(v:AV):List AV:=cs.take off++v.cells++cs.drop (off+v.cells.length)
def lK:List AV->List (Nat×AV)->List AV
 |cs,[]=>cs
 |cs,(off,v)::l=>lK (fill cs off v) l
def part(x:AV)(off n:Nat)(ag:Bool):Option AV:=
 if ag then(if x.isAgg=true/\off+n<=x.width then some (if off=0/\n=x.width then .agg x.cells else .agg ((x.cells.drop off).take n)) else none)
 else x.cells[off]?
def setPart(x:AV)(off:Nat)(v:AV):Option AV:=
 if x.isAgg=true then
  (if v.isAgg=true then(if off=0/\v.width=x.width then some v else if off+v.width<=x.width then some (.agg (fill x.cells off v)) else none)
   else if off+1<=x.width then some (.agg (fill x.cells off v)) else none)
 else if off=0/\v.isAgg=false/\x.width=1 then some v else none
def bits(op:BinOp)(k:IntKind)(x y:Int):Int:=
 let a:=BitVec.ofInt k.bits x;let b:=BitVec.ofInt k.bits y
 k.wrap (match op with| .and=>(a &&& b).toNat| .or=>(a ||| b).toNat| .xor=>(a ^^^ b).toNat|_=>(a &&& ~~~b).toNat)
def ofI(k:IntKind)(n:Int)(K:AV->Prop):Prop:=K (.sc (.int k (k.wrap n)))
def ee(op:BinOp)(k:IntKind)(a b:Int)(K:AV->Prop):Prop:=
 match op with
 | .add=>ofI k (a+b) K
 | .sub=>ofI k (a-b) K
 | .mul=>ofI k (a*b) K
 | .quo=>b≠0/\ofI k (a.tdiv b) K
 | .rem=>b≠0/\K (.sc (.int k (a.tmod b)))
 | .and=>K (.sc (.int k (bits .and k a b)))
 | .or=>K (.sc (.int k (bits .or k a b)))
 | .xor=>K (.sc (.int k (bits .xor k a b)))
 | .andNot=>K (.sc (.int k (bits .andNot k a b)))
 | .eql=>K (.b (a==b))
 | .neq=>K (.b (a !=b))
 | .lss=>K (.b (decide (a<b)))
 | .leq=>K (.b (decide (a<=b)))
 | .gtr=>K (.b (decide (a>b)))
 | .geq=>K (.b (decide (a>=b)))
 |_=>False
def fh(op:BinOp)(k:IntKind)(a y:Int)(K:AV->Prop):Prop:=
 0<=y/\match op with
 | .shl=>ofI k (a*2^(min y.toNat k.bits)) K
 | .shr=>K (.sc (.int k (a.fdiv (2^(min y.toNat k.bits)))))
 |_=>False
def dG(op:BinOp)(x y:AV)(K:AV->Prop):Prop:=
 match x,y with
 | .sc (.int k a), .sc (.int k' b) =>
   match op with
   | .shl=>fh .shl k a b K
   | .shr=>fh .shr k a b K
   |op=>k=k'/\ee op k a b K
 | .sc (.string a), .sc (.string b) =>
   match op with
   | .add=>a.size+b.size<=9223372036854775807/\K (.z (a++b))
   | .eql=>K (.b (a.toList==b.toList))
   | .neq=>K (.b (!(a.toList==b.toList)))
   |_=>False
 |_,_=>False
def unV(op:UnOp)(x:AV)(K:AV->Prop):Prop:=
 match op,x with
 | .neg,.sc (.int k n)=>ofI k (0-n) K
 | .not,.sc (.bool b)=>K (.b (!b))
 |_,_=>False
def ck(rs:List Nat):List (Nat×Row):=rs.map fun r=>(r,.dead)
def na(n:Nat)(o:Option Row)(i k:Nat):Option (List AV):=match o with
 |some (.arr w es)=>if w=n then some (dW (sub es i k)) else none
 |_=>none
def et(n:Nat)(ρ:Nat->Option Row):AV->Option (List AV)
 | .lst _ w xs=>if w=n then some xs else none
 | .tg _ w xs=>if w=n then some xs else none
 | .sl r i k=>na n (ρ r) i k
 |_=>none
def zd(n r m:Nat)(o:Option Row):Option (List AV×List (Nat×Row)):=match o with
 |some (.arr w ys)=>if w=n/\m=ys.length then some (ys,[(r,.dead)]) else none
 |_=>none
def lM(o:Option (List AV)):Option (List AV×List (Nat×Row)):=match o with
 |some ys=>some (ys,[])
 |none=>none
def nt(ρ:Nat->Option Row)(n:Nat)(mv:Bool)(y:AV):Option (List AV×List (Nat×Row)):=match mv,y with
 |true,.sl r 0 m=>zd n r m (ρ r)
 |_,y=>lM (et n ρ y)
def bOk(o:Option AV):Prop:=match o with
 |none=>True
 |some (.sc (.int _ n))=>0<=n
 |_=>False
def bV(o:Option AV)(dflt:Nat):Nat:=match o with
 |some (.sc (.int _ n))=>n.toNat
 |_=>dflt
def u8s:List AV->Option (List Int)
 |[]=>some []
 | .sc (.int .u8 n) :: xs => match u8s xs with
   |some ns=>some (n::ns)
   |none=>none
 |_=>none
def b2s(ns:List Int):ByteArray:=ns.foldl (fun r n=>r.push (UInt8.ofNat n.toNat)) ByteArray.empty
def opt{α:Type}(o:Option α)(K:α->Prop):Prop:=match o with
 |some v=>K v
 |none=>False
section
variable(K:AV->List (Nat×Row)->Prop)
def k1(v:AV):Prop:=K v []
def lH(c a b:AV):Prop:=match c with
 | .sc (.bool t)=>(t=true->K a [])/\(t=false->K b [])
 |_=>False
def Oi(off n:Nat)(ag:Bool)(y:AV):Prop:=opt (part y.als off n ag) (k1 K)
def eS(o:Option Row)(i off n:Nat)(ag:Bool):Prop:=match o with
 |some (.var y)=>i=0/\opt (part y off n ag) (k1 K)
 |some (.arr _ es)=>opt es[i]? (Oi K off n ag)
 |_=>False
def eM(ρ:Nat->Option Row)(n:Nat)(ag:Bool)(x:AV):Prop:=match x with
 | .bp _ y off=>opt (part y off n ag) (k1 K)
 | .pt r i off=>eS K (ρ r) i off n ag
 |_=>False
def QN(r:Nat)(y:AV):Prop:=K .top [(r,.var y)]
def AU(u:List (Nat×Row))(r w i:Nat)(es:List AV)(y:AV):Prop:=K .top (u++[(r,.arr w (es.set i y))])
def rU(ρ:Nat->Option Row)(r w i off:Nat)(es:List AV)(v y:AV):Prop:=
 r∉v.ments/\v.ments.Nodup/\(lift ρ 2 v).width=v.width/\opt (setPart y off (lift ρ 2 v)) (AU K (ck v.ments) r w i es)
def ej(ρ:Nat->Option Row)(o:Option Row)(r i off:Nat)(v:AV):Prop:=match o with
 |some (.var y)=>i=0/\opt (setPart y off v) (QN K r)
 |some (.arr w es)=>opt es[i]? (rU K ρ r w i off es v)
 |_=>False
def dX(ρ:Nat->Option Row)(n:Nat)(x v:AV):Prop:=match x with
 | .pt r i off=>v.width=n/\ej K ρ (ρ r) r i off v
 |_=>False
def iPt(av:List Nat):AV->Prop
 | .sl r _ _=>r∉av
 | .lst _ _ _=>True
 |_=>False
def Cn:Option Row->Prop
 |some (.var _)=>True
 |_=>False
def AN:Option Row->Prop
 |some (.arr _ _)=>True
 |_=>False
def lPt(av:List Nat):AV->Prop
 | .pt r _ _=>r∉av
 | .bp _ _ _=>True
 |_=>False
def vPt(av:List Nat)(ρ:Nat->Option Row):AV->Prop
 | .pt r _ _=>r∉av/\Cn (ρ r)
 | .bp _ _ _=>True
 |_=>False
def aPt(ρ:Nat->Option Row):AV->Prop
 | .pt r _ _=>AN (ρ r)
 |_=>False
def aPb(ρ:Nat->Option Row):AV->Prop
 | .pt r _ _=>AN (ρ r)
 | .bp _ _ _=>True
 |_=>False
def wPt(r:Nat)(ρ:Nat->Option Row):AV->Prop
 | .pt q _ _=>q=r/\Cn (ρ q)
 |_=>False
def vPv(ρ:Nat->Option Row):AV->Prop
 | .pt r _ _=>Cn (ρ r)
 |_=>False
def zY(neg:Bool)(x y:AV):Prop:=match x,y with
 | .sc (.bool a),.sc (.bool b)=>K (.sc (.bool (if neg then !(a==b) else(a==b)))) []
 |_,_=>False
def yk(neg:Bool)(x y:AV):Prop:=match x,y with
 | .agg [.sc (.int .i64 a),.sc (.int .i64 b)],.agg [.sc (.int .i64 c),.sc (.int .i64 e)]=>K (.sc (.bool (if neg then !(a==c&&b==e) else(a==c&&b==e)))) []
 |_,_=>False
def sD(k:IntKind)(x:AV):Prop:=match x with
 | .sc (.int _ n)=>K (.sc (.int k (k.wrap n))) []
 |_=>False
def tu(o:Option Row)(d n:Nat)(z:AV)(bytes:Nat)(l c:AV):Prop:=match l,c with
 | .sc (.int .i64 l),.sc (.int .i64 c)=>o=none/\z.width=n/\0<=l/\l<=c/\c*bytes<=140737488355328/\c<=9223372036854775807/\K (.sl d 0 l.toNat) [(d,.arr n (A0 l.toNat z))]
 |_,_=>False
def sv(ρ:Nat->Option Row)(n:Nat)(x:AV)(lo hi mx:Option AV):Prop:=match x with
 | .lst f w xs=>w=n/\bOk lo/\bOk hi/\bV lo 0<=bV hi xs.length/\bV hi xs.length<=xs.length/\
  match mx with
  |none=>K (.lst f n (sub xs (bV lo 0) (bV hi xs.length-bV lo 0))) []
  |some m=>hi.isSome/\bOk (some m)/\bV (some m) 0=bV hi xs.length/\K (.tg f n (sub xs (bV lo 0) (bV hi xs.length-bV lo 0))) []
 | .sl r i m=>(∃es,ρ r=some (.arr n es))/\bOk lo/\bOk hi/\bV lo 0<=bV hi m/\bV hi m<=m/\mx=none/\K (.sl r (i+bV lo 0) (bV hi m-bV lo 0)) []
 |_=>False
def UN(x:AV)(lo hi:Option AV):Prop:=match x with
 | .sc (.string s)=>bOk lo/\bOk hi/\bV lo 0<=bV hi s.size/\bV hi s.size<=s.size/\K (.sc (.string (s.extract (bV lo 0) (bV hi s.size)))) []
 |_=>False
def mj(ρ:Nat->Option Row)(off:Nat)(x:AV):Prop:=match x with
 | .bp f y o=>K (.bp f y (o+off)) []
 | .pt r i o=>cH (ρ r)/\K (.pt r i (o+off)) []
 |_=>False
def ZP(f:Fl)(y:AV):Prop:=K (.bp f y 0) []
def kH(ρ:Nat->Option Row)(n:Nat)(x i:AV):Prop:=match x,i with
 | .lst f w xs,.sc (.int _ j)=>w=n/\0<=j/\opt xs[j.toNat]? (ZP K f.als)
 | .sl r a m,.sc (.int _ j)=>(∃es,ρ r=some (.arr n es))/\0<=j/\j<m/\K (.pt r (a+j.toNat) 0) []
 |_,_=>False
def Jl(off n:Nat)(ag:Bool)(x:AV):Prop:=x.isAgg=true/\opt (part x off n ag) (k1 K)
def aas(c:UInt8):Prop:=K (.sc (.int .u8 c.toNat)) []
def qu(x i:AV):Prop:=match x,i with
 | .sc (.string s),.sc (.int _ j)=>0<=j/\opt s[j.toNat]? (aas K)
 |_,_=>False
def Cb(x:AV)(j:Nat):Prop:=match x with
 | .tup vs=>opt vs[j]? (k1 K)
 |_=>False
def lm(ρ:Nat->Option Row)(x:AV):Prop:=match x with
 | .lst _ _ xs=>K (.i xs.length) []
 | .tg _ _ xs=>K (.i xs.length) []
 | .sl r _ n=>(∃w es,ρ r=some (.arr w es))/\K (.i n) []
 |_=>False
def rQ(x:AV):Prop:=match x with
 | .lst .u _ []=>K (.i 0) []
 |_=>False
def CO(n:Nat)(x hi:AV):Prop:=match x,hi with
 | .lst .u w [],.sc (.int _ h)=>w=n/\h=0/\K (.lst .u n []) []
 |_,_=>False
def ri(x:AV):Prop:=match x with
 | .sc (.string s)=>K (.i s.size) []
 |_=>False
def MB(ns:List Int):Prop:=K (.sc (.string (b2s ns))) []
def xO(o:Option Row)(i m:Nat):Prop:=match o with
 |some (.arr w es)=>w=1/\opt (u8s (sub es i m)) (MB K)
 |_=>False
def CC(ρ:Nat->Option Row)(x:AV):Prop:=match x with
 | .lst _ w xs=>w=1/\opt (u8s xs) (MB K)
 | .sl r i m=>xO K (ρ r) i m
 |_=>False
def yB(o:Option Row)(r n:Nat)(z:AV)(i m:Nat):Prop:=match o with
 |some (.arr w es)=>w=n/\z.width=n/\K (.tup []) [(r,.arr w (en es i (A0 m z)))]
 |_=>False
def Iu(ρ:Nat->Option Row)(n:Nat)(z x:AV):Prop:=match x with
 | .sl r i m=>yB K (ρ r) r n z i m
 |_=>False
def yw(o:Option Row)(r n i m:Nat)(ys:List AV):Prop:=match o with
 |some (.arr w es)=>w=n/\K (.i (min ys.length m:Nat)) [(r,.arr w (en es i (ys.take (min ys.length m))))]
 |_=>False
def GD(ρ:Nat->Option Row)(n:Nat)(x y:AV):Prop:=match x with
 | .sl r i m=>opt (et n ρ y) (yw K (ρ r) r n i m)
 |_=>False
def tw(neg e:Bool):Prop:=K (cond e .ub (.b neg)) []
def zk(ρ:Nat->Option Row)(neg:Bool)(x:AV):Prop:=match x with
 | .lst _ _ xs=>tw K neg xs.isEmpty
 | .tg _ _ xs=>tw K neg xs.isEmpty
 | .sl r _ n=>(∃w es,ρ r=some (.arr w es))/\tw K neg (n==0)
 |_=>False
def WP(o:Option Row)(r n i m:Nat)(ys:List AV):Prop:=match o with
 |some (.arr w es)=>w=n/\i+m+ys.length<=es.length/\K (.sl r i (m+ys.length)) [(r,.arr w (en es (i+m) ys))]
 |_=>False
def abs(ρ:Nat->Option Row)(n:Nat)(x y:AV):Prop:=match x with
 | .sl r i m=>opt (et n ρ y) (WP K (ρ r) r n i m)
 |_=>False
def Ag(o:Option Row)(r n i m:Nat)(lo hi:Option AV):Prop:=match o with
 |some (.arr w es)=>w=n/\bOk lo/\bOk hi/\bV lo 0<=bV hi m/\i+bV hi m<=es.length/\K (.sl r (i+bV lo 0) (bV hi m-bV lo 0)) []
 |_=>False
def Pk(ρ:Nat->Option Row)(n:Nat)(x:AV)(lo hi:Option AV):Prop:=match x with
 | .sl r i m=>Ag K (ρ r) r n i m lo hi
 |_=>False
def Dx(o:Option Row)(n m:Nat)(lo hi mx:AV):Prop:=match o,lo,hi,mx with
 |some (.arr w _),.sc (.int _ l),.sc (.int _ h),.sc (.int _ q)=>w=n/\0<=l/\l<=h/\h<=q/\q<=(m:Int)/\K .top []
 |_,_,_,_=>False
def aah(ρ:Nat->Option Row)(n:Nat)(x lo hi mx:AV):Prop:=match x with
 | .sl r _ m=>Dx K (ρ r) n m lo hi mx
 |_=>False
def sn(o:Option Row)(d n bytes r i m:Nat)(p:List AV×List (Nat×Row)):Prop:=match o with
 |some (.arr w es)=>w=n/\r∉p.2.map (·.1)/\(m+p.1.length)*bytes<=140737488355328/\K (.sl d 0 (m+p.1.length)) ((r,.dead)::p.2++[(d,.arr n (sub es i m++p.1))])
 |_=>False
def xw(d n bytes w:Nat)(es:List AV)(p:List AV×List (Nat×Row)):Prop:=
 w=n/\0<p.1.length/\(es.length+p.1.length)*bytes<=140737488355328/\K (.sl d 0 (es.length+p.1.length)) (p.2++[(d,.arr n (dW es++p.1))])
def wd(ρ:Nat->Option Row)(d n bytes:Nat)(mv:Bool)(x y:AV):Prop:=match x with
 | .sl r i m=>ρ d=none/\opt (nt ρ n mv y) (sn K (ρ r) d n bytes r i m)
 | .tg _ w es=>ρ d=none/\opt (nt ρ n mv y) (xw K d n bytes w es)
 |_=>False
def Ib(o:Option Row)(d n:Nat)(z:AV)(bytes:Nat)(x l:AV):Prop:=match x,l with
 | .lst .u w [],.sc (.int .i64 l)=>o=none/\w=n/\z.width=n/\n=1/\0<l/\l*bytes<=140737488355328/\K (.sl d 0 l.toNat) [(d,.arr n (A0 l.toNat z))]
 |_,_=>False
def tx(ρ:Nat->Option Row)(x:AV):Prop:=match x with
 | .bp f y o=>K (.bp f y o) []
 | .pt r i o=>cH (ρ r)/\K (.pt r i o) []
 |_=>False
def eMn(x y:AV):Prop:=match x,y with
 | .sc (.int k a),.sc (.int k' b)=>k=k'/\K (.sc (.int k (if b<a then b else a))) []
 |_,_=>False
def eMx(x y:AV):Prop:=match x,y with
 | .sc (.int k a),.sc (.int k' b)=>k=k'/\K (.sc (.int k (if a<b then b else a))) []
 |_,_=>False
end
structure Oks where
 p:Nat->List AV->AV->Prop
 m:Nat->List AV->List (Nat×Row)->AV->List (Nat×Row)->Prop
 h:Nat->List AV->List (Nat×Row)->AV->List (Nat×Row)->Prop
mutual
def AV.rg(h:Nat->Nat):AV->AV
 | .sl q i n=>.sl (h q) i n
 | .pt q i o=>.pt (h q) i o
 | .agg cs=>.agg (rgL h cs)
 | .fn f cs=>.fn f (rgL h cs)
 | .tup cs=>.tup (rgL h cs)
 |x=>x
def rgL(h:Nat->Nat):List AV->List AV
 |[]=>[]
 |c::cs=>c.rg h::rgL h cs
end
def Row.rg(h:Nat->Nat):Row->Row
 | .var x=>.var (x.rg h)
 |x=>x
def pos(r:Nat):List Nat->Nat
 |[]=>0
 |x::xs=>if x=r then 0 else pos r xs+1
def cnm(rs:List Nat)(r:Nat):Nat:=1000000000+pos r rs
def bkn(d:Nat)(rs:List Nat)(q:Nat):Nat:=if 1000000000<=q then rs.getD (q-1000000000) 0 else q+100000*(d+1)
def gQ(ρ:Nat->Option Row)(rs:List Nat)(r:Nat):Nat×Row:=(cnm rs r,((ρ r).getD .dead).rg (cnm rs))
def dA(d:Nat)(rs:List Nat)(p:Nat×Row):Nat×Row:=(bkn d rs p.1,p.2.rg (bkn d rs))
def lR:Option Row->List Nat
 |some (.var x)=>x.ments
 |_=>[]
section
variable(ok:Oks)
def callM(ρ:Nat->Option Row)(d f:Nat)(args:List AV)(rs:List Nat)(K:AV->List (Nat×Row)->Prop):Prop:=
 ∃ res outs, ok.m f (args.map (AV.rg (cnm rs))) (rs.map (gQ ρ rs)) res outs ∧
   (rs.Nodup/\(∀r∈rs,cH (ρ r))/\(∀r∈rs,∀q∈lR (ρ r),q∈rs)/\(∀r∈aP args,r∈rs))/\
   ((outs.map fun p => bkn d rs p.1).Nodup ∧ (∀ p ∈ outs, 1000000000 ≤ p.1 → p.1 - 1000000000 < rs.length) ∧
     (∀p∈outs,p.1<1000000000->ρ (bkn d rs p.1)=none/\bkn d rs p.1<1000000000))/\
   K (res.rg (bkn d rs)) (ck rs++outs.map (dA d rs))
def rJ(ρ:Nat->Option Row)(d:Nat)(x:AV)(xs:List AV)(rs:List Nat)(K:AV->List (Nat×Row)->Prop):Prop:=match x with
 | .fn f cs=>callM ok ρ d f (xs++cs) rs K
 |_=>False
def gE(ρ:Nat->Option Row)(d f:Nat)(args:List AV)(K:AV->List (Nat×Row)->Prop):Prop:=
 ∃ res, ok.p f (args.map (snp ρ 4)) res ∧ (res.allU ∨ aP args = [] ∧ (res.ou ∨ res.noU)) ∧ (∀ p ∈ (adopt 4 d res).2.1, ρ p.1 = none ∧ p.1 < 1000000000) ∧
   K (adopt 4 d res).1 (adopt 4 d res).2.1
def yz(ρ:Nat->Option Row)(d:Nat)(x:AV)(xs:List AV)(K:AV->List (Nat×Row)->Prop):Prop:=match x with
 | .fn f cs=>gE ok ρ d f (xs++cs) K
 |_=>False
def eff(g:X->AV)(ρ:Nat->Option Row)(d:Nat):AOp->(AV->List (Nat×Row)->Prop)->Prop
 | .mv x,K=>K (g x) []
 | .pick c a b,K=>lH K (g c) (g a) (g b)
 | .alloc z,K=>ρ d=none/\K (.pt d 0 0) [(d,.var z)]
 | .box n x,K=>ρ d=none/\(g x).width=n/\K (.pt d 0 0) [(d,.var (g x))]
 | .build z ps,K=>(∀p∈ps,(g p.2.2).width=p.2.1/\p.1+p.2.1<=z.length)/\K (.agg (lK z (ps.map fun p=>(p.1,g p.2.2)))) []
 | .bsl n fr ps,K=>(fr=true->aP (ps.map g)=[])/\ρ d=none/\(∀p∈ps,(g p).width=n)/\(aP (ps.map g)).Nodup/\
  K (.sl d 0 ps.length) (ck (aP (ps.map g))++[(d,.arr n ((ps.map g).map (lift ρ 2)))])
 | .load n ag x,K=>eM K ρ n ag (g x)
 | .store n x v,K=>dX K ρ n (g x) (g v)
 | .bin op x y,K=>dG op (g x) (g y) (k1 K)
 | .beq neg x y,K=>zY K neg (g x) (g y)
 | .un op x,K=>unV op (g x) (k1 K)
 | .conv k x,K=>sD K k (g x)
 | .mkf f cs,K=>K (.fn f (cs.map g)) []
 | .mks n z bytes l c,K=>tu K (ρ d) d n z bytes (g l) (g c)
 | .slc n x lo hi mx,K=>sv K ρ n (g x) (lo.map g) (hi.map g) (mx.map g)
 | .slz x lo hi,K=>UN K (g x) (lo.map g) (hi.map g)
 | .fad off x,K=>mj K ρ off (g x)
 | .idx n x i,K=>kH K ρ n (g x) (g i)
 | .idv av n x i,K=>iPt av (g x)/\kH K ρ n (g x) (g i)
 | .lnv av x,K=>iPt av (g x)/\lm K ρ (g x)
 | .stw r n x v,K=>wPt r ρ (g x)/\dX K ρ n (g x) (g v)
 | .fld off n ag x,K=>Jl K off n ag (g x)
 | .stri x i,K=>qu K (g x) (g i)
 | .ext x j,K=>Cb K (g x) j
 | .call f xs,K=>gE ok ρ d f (xs.map g) K
 | .dyn x xs,K=>yz ok ρ d (g x) (xs.map g) K
 | .callM f xs rs,K=>callM ok ρ d f (xs.map g) rs K
 | .dynM x xs rs,K=>rJ ok ρ d (g x) (xs.map g) rs K
 | .len x,K=>lm K ρ (g x)
 | .lenz x,K=>ri K (g x)
 | .capn x,K=>rQ K (g x)
 | .slg n x hi,K=>CO K n (g x) (g hi)
 | .apz n z bytes x l,K=>Ib K (ρ d) d n z bytes (g x) (g l)
 | .b2s x,K=>CC K ρ (g x)
 | .isn neg x,K=>zk K ρ neg (g x)
 | .aeq neg x y,K=>yk K neg (g x) (g y)
 | .apq n x y,K=>abs K ρ n (g x) (g y)
 | .slx n x lo hi,K=>Pk K ρ n (g x) (lo.map g) (hi.map g)
 | .slm n x lo hi mx,K=>aah K ρ n (g x) (g lo) (g hi) (g mx)
 | .clr n z x,K=>Iu K ρ n z (g x)
 | .cpy n x y,K=>GD K ρ n (g x) (g y)
 | .ldv av n ag x,K=>vPt av ρ (g x)/\eM K ρ n ag (g x)
 | .lde av n ag x,K=>lPt av (g x)/\eM K ρ n ag (g x)
 | .str n x v,K=>aPt ρ (g x)/\(g v).ments=[]/\dX K ρ n (g x) (g v)
 | .lda n ag x,K=>aPb ρ (g x)/\eM K ρ n ag (g x)
 | .stv n x v,K=>vPv ρ (g x)/\dX K ρ n (g x) (g v)
 | .fdv av off x,K=>vPt av ρ (g x)/\mj K ρ off (g x)
 | .bsm n ps,K=>(∀r∈aP (ps.map g),AN (ρ r))/\ρ d=none/\(∀p∈ps,(g p).width=n)/\(aP (ps.map g)).Nodup/\
  K (.sl d 0 ps.length) (ck (aP (ps.map g))++[(d,.arr n ((ps.map g).map (lift ρ 2)))])
 | .app n bytes mv x y,K=>wd K ρ d n bytes mv (g x) (g y)
 | .nilc x,K=>tx K ρ (g x)
 | .mn x y,K=>eMn K (g x) (g y)
 | .mx x y,K=>eMx K (g x) (g y)
 | .bad,_=>False
def fB(σ:St)(s:Nat)(w:Bool)(x:AV)(A B:St->Prop):Prop:=match x with
 | .sc (.bool t)=>(t=w->A (σ.know s w))/\(t=!w->B (σ.know s (!w)))
 | .tup []=>B σ
 |_=>False
def VP(d:Option Nat)(R:St->Prop)(σ:St)(v:AV)(u:List (Nat×Row)):Prop:=R (σ.app d v u)
def Bh(d:Option Nat)(o:AOp)(R:St->Prop)(σ:St):Prop:=eff ok σ.gx σ.row (d.getD 0) o (VP d R σ)
def Ox(d:Option Nat)(R:St->Prop)(σ:St):Prop:=R (σ.app d (.tup []) [])
def abm(o:bn)(σ:St)(R:St->Prop):Prop:=
 match o.gd with
 |none=>Bh ok o.d o.op R σ
 |some (s,w)=>fB σ s w (σ.get s) (Bh ok o.d o.op R) (Ox o.d R)
def dS:List bn->(St->Prop)->St->Prop
 |[],K,σ=>K σ
 |o::os,K,σ=>abm ok o σ (dS os K)
mutual
def AV.fz:AV->Bool
 | .sc _=>true
 | .lst f _ xs=>(match f with| .o=>fzL xs|_=>false)
 | .agg cs=>fzL cs
 | .tup cs=>fzL cs
 | .fn _ cs=>fzL cs
 | .bp f x _=>(match f with| .o=>x.fz|_=>false)
 | .sl _ _ _=>true
 | .pt _ _ _=>true
 | .top=>true
 | .ub=>true
 |_=>false
def fzL:List AV->Bool
 |[]=>true
 |c::cs=>c.fz&&fzL cs
end
mutual
def AV.ouB:AV->Bool
 | .sc _=>true
 | .lst f _ xs=>(match f with| .o=>fzL xs| .u=>gj xs|_=>false)
 | .agg cs=>gj cs
 | .top=>true
 |_=>false
def gj:List AV->Bool
 |[]=>true
 |c::cs=>c.ouB&&gj cs
end
def Row.fz:Row->Bool
 | .var x=>x.fz
 | .arr _ es=>gj es
 | .dead=>true
def St.fz(σ:St):Bool:=σ.env.all (fun p=>p.2.fz)&&σ.rows.all (fun p=>p.2.fz)
def sF:List (Nat×X)->St->St
 |[],σ=>σ
 |(d,x)::ms,σ=>sF ms (σ.app (some d) (σ.gx x) [])
def sV(τ:St)(t len:Nat):X->AV
 | .t j=>if j=t then .sl 1000000000 0 len else τ.get j
 | .c a=>a
def vB(τ:St)(t:Nat):X->Prop
 | .t j=>j=t\/(τ.get j).ments=[]
 | .c a=>a.ments=[]
def adx(K:St->Prop)(τ:St)(t n k d f:Nat)(xs:List X)(r i off:Nat)(es:List AV)(y:AV)(ys:List AV):Prop:=
 ys.all AV.flat=true/\τ.fz=true/\(∀x∈xs,vB τ t x)/\
 ∃ v ys', ok.m f (xs.map (sV τ t ys.length)) [(1000000000, .arr k ys)] (.sc v) [(1000000000, .arr k ys')] ∧ ys'.all AV.flat = true ∧
   opt (setPart y off (.lst .u k ys')) fun z=>K (τ.app (some d) (.sc v) [(r,.arr n (es.set i z))])
def MM(K:St->Prop)(τ:St)(t n k d f:Nat)(xs:List X)(r i off:Nat)(es:List AV)(y:AV):AV->Prop
 | .lst .u w ys=>w=k/\adx ok K τ t n k d f xs r i off es y ys
 |_=>False
def Pe(K:St->Prop)(τ:St)(t n k d f:Nat)(xs:List X)(r i off:Nat):Option Row->Prop
 |some (.arr w es)=>w=n/\opt es[i]? fun y=>opt (part y off 1 false) (MM ok K τ t n k d f xs r i off es y)
 |_=>False
def Pf(K:St->Prop)(σ τ:St)(t n k d f:Nat)(xs:List X):AV->Prop
 | .pt r i off=>Pe ok K τ t n k d f xs r i off (σ.row r)
 |_=>False
def ade(d:Nat)(K:St->Prop)(σ:St)(v:AV)(u:List (Nat×Row)):Prop:=K (σ.app (some d) v u)
def stH(h:HOp)(K:St->Prop)(σ:St):Prop:=match h with
 | .inn t n k x mids d f xs=>Pf ok K σ (sF mids (σ.app (some t) .top [])) t n k d f xs (σ.gx x)
 | .har d f xs rs=>σ.fz=true/\callM ⟨ok.p,ok.h,ok.h⟩ σ.row d f (xs.map σ.gx) rs (ade d K σ)
def AV.hush(r:Nat)(a:AV):AV:=if r∈a.ments then .top else a
mutual
def AV.ren(r d:Nat):AV->AV
 | .sl q i n=>.sl (if q=r then d else q) i n
 | .pt q i o=>.pt (if q=r then d else q) i o
 | .agg cs=>.agg (jP r d cs)
 | .fn f cs=>.fn f (jP r d cs)
 | .tup cs=>.tup (jP r d cs)
 |x=>x
def jP(r d:Nat):List AV->List AV
 |[]=>[]
 |c::cs=>c.ren r d::jP r d cs
end
def Row.map(h:AV->AV):Row->Row
 | .var x=>.var (h x)
 |x=>x
def Row.hush(r:Nat):Row->Row
 | .var x=>if r∈x.ments then .dead else .var x
 |x=>x
def del{α:Type}(k:Nat):List (Nat×α)->List (Nat×α)
 |[]=>[]
 |(j,x)::l=>if j=k then del k l else(j,x)::del k l
def St.canSl (σ : St) (d r i n : Nat) : St :=
    if r=d\/1000000000<=r then σ
    else
     { env:=put d (.sl d i n) ((σ.env.map fun p=>(p.1,p.2.hush d)).map fun p=>(p.1,p.2.ren r d)),
       rows:=((del d σ.rows).map fun p=>(p.1,p.2.hush d)).map fun p=>(if p.1=r then d else p.1,p.2.map (·.ren r d))}
def St.canSr (σ : St) (d r i n : Nat) : St :=
    if r=d then σ
    else
     { env:=put d (.sl d i n) ((σ.env.map fun p=>(p.1,p.2.hush d)).map fun p=>(p.1,p.2.ren r d)),
       rows:=((del d σ.rows).map fun p=>(p.1,p.2.hush d)).map fun p=>(if p.1=r then d else p.1,p.2.map (·.ren r d))}
def St.canNil (σ : St) (d n : Nat) : St :=
    { env:=put d (.sl d 0 0) (σ.env.map fun p=>(p.1,p.2.hush d)),
      rows:=put d (.arr n []) ((del d σ.rows).map fun p=>(p.1,p.2.hush d))}
def St.canV(σ:St)(d:Nat)(x:AV):St:=match x with
 | .sl r i n=>σ.canSl d r i n
 | .lst .u n []=>σ.canNil d n
 |_=>σ
def St.canW(σ:St)(d:Nat)(x:AV):St:=match x with
 | .sl r i n=>σ.canSr d r i n
 | .lst .u n []=>σ.canNil d n
 |_=>σ
def St.canZr(σ:St)(d i m:Nat)(r:Nat):Option Row->St
 |some (.arr q es)=>⟨put d (.lst .m q (dW (sub es i m))) σ.env,put r .dead σ.rows⟩
 |_=>σ
def gR:List AV->Nat->AV->List AV
 |[],_,_=>[]
 |_::xs,0,y=>y::xs
 |x::xs,j+1,y=>x::gR xs j y
def St.canZcr(σ:St)(d:Nat)(all:List AV)(j r i m:Nat):Option Row->St
 |some (.arr q es)=>⟨put d (.agg (gR all j (.lst .m q (dW (sub es i m))))) σ.env,put r .dead σ.rows⟩
 |_=>σ
def St.canZc(σ:St)(d:Nat)(all:List AV):Nat->List AV->St
 |_,[]=>σ
 |j,.sl r i m::_=>σ.canZcr d all j r i m (aC r σ.rows)
 |j,_::cs=>σ.canZc d all (j+1) cs
def St.canZ(σ:St)(d:Nat)(x:AV):St:=match x with
 | .sl r i m=>σ.canZr d i m r (aC r σ.rows)
 | .agg cs=>σ.canZc d cs 0 cs
 |_=>σ
def tt:List AV->Nat->AV
 |[],_=>.top
 |x::_,0=>x
 |_::xs,j+1=>tt xs j
def gU(j:Nat):Option Row->AV
 |some (.var (.agg cs))=>tt cs j
 |some (.var (.sl q i m))=>if j=0 then .sl q i m else .top
 |some (.var (.lst f m xs))=>if j=0 then .lst f m xs else .top
 |_=>.top
def St.canFN(σ:St)(d r j m:Nat):Option Row->St
 |some (.var (.agg cs))=>⟨σ.env.map fun p=>(p.1,p.2.hush d),put d (.arr m []) (put r (.var (.agg (gR cs j (.sl d 0 0)))) ((del d σ.rows).map fun p=>(p.1,p.2.hush d)))⟩
 |some (.var (.lst .u _ []))=>⟨σ.env.map fun p=>(p.1,p.2.hush d),put d (.arr m []) (put r (.var (.sl d 0 0)) ((del d σ.rows).map fun p=>(p.1,p.2.hush d)))⟩
 |_=>σ
def St.canG(σ:St)(far:Bool)(d r j:Nat):AV->St
 | .sl q _ _=>if q=d\/far=false/\1000000000<=q then σ else
  ⟨(σ.env.map fun p=>(p.1,p.2.hush d)).map fun p=>(p.1,p.2.ren q d),((del d σ.rows).map fun p=>(p.1,p.2.hush d)).map fun p=>(if p.1=q then d else p.1,p.2.map (·.ren q d))⟩
 | .lst .u m []=>σ.canFN d r j m (aC r ((del d σ.rows).map fun p=>(p.1,p.2.hush d)))
 |_=>σ
def St.canEN(σ:St)(d k j m:Nat):Option AV->St
 |some (.agg cs)=>⟨put k (.agg (gR cs j (.sl d 0 0))) (σ.env.map fun p=>(p.1,p.2.hush d)),put d (.arr m []) ((del d σ.rows).map fun p=>(p.1,p.2.hush d))⟩
 |_=>σ
def St.canE(σ:St)(far:Bool)(d k j:Nat):AV->St
 | .sl q _ _=>if q=d\/far=false/\1000000000<=q then σ else
  ⟨(σ.env.map fun p=>(p.1,p.2.hush d)).map fun p=>(p.1,p.2.ren q d),((del d σ.rows).map fun p=>(p.1,p.2.hush d)).map fun p=>(if p.1=q then d else p.1,p.2.map (·.ren q d))⟩
 | .lst .u m []=>σ.canEN d k j m (aC k (σ.env.map fun p=>(p.1,p.2.hush d)))
 |_=>σ
def St.canXcr(σ:St)(r:Nat)(all:List AV)(j q i m:Nat):Option Row->St
 |some (.arr k es)=>⟨σ.env,put r (.var (.agg (gR all j (.lst .m k (dW (sub es i m)))))) (put q .dead σ.rows)⟩
 |_=>σ
def St.canXc(σ:St)(r:Nat)(all:List AV):Nat->List AV->St
 |_,[]=>σ
 |j,.sl q i m::_=>σ.canXcr r all j q i m (aC q σ.rows)
 |j,.lst .u n []::_=>⟨σ.env,put r (.var (.agg (gR all j (.lst .m n [])))) σ.rows⟩
 |j,_::cs=>σ.canXc r all (j+1) cs
def St.canX(σ:St)(r:Nat):Option Row->St
 |some (.arr n es)=>⟨σ.env,put r (.arr n (dW es)) σ.rows⟩
 |some (.var (.agg cs))=>σ.canXc r cs 0 cs
 |_=>σ
def St.can1(σ:St):Can->St
 | .s d=>σ.canV d (σ.get d)
 | .f far d r j=>σ.canG far d r j (gU j (aC r σ.rows))
 | .r d=>σ.canW d (σ.get d)
 | .z d=>σ.canZ d (σ.get d)
 | .e far d k j=>σ.canE far d k j (gU j (some (.var (σ.get k))))
 | .w r=>σ.canX r (aC r σ.rows)
def St.can(σ:St):List Can->St
 |[]=>σ
 |d::ds=>(σ.can1 d).can ds
def Can.low(n:Nat):Can->Bool
 | .s d=>decide (d<n)
 | .f _ d _ _=>decide (d<1000000000)&&decide (n<=d)
 | .r d=>decide (d<n)
 | .z d=>decide (d<n)
 | .e _ d k _=>decide (d<1000000000)&&decide (n<=d)&&decide (k<n)
 | .w _=>true
def St.res(σ:St)(lv lr:List Nat):St:=
 {env:=lv.map fun k=>(k,σ.get k),rows:=lr.map fun r=>(r,(σ.row r).getD .dead)}
def Row.ments:Row->List Nat
 | .var x=>x.ments
 |_=>[]
def St.resOk(σ:St)(lv lr:List Nat):Prop:=
 (∀k∈lv,∀r∈(σ.get k).ments,r∈lr)/\(∀q∈lr,∀r∈((σ.row q).getD .dead).ments,r∈lr)/\lr.Nodup
inductive Ex where
 |nrm
 |ex (id:Nat)
 |ret
def thn(K:St->Prop)(Q:Ex->St->Prop):Ex->St->Prop
 | .nrm,σ=>K σ
 |e,σ=>Q e σ
def inb(id:Nat)(Q:Ex->St->Prop):Ex->St->Prop
 | .ex j,σ=>if j=id then Q .nrm σ else Q (.ex j) σ
 |e,σ=>Q e σ
def tst(x:AV)(A B:Prop):Prop:=match x with
 | .sc (.bool t)=>(t=true->A)/\(t=false->B)
 | .ub=>A/\B
 |_=>False
def BG(Q:Ex->St->Prop)(can:List Can)(σ:St):Prop:=Q .nrm (σ.can can)
def St.rb(σ:St)(lv:List Nat):St:=⟨lv.map fun k=>(k,snp σ.row 4 (σ.get k)),[]⟩
def AV.scal:AV->AV
 | .sc v=>.sc v
 |_=>.top
def St.scal(σ:St):St:=⟨σ.env.map fun p=>(p.1,p.2.scal),[]⟩
def rbQ(Q:Ex->St->Prop)(e:Ex)(τ:St):Prop:=Q e τ.scal
def AWP:ar->(Ex->St->Prop)->St->Prop
 | .skip,Q,σ=>Q .nrm σ
 | .reg ops can,Q,σ=>dS ok ops (BG Q can) σ
 | .drw ops can,Q,σ=>dS ok ops (BG Q can) σ
 | .regh pre h post can,Q,σ=>dS ok pre (stH ok h (dS ok post (BG Q can))) σ
 | .seq a b,Q,σ=>AWP a (thn (AWP b Q) Q) σ
 | .seqr a lv lr b,Q,σ=>AWP a (thn (fun τ=>τ.resOk lv lr/\AWP b Q (τ.res lv lr)) Q) σ
 | .seqa x a lv lr b,Q,σ=>AWP x (thn (AWP a (thn (fun τ=>τ.resOk lv lr/\AWP b Q (τ.res lv lr)) Q)) Q) σ
 | .seqb a lv b,Q,σ=>AWP a (thn (fun τ=>AWP b (rbQ Q) (τ.rb lv)) Q) σ
 | .cond x a b,Q,σ=>tst (σ.gx x) (AWP a Q σ) (AWP b Q σ)
 | .blk id a,Q,σ=>AWP a (inb id Q) σ
 | .loop a,Q,σ=>∃(lv lr:List Nat)(I:St->Prop)(μ:St->Nat),σ.resOk lv lr/\I (σ.res lv lr)/\
  ∀τ,I τ->AWP a (thn (fun τ'=>τ'.resOk lv lr/\I (τ'.res lv lr)/\μ (τ'.res lv lr)<μ τ) Q) τ
 | .exit id,Q,σ=>Q (.ex id) σ
 | .ret,Q,σ=>Q .ret σ
inductive RV where
 |t (n:Nat)
 |c (n k:Nat) (ag:Bool)
def RV.val(σ:St):RV->Option AV
 | .t n=>some (σ.get n)
 | .c n k ag => match σ.get n with
   | .pt r 0 0 => match σ.row r with
     |some (.var y)=>part y 0 k ag
     |_=>none
   |_=>none
def RVs.val(σ:St):List RV->Option (List AV)
 |[]=>some []
 | r :: rs => match r.val σ, RVs.val σ rs with
   |some x,some xs=>some (x::xs)
   |_,_=>none
def hJ:List AV->AV
 |[x]=>x
 |xs=>.tup xs
def fin(rs:List RV)(res:AV):Ex->St->Prop
 | .nrm,σ| .ret,σ=>∃xs,RVs.val σ rs=some xs/\(aP xs).Nodup/\lift σ.row 3 (hJ xs)=res
 |_,_=>False
def St.start(args:List AV):St:={env:=go 0 args,rows:=[]}
where go:Nat->List AV->List (Nat×AV)
 |_,[]=>[]
 |n,a::as=>(n,a)::go (n+1) as
def VT(a:ar)(rs:List RV)(args:List AV)(res:AV):Prop:=AWP ok a (fin rs res) (St.start args)
end
end Vs

namespace Vs
open Go
variable(n d:Nat)(K:AV->List (Nat×Row)->Prop)(ρ:Nat->Option Row)(r:Nat)(σ:St)(ok:Oks)(i:Nat)(xs cs:List AV)(g:X->AV)(k:Nat)(x:X)(f:Fl)(off j m:Nat)(es:List AV)(w:Nat)(y:AV)(rows:List (Nat×Row))(a b:Int)(Q:Ex->St->Prop)(env:List (Nat×AV))(v:Value)(h:Nat->Nat)(ag:Bool)(q:Nat)(all:List AV)(far:Bool)(av:List Nat)(c:Nat)(rs:List Nat)(bytes:Nat)(p:Prop)(z:AV)(u:List (Nat×Row))(t:Nat)(neg:Bool)(ys:List AV)(s:Nat)(lv:List Nat)(lo hi:Option AV)(ds:List Can)(A B:St->Prop)(can:List Can)(lr:List Nat)(o:Nat)(mv:Bool)(res:AV)
theorem jg:iP xs=xs.map AV.nrm:=by
 induction xs with
 |nil=>simp[iP]
 |cons x xs ih=>simp[iP,ih]
theorem jk:dW xs=xs.map AV.als:=by
 induction xs with
 |nil=>simp[dW]
 |cons x xs ih=>simp[dW,ih]
theorem gt:gJ xs=xs.map AV.fix:=by
 induction xs with
 |nil=>simp[gJ]
 |cons x xs ih=>simp[gJ,ih]
theorem mE:jP r d xs=xs.map (AV.ren r d):=by
 induction xs with
 |nil=>simp[jP]
 |cons x xs ih=>simp[jP,ih]
theorem tW:kw xs↔∀x∈xs,x.allU:=by
 induction xs with
 |nil=>simp[kw]
 |cons x xs ih=>simp[kw,ih]
def aco:snp ρ (k+1) (.sc v)=.sc v:=by simp[snp,AV.nrm]
def Sj:snp ρ (k+1) (.lst f n xs)=.lst .o n (xs.map AV.nrm):=by simp[snp,AV.nrm,jg]
def aef:snp ρ (k+1) (.tg f n xs)=.lst .o n (xs.map AV.nrm):=by simp[snp,AV.nrm,jg]
def Sn:snp ρ (k+1) (.agg cs)=.agg (cs.map (snp ρ k)):=by simp[snp]
def aaa(f:Nat):snp ρ (k+1) (.fn f cs)=.fn f (cs.map (snp ρ k)):=by simp[snp]
def acf(x:AV):snp ρ (k+1) (.bp f x off)=.bp .o x.nrm off:=by simp[snp,AV.nrm]
def aay:snp ρ (k+1) (.sl r i n)=oO (ρ r) i n:=by simp only[snp]
def Gt:oO (some (.arr w es)) i n=.lst .o w ((sub es i n).map AV.nrm):=by simp[oO,jg]
def adb:snp ρ (k+1) (.pt r i off)=mR (snp ρ k) (ρ r) i off:=by simp only[snp]
def GP(h:AV->AV):mR h (some (.var y)) 0 off=.bp .o (h y) off:=by simp[mR]
def Sl:lift ρ (k+1) (.sc v)=.sc v:=by simp[lift]
def Kq:lift ρ (k+1) (.lst f n xs)=.lst f n xs:=by simp[lift]
def Re:lift ρ (k+1) (.agg cs)=.agg (cs.map (lift ρ k)):=by simp[lift]
def Pn:lift ρ (k+1) (.tup cs)=.tup (cs.map (lift ρ k)):=by simp[lift]
def UY:lift ρ (k+1) (.sl r i n)=mp (ρ r) i n:=by simp only[lift]
def BF:mp (some (.arr w es)) i n=.lst .u w (sub es i n):=rfl
theorem mL:adopt (k+1) c (.sc v)=(.sc v,[],c):=by simp[adopt,AV.fix]
def EB:adopt (k+1) c (.lst .u n es)=(.sl c 0 es.length,[(c,.arr n (es.map AV.fix))],c+1000):=by simp[adopt,gt]
def DP:adopt (k+1) c (.lst .o n es)=(.lst .s n (es.map AV.fix),[],c):=by simp[adopt,AV.fix,gt,Fl.fix]
def Em:adopt (k+1) c (.lst .m n es)=(.lst .m n (es.map AV.fix),[],c):=by simp[adopt,AV.fix,gt,Fl.fix]
def Fp:adopt (k+1) c (.lst .s n es)=(.lst .s n (es.map AV.fix),[],c):=by simp[adopt,AV.fix,gt,Fl.fix]
def ua:adopt (k+1) c (.tup xs)=(.tup (adopt.go k c xs).1,(adopt.go k c xs).2.1,(adopt.go k c xs).2.2):=by simp[adopt]
def ug:adopt (k+1) c (.agg xs)=(.agg (adopt.go k c xs).1,(adopt.go k c xs).2.1,(adopt.go k c xs).2.2):=by simp[adopt]
def ud:adopt.go k c []=([],[],c):=by simp[adopt.go]
def sk(x:AV):adopt.go k c (x::xs)=
 ((adopt k c x).1::(adopt.go k (adopt k c x).2.2 xs).1,(adopt k c x).2.1++(adopt.go k (adopt k c x).2.2 xs).2.1,(adopt.go k (adopt k c x).2.2 xs).2.2):=by simp[adopt.go]
theorem cM:(AV.sc v).nrm=.sc v:=by simp[AV.nrm]
theorem fu:(AV.lst f n xs).nrm=.lst .o n (xs.map AV.nrm):=by simp[AV.nrm,jg]
theorem fw:(AV.agg cs).nrm=.agg (cs.map AV.nrm):=by simp[AV.nrm,jg]
def aaf(x:AV):(AV.bp f x off).nrm=.bp .o x.nrm off:=by simp[AV.nrm]
theorem eb:(AV.sc v).als=.sc v:=by simp[AV.als]
theorem fj:(AV.lst f n xs).als=.lst f.als n (xs.map AV.als):=by simp[AV.als,jk]
theorem fl:(AV.agg cs).als=.agg (cs.map AV.als):=by simp[AV.als,jk]
theorem eJ:(AV.sc v).fix=.sc v:=by simp[AV.fix]
theorem eV:(AV.lst f n xs).fix=.lst f.fix n (xs.map AV.fix):=by simp[AV.fix,gt]
theorem eW:(AV.agg cs).fix=.agg (cs.map AV.fix):=by simp[AV.fix,gt]
theorem fK(xs:List Int):(xs.map AV.i).map AV.nrm=xs.map AV.i:=by simp[cM]
theorem fJ(xs:List Int):(xs.map AV.i).map AV.als=xs.map AV.i:=by simp[eb]
theorem eX(xs:List Int):(xs.map AV.i).map AV.fix=xs.map AV.i:=by simp[eJ]
def HP(xs:List Bool):(xs.map AV.b).map AV.nrm=xs.map AV.b:=by simp[cM]
def GA(xs:List Bool):(xs.map AV.b).map AV.als=xs.map AV.b:=by simp[eb]
def uG(xs:List Bool):(xs.map AV.b).map AV.fix=xs.map AV.b:=by simp[eJ]
theorem ol(xs:List ByteArray):(xs.map AV.z).map AV.nrm=xs.map AV.z:=by simp[cM]
theorem nS(xs:List ByteArray):(xs.map AV.z).map AV.als=xs.map AV.z:=by simp[eb]
theorem kN(xs:List ByteArray):(xs.map AV.z).map AV.fix=xs.map AV.z:=by simp[eJ]
def AQ(xs:List Int):(xs.map AV.u8).map AV.nrm=xs.map AV.u8:=by simp[cM]
def Ij:AV.als∘AV.i=AV.i:=by funext x;simp[eb]
def Hd:AV.als∘AV.b=AV.b:=by funext x;simp[eb]
def FO:AV.als∘AV.z=AV.z:=by funext x;simp[eb]
def CE(xs:List Int):(xs.map AV.u8).map AV.als=xs.map AV.u8:=by simp[eb]
def qV(xs:List Int):(xs.map AV.u8).map AV.fix=xs.map AV.u8:=by simp[eJ]
def So{α:Type}(a:α):(some a).isSome=true:=rfl
def c_eq{α:Type}(a:α):(a=a)=True:=eq_self a
def afd:(True/\p)=p:=true_and p
def acl:(p/\True)=p:=and_true p
def Vv:(∃es,some (Row.arr n xs)=some (Row.arr n es))=True:=by simp
def Ro:(∃w es,some (Row.arr n xs)=some (Row.arr w es))=True:=by simp
def adg:(False->p)=True:=by simp
def YC:(True->p)=p:=by simp
def TK{α:Type}(q:α->Prop):(∀p∈([]:List α),q p)=True:=by simp
def WK{α:Type}(x:α)(l:List α)(q:α->Prop):(∀p∈x::l,q p)=(q x/\∀p∈l,q p):=by simp
def Pd:sub [] 0 0=[]:=rfl
def LH:0+n=n:=Nat.zero_add n
def Kj:n+0=n:=Nat.add_zero n
def ady:n-0=n:=Nat.sub_zero n
def abz:(d∈([]:List Nat))=False:=by simp
def aai(x:Nat)(l:List Nat):(d∈x::l)=(d=x\/d∈l):=by simp
def afx:(p\/False)=p:=or_false p
def afj:(False\/p)=p:=false_or p
def afu:(p\/True)=True:=or_true p
def afw:(True\/p)=True:=true_or p
def YP:(¬False)=True:=not_false_eq_true
def acm:(¬True)=False:=not_true_eq_false
def aet:(n<=n)=True:=by simp
def agn:(0<=n)=True:=by simp
def Wd{α:Type}(f:α->AV)(l:List α):sub (l.map f) 0 l.length=l.map f:=by simp[sub]
theorem mt:rgL h xs=xs.map (AV.rg h):=by
 induction xs with
 |nil=>simp[rgL]
 |cons x xs ih=>simp[rgL,ih]
def XK:(AV.sc v).rg h=.sc v:=by simp[AV.rg]
def PQ:(AV.lst f n xs).rg h=.lst f n xs:=by simp[AV.rg]
def XV:(AV.tg f n xs).rg h=.tg f n xs:=by simp[AV.rg]
def XD(x:AV):(AV.bp f x off).rg h=.bp f x off:=by simp[AV.rg]
def Ql:AV.top.rg h=.top:=by simp[AV.rg]
def RB:(AV.agg cs).rg h=.agg (cs.map (AV.rg h)):=by simp[AV.rg,mt]
def Ye(f:Nat):(AV.fn f cs).rg h=.fn f (cs.map (AV.rg h)):=by simp[AV.rg,mt]
def Kh:(AV.tup cs).rg h=.tup (cs.map (AV.rg h)):=by simp[AV.rg,mt]
def XL:(AV.sl q i n).rg h=.sl (h q) i n:=by simp[AV.rg]
def Yq:(AV.pt q i n).rg h=.pt (h q) i n:=by simp[AV.rg]
def EC(x:AV):(Row.var x).rg h=.var (x.rg h):=rfl
def DK:(Row.arr n xs).rg h=.arr n xs:=rfl
def zD:Row.dead.rg h=.dead:=rfl
def zK(x:Nat)(xs:List Nat):pos r (x::xs)=if x=r then 0 else pos r xs+1:=rfl
def Lv:cnm rs r=1000000000+pos r rs:=rfl
def Pm:bkn d rs q=if 1000000000<=q then rs.getD (q-1000000000) 0 else q+100000*(d+1):=rfl
def NV:gQ ρ rs r=(cnm rs r,((ρ r).getD .dead).rg (cnm rs)):=rfl
def xu(p:Nat×Row):dA d rs p=(bkn d rs p.1,p.2.rg (bkn d rs)):=rfl
def BL(x:AV):lR (some (.var x))=x.ments:=rfl
def AY:lR (some (.arr n xs))=[]:=rfl
def EG(x y:Nat)(l:List Nat):(x::l).getD 0 y=x:=rfl
def DS(x y:Nat)(l:List Nat):(x::l).getD (n+1) y=l.getD n y:=by simp
def aac:(AV.sc v).ren r d=.sc v:=by simp[AV.ren]
def Xe:(AV.lst f n xs).ren r d=.lst f n xs:=by simp[AV.ren]
def YD:(AV.tg f n xs).ren r d=.tg f n xs:=by simp[AV.ren]
def Zj(x:AV):(AV.bp f x off).ren r d=.bp f x off:=by simp[AV.ren]
def Tf:AV.top.ren r d=.top:=by simp[AV.ren]
def Up:(AV.agg cs).ren r d=.agg (cs.map (AV.ren r d)):=by simp[AV.ren,mE]
def YY(f:Nat):(AV.fn f cs).ren r d=.fn f (cs.map (AV.ren r d)):=by simp[AV.ren,mE]
def Wx:(AV.tup cs).ren r d=.tup (cs.map (AV.ren r d)):=by simp[AV.ren,mE]
def Zu:(AV.sl q i n).ren r d=.sl (if q=r then d else q) i n:=by simp[AV.ren]
def acn:(AV.pt q i n).ren r d=.pt (if q=r then d else q) i n:=by simp[AV.ren]
def Qk:AWP ok .skip Q σ=Q .nrm σ:=by simp only[AWP]
def Uy(ops:List bn):AWP ok (.reg ops can) Q σ=dS ok ops (BG Q can) σ:=by simp only[AWP]
def Uq(ops:List bn):AWP ok (.drw ops can) Q σ=dS ok ops (BG Q can) σ:=by simp only[AWP]
def Mf(pre:List bn)(h:HOp)(post:List bn):AWP ok (.regh pre h post can) Q σ=dS ok pre (stH ok h (dS ok post (BG Q can))) σ:=by simp only[AWP]
def WB(a b:ar):AWP ok (.seq a b) Q σ=AWP ok a (thn (AWP ok b Q) Q) σ:=by simp only[AWP]
def vD(ok:Oks)(v:AV)(a b:ar)(Q:Ex->St->Prop)(σ:St):Prop:=tst v (AWP ok a Q σ) (AWP ok b Q σ)
def RH(a b:ar):AWP ok (.cond x a b) Q σ=vD ok (σ.gx x) a b Q σ:=by simp only[AWP,vD]
def ada(a b:ar):vD ok (.sc (.bool true)) a b Q σ=AWP ok a Q σ:=by simp[vD,tst]
def Zf(a b:ar):vD ok .ub a b Q σ=(AWP ok a Q σ/\AWP ok b Q σ):=by simp[vD,tst]
def aee(a b:ar):vD ok (.sc (.bool false)) a b Q σ=AWP ok b Q σ:=by simp[vD,tst]
def Qr(x a:ar)(b:ar):AWP ok (.seqa x a lv lr b) Q σ=AWP ok x (thn (AWP ok (.seqr a lv lr b) Q) Q) σ:=by simp only[AWP]
def Oy(a:ar)(b:ar):AWP ok (.seqb a lv b) Q σ=AWP ok a (thn (fun τ=>AWP ok b (rbQ Q) (τ.rb lv)) Q) σ:=by simp only[AWP]
def agz:St.rb ⟨env,rows⟩ lv=⟨lv.map fun k=>(k,snp (St.row ⟨env,rows⟩) 4 (St.get ⟨env,rows⟩ k)),[]⟩:=rfl
def aba(e:Ex):rbQ Q e ⟨env,rows⟩=Q e ⟨env.map fun p=>(p.1,p.2.scal),[]⟩:=rfl
def Tl:(AV.sc v).scal=.sc v:=rfl
def WE(id:Nat)(a:ar):AWP ok (.blk id a) Q σ=AWP ok a (inb id Q) σ:=by simp only[AWP]
def Kv(id:Nat):AWP ok (.exit id) Q σ=Q (.ex id) σ:=by simp only[AWP]
def TZ:AWP ok .ret Q σ=Q .ret σ:=by simp only[AWP]
def Uh(K:St->Prop):thn K Q .nrm σ=K σ:=rfl
def adq(K:St->Prop):thn K Q (.ex i) σ=Q (.ex i) σ:=rfl
def UZ(K:St->Prop):thn K Q .ret σ=Q .ret σ:=rfl
def Tc:inb i Q .nrm σ=Q .nrm σ:=rfl
def acd:inb i Q (.ex j) σ=if j=i then Q .nrm σ else Q (.ex j) σ:=rfl
def Wr:inb i Q .ret σ=Q .ret σ:=rfl
def aby:eff ok g ρ d (.mv x) K=K (g x) []:=rfl
def PU(c a b:X):eff ok g ρ d (.pick c a b) K=lH K (g c) (g a) (g b):=rfl
def Sp(a b:AV):lH K (.sc (.bool true)) a b=K a []:=by simp[lH]
def Xq(a b:AV):lH K (.sc (.bool false)) a b=K b []:=by simp[lH]
def Gu:eff ok g ρ d (.alloc z) K=(ρ d=none/\K (.pt d 0 0) [(d,.var z)]):=rfl
def UV:eff ok g ρ d (.box n x) K=(ρ d=none/\(g x).width=n/\K (.pt d 0 0) [(d,.var (g x))]):=rfl
def IR(z:List AV)(ps:List (Nat×Nat×X)):eff ok g ρ d (.build z ps) K=
 ((∀p∈ps,(g p.2.2).width=p.2.1/\p.1+p.2.1<=z.length)/\K (.agg (lK z (ps.map fun p=>(p.1,g p.2.2)))) []):=rfl
def Va(fr:Bool)(ps:List X):eff ok g ρ d (.bsl n fr ps) K=((fr=true->aP (ps.map g)=[])/\ρ d=none/\(∀p∈ps,(g p).width=n)/\(aP (ps.map g)).Nodup/\
 K (.sl d 0 ps.length) (ck (aP (ps.map g))++[(d,.arr n ((ps.map g).map (lift ρ 2)))])):=rfl
def CN(x:AV):cH (some (.var x))=True:=rfl
def AP(x:List AV):cH (some (.arr n x))=True:=rfl
def Ez:ck rs=rs.map fun r=>(r,.dead):=rfl
def aez(v:AV):k1 K v=K v []:=rfl
def QL:eff ok g ρ d (.load n ag x) K=eM K ρ n ag (g x):=rfl
def QO:eM K ρ n ag (.bp f y off)=opt (part y off n ag) (k1 K):=rfl
def PY:eM K ρ n ag (.pt r i off)=eS K (ρ r) i off n ag:=rfl
def yd:eS K (some (.var y)) i off n ag=(i=0/\opt (part y off n ag) (k1 K)):=rfl
def za:eS K (some (.arr w es)) i off n ag=opt es[i]? (Oi K off n ag):=rfl
def OJ:Oi K off n ag y=opt (part y.als off n ag) (k1 K):=rfl
def Hn(v:X):eff ok g ρ d (.store n x v) K=dX K ρ n (g x) (g v):=rfl
def FR(v:AV):dX K ρ n (.pt r i off) v=(v.width=n/\ej K ρ (ρ r) r i off v):=rfl
def wD(v:AV):ej K ρ (some (.var y)) r i off v=(i=0/\opt (setPart y off v) (QN K r)):=rfl
def LM:QN K r y=K .top [(r,.var y)]:=rfl
def vC(v:AV):ej K ρ (some (.arr w es)) r i off v=opt es[i]? (rU K ρ r w i off es v):=rfl
def RK(v:AV):rU K ρ r w i off es v y=
 (r∉v.ments/\v.ments.Nodup/\(lift ρ 2 v).width=v.width/\opt (setPart y off (lift ρ 2 v)) (AU K (ck v.ments) r w i es)):=rfl
def Gs:AU K u r w i es y=K .top (u++[(r,.arr w (es.set i y))]):=rfl
def SP(ps:List X):eff ok g ρ d (.bsm n ps) K=((∀r∈aP (ps.map g),AN (ρ r))/\ρ d=none/\(∀p∈ps,(g p).width=n)/\(aP (ps.map g)).Nodup/\
 K (.sl d 0 ps.length) (ck (aP (ps.map g))++[(d,.arr n ((ps.map g).map (lift ρ 2)))])):=rfl
def Xh(v:X):eff ok g ρ d (.stv n x v) K=(vPv ρ (g x)/\dX K ρ n (g x) (g v)):=rfl
def TI:eff ok g ρ d (.lda n ag x) K=(aPb ρ (g x)/\eM K ρ n ag (g x)):=rfl
def Sf:eff ok g ρ d (.fdv av off x) K=(vPt av ρ (g x)/\mj K ρ off (g x)):=rfl
def aam:aPb ρ (.pt r i off)=AN (ρ r):=rfl
def ZN:aPb ρ (.bp f y off)=True:=rfl
def ZR:vPv ρ (.pt r i off)=Cn (ρ r):=rfl
def Sx:eff ok g ρ d (.ldv av n ag x) K=(vPt av ρ (g x)/\eM K ρ n ag (g x)):=rfl
def WR(v:X):eff ok g ρ d (.str n x v) K=(aPt ρ (g x)/\(g v).ments=[]/\dX K ρ n (g x) (g v)):=rfl
def Tv:eff ok g ρ d (.lde av n ag x) K=(lPt av (g x)/\eM K ρ n ag (g x)):=rfl
def abr:vPt av ρ (.pt r i off)=(r∉av/\Cn (ρ r)):=rfl
def acj:vPt av ρ (.bp f y off)=True:=rfl
def YV:aPt ρ (.pt r i off)=AN (ρ r):=rfl
def PB(x:AV):Cn (some (.var x))=True:=rfl
def KW(x:List AV):AN (some (.arr n x))=True:=rfl
def WH(op:BinOp)(y:X):eff ok g ρ d (.bin op x y) K=dG op (g x) (g y) (k1 K):=rfl
def UR(y:X):eff ok g ρ d (.beq neg x y) K=zY K neg (g x) (g y):=rfl
def abe(a b:Bool):zY K false (.sc (.bool a)) (.sc (.bool b))=K (.sc (.bool (a==b))) []:=rfl
def aec(a b:Bool):zY K true (.sc (.bool a)) (.sc (.bool b))=K (.sc (.bool (!(a==b)))) []:=rfl
def Ww(y:X):eff ok g ρ d (.aeq neg x y) K=yk K neg (g x) (g y):=rfl
def abw(c e:Int):yk K false (.agg [.sc (.int .i64 a),.sc (.int .i64 b)]) (.agg [.sc (.int .i64 c),.sc (.int .i64 e)])=K (.sc (.bool (a==c&&b==e))) []:=rfl
def aaz(c e:Int):yk K true (.agg [.sc (.int .i64 a),.sc (.int .i64 b)]) (.agg [.sc (.int .i64 c),.sc (.int .i64 e)])=K (.sc (.bool (!(a==c&&b==e)))) []:=rfl
def abg(op:UnOp):eff ok g ρ d (.un op x) K=unV op (g x) (k1 K):=rfl
def RS(q:IntKind):eff ok g ρ d (.conv q x) K=sD K q (g x):=rfl
def Us(q q':IntKind)(n:Int):sD K q (.sc (.int q' n))=K (.sc (.int q (q.wrap n))) []:=rfl
def Tp(f:Nat)(cs:List X):eff ok g ρ d (.mkf f cs) K=K (.fn f (cs.map g)) []:=rfl
def VW(l c:X):eff ok g ρ d (.mks n z bytes l c) K=tu K (ρ d) d n z bytes (g l) (g c):=rfl
def YQ(o:Option Row)(l c:Int):tu K o d n z bytes (.sc (.int .i64 l)) (.sc (.int .i64 c))=
 (o=none/\z.width=n/\0<=l/\l<=c/\c*bytes<=140737488355328/\c<=9223372036854775807/\K (.sl d 0 l.toNat) [(d,.arr n (A0 l.toNat z))]):=rfl
def Ty(lo hi mx:Option X):eff ok g ρ d (.slc n x lo hi mx) K=sv K ρ n (g x) (lo.map g) (hi.map g) (mx.map g):=rfl
def Qd:sv K ρ n (.lst f w xs) lo hi none=
 (w=n/\bOk lo/\bOk hi/\bV lo 0<=bV hi xs.length/\bV hi xs.length<=xs.length/\K (.lst f n (sub xs (bV lo 0) (bV hi xs.length-bV lo 0))) []):=rfl
def FF(m:AV):sv K ρ n (.lst f w xs) lo hi (some m)=
 (w=n/\bOk lo/\bOk hi/\bV lo 0<=bV hi xs.length/\bV hi xs.length<=xs.length/\hi.isSome/\bOk (some m)/\bV (some m) 0=bV hi xs.length/\K (.tg f n (sub xs (bV lo 0) (bV hi xs.length-bV lo 0))) []):=rfl
def Uv(mx:Option AV):sv K ρ n (.sl r i m) lo hi mx=
 ((∃es,ρ r=some (.arr n es))/\bOk lo/\bOk hi/\bV lo 0<=bV hi m/\bV hi m<=m/\mx=none/\K (.sl r (i+bV lo 0) (bV hi m-bV lo 0)) []):=rfl
def adm(s:ByteArray):UN K (.sc (.string s)) lo hi=
 (bOk lo/\bOk hi/\bV lo 0<=bV hi s.size/\bV hi s.size<=s.size/\K (.sc (.string (s.extract (bV lo 0) (bV hi s.size)))) []):=rfl
def Lu:bOk none=True:=rfl
def aei(q:IntKind)(j:Int):bOk (some (.sc (.int q j)))=(0<=j):=rfl
def Vx:bV none n=n:=rfl
def bV_i(q:IntKind)(j:Int):bV (some (.sc (.int q j))) n=j.toNat:=rfl
def Ub:eff ok g ρ d (.fad off x) K=mj K ρ off (g x):=rfl
def Uj:mj K ρ off (.bp f y o)=K (.bp f y (o+off)) []:=rfl
def UK:mj K ρ off (.pt r i o)=(cH (ρ r)/\K (.pt r i (o+off)) []):=rfl
def TE(i:X):eff ok g ρ d (.idx n x i) K=kH K ρ n (g x) (g i):=rfl
def Vk(i:X):eff ok g ρ d (.idv av n x i) K=(iPt av (g x)/\kH K ρ n (g x) (g i)):=rfl
def aae:iPt av (.sl r i n)=(r∉av):=rfl
def WI:iPt av (.lst f n xs)=True:=rfl
def abi:lPt av (.pt r i off)=(r∉av):=rfl
def YM:lPt av (.bp f y off)=True:=rfl
def TT:eff ok g ρ d (.lnv av x) K=(iPt av (g x)/\lm K ρ (g x)):=rfl
def VE(v:X):eff ok g ρ d (.stw r n x v) K=(wPt r ρ (g x)/\dX K ρ n (g x) (g v)):=rfl
def aav:wPt r ρ (.pt q i off)=(q=r/\Cn (ρ q)):=rfl
def MG(q:IntKind)(j:Int):kH K ρ n (.lst f w xs) (.sc (.int q j))=(w=n/\0<=j/\opt xs[j.toNat]? (ZP K f.als)):=rfl
def Wp:ZP K f y=K (.bp f y 0) []:=rfl
def aft:Fl.als .o=.o:=rfl
def afa:Fl.als .s=.s:=rfl
def aga:Fl.als .m=.m:=rfl
def aeo:Fl.als .u=.m:=rfl
def TD(a:Nat)(q:IntKind)(j:Int):kH K ρ n (.sl r a m) (.sc (.int q j))=((∃es,ρ r=some (.arr n es))/\0<=j/\j<m/\K (.pt r (a+j.toNat) 0) []):=rfl
def VO:eff ok g ρ d (.fld off n ag x) K=Jl K off n ag (g x):=rfl
def LC:Jl K off n ag (.agg cs)=opt (part (.agg cs) off n ag) (k1 K):=by simp[Jl,AV.isAgg]
def PE(i:X):eff ok g ρ d (.stri x i) K=qu K (g x) (g i):=rfl
def Td(s:ByteArray)(q:IntKind)(j:Int):qu K (.sc (.string s)) (.sc (.int q j))=(0<=j/\opt s[j.toNat]? (aas K)):=rfl
def UH(c:UInt8):aas K c=K (.sc (.int .u8 c.toNat)) []:=rfl
def VL:eff ok g ρ d (.ext x j) K=Cb K (g x) j:=rfl
def OA(vs:List AV):Cb K (.tup vs) j=opt vs[j]? (k1 K):=rfl
def OC(f:Nat)(xs:List X):eff ok g ρ d (.call f xs) K=gE ok ρ d f (xs.map g) K:=rfl
def Vr(xs:List X):eff ok g ρ d (.dyn x xs) K=yz ok ρ d (g x) (xs.map g) K:=rfl
def Gv(f:Nat)(xs:List X):eff ok g ρ d (.callM f xs rs) K=callM ok ρ d f (xs.map g) rs K:=rfl
def KL(xs:List X):eff ok g ρ d (.dynM x xs rs) K=rJ ok ρ d (g x) (xs.map g) rs K:=rfl
def Kd(f:Nat):rJ ok ρ d (.fn f cs) xs rs K=callM ok ρ d f (xs++cs) rs K:=rfl
def Xg(f:Nat):yz ok ρ d (.fn f cs) xs K=gE ok ρ d f (xs++cs) K:=rfl
def WN:eff ok g ρ d (.len x) K=lm K ρ (g x):=rfl
def Li:lm K ρ (.lst f n xs)=K (.sc (.int .i64 xs.length)) []:=rfl
def SB:lm K ρ (.tg f n xs)=K (.sc (.int .i64 xs.length)) []:=rfl
def Ti:lm K ρ (.sl r i n)=((∃w es,ρ r=some (.arr w es))/\K (.sc (.int .i64 n)) []):=rfl
def NY:eff ok g ρ d (.lenz x) K=ri K (g x):=rfl
def NU:eff ok g ρ d (.capn x) K=rQ K (g x):=rfl
def TY:rQ K (.lst .u n [])=K (.i 0) []:=rfl
def Ug(hi:X):eff ok g ρ d (.slg n x hi) K=CO K n (g x) (g hi):=rfl
def Zp(k:IntKind)(h:Int):CO K n (.lst .u w []) (.sc (.int k h))=(w=n/\h=0/\K (.lst .u n []) []):=rfl
def Wy(l:X):eff ok g ρ d (.apz n z bytes x l) K=Ib K (ρ d) d n z bytes (g x) (g l):=rfl
def Yz(o:Option Row)(l:Int):Ib K o d n z bytes (.lst .u w []) (.sc (.int .i64 l))=(o=none/\w=n/\z.width=n/\n=1/\0<l/\l*bytes<=140737488355328/\K (.sl d 0 l.toNat) [(d,.arr n (A0 l.toNat z))]):=rfl
def Xp(s:ByteArray):ri K (.sc (.string s))=K (.sc (.int .i64 s.size)) []:=rfl
def VY:eff ok g ρ d (.b2s x) K=CC K ρ (g x):=rfl
def Mr:CC K ρ (.lst f n xs)=(n=1/\opt (u8s xs) (MB K)):=rfl
def UT:CC K ρ (.sl r i n)=xO K (ρ r) i n:=rfl
def JL:xO K (some (.arr w es)) i m=(w=1/\opt (u8s (sub es i m)) (MB K)):=rfl
def WY(ns:List Int):MB K ns=K (.sc (.string (b2s ns))) []:=rfl
def UQ:eff ok g ρ d (.isn neg x) K=zk K ρ neg (g x):=rfl
def Pt:zk K ρ neg (.lst f n xs)=tw K neg xs.isEmpty:=rfl
def Wk:zk K ρ neg (.tg f n xs)=tw K neg xs.isEmpty:=rfl
def Uw:zk K ρ neg (.sl r i n)=((∃w es,ρ r=some (.arr w es))/\tw K neg (n==0)):=rfl
def TM(e:Bool):tw K neg e=K (cond e .ub (.sc (.bool neg))) []:=rfl
def acs(x:AV):cond true AV.ub x=AV.ub:=rfl
def acv(x:AV):cond false AV.ub x=x:=rfl
def Js{α β:Type}(f:α->β)(xs:List α):(xs.map f).isEmpty=xs.isEmpty:=List.isEmpty_map
def VX:abs K ρ n (.sl r i m) y=opt (et n ρ y) (WP K (ρ r) r n i m):=rfl
def Kb:WP K (some (.arr w es)) r n i m ys=(w=n/\i+m+ys.length<=es.length/\K (.sl r i (m+ys.length)) [(r,.arr w (en es (i+m) ys))]):=rfl
def Tb(lo hi mx:AV):aah K ρ n (.sl r i m) lo hi mx=Dx K (ρ r) n m lo hi mx:=rfl
def JV(k1 k2 k3:IntKind)(l h q:Int):Dx K (some (.arr w es)) n m (.sc (.int k1 l)) (.sc (.int k2 h)) (.sc (.int k3 q))=(w=n/\0<=l/\l<=h/\h<=q/\q<=(m:Int)/\K .top []):=rfl
def Wz:Pk K ρ n (.sl r i m) lo hi=Ag K (ρ r) r n i m lo hi:=rfl
def Gi:Ag K (some (.arr w es)) r n i m lo hi=
 (w=n/\bOk lo/\bOk hi/\bV lo 0<=bV hi m/\i+bV hi m<=es.length/\K (.sl r (i+bV lo 0) (bV hi m-bV lo 0)) []):=rfl
def SR:eff ok g ρ d (.clr n z x) K=Iu K ρ n z (g x):=rfl
def WX:Iu K ρ n z (.sl r i m)=yB K (ρ r) r n z i m:=rfl
def FQ:yB K (some (.arr w es)) r n z i m=(w=n/\z.width=n/\K (.tup []) [(r,.arr w (en es i (A0 m z)))]):=rfl
def Vb(y:X):eff ok g ρ d (.cpy n x y) K=GD K ρ n (g x) (g y):=rfl
def Xb:GD K ρ n (.sl r i m) y=opt (et n ρ y) (yw K (ρ r) r n i m):=rfl
def GB:yw K (some (.arr w es)) r n i m ys=(w=n/\K (.sc (.int .i64 (min ys.length m:Nat))) [(r,.arr w (en es i (ys.take (min ys.length m))))]):=rfl
def Xa(y:X):eff ok g ρ d (.app n bytes mv x y) K=wd K ρ d n bytes mv (g x) (g y):=rfl
def We:wd K ρ d n bytes mv (.sl r i m) y=(ρ d=none/\opt (nt ρ n mv y) (sn K (ρ r) d n bytes r i m)):=rfl
def Ws:wd K ρ d n bytes mv (.tg f w es) y=(ρ d=none/\opt (nt ρ n mv y) (xw K d n bytes w es)):=rfl
def LE:xw K d n bytes w es (ys,u)=
 (w=n/\0<ys.length/\(es.length+ys.length)*bytes<=140737488355328/\K (.sl d 0 (es.length+ys.length)) (u++[(d,.arr n (es.map AV.als++ys))])):=by simp[xw,jk]
def Vn:nt ρ n true (.sl r 0 m)=zd n r m (ρ r):=rfl
def Gj:zd n r m (some (.arr w ys))=if w=n/\m=ys.length then some (ys,[(r,.dead)]) else none:=rfl
def SS:nt ρ n false y=lM (et n ρ y):=rfl
def CR:lM (some ys)=some (ys,[]):=rfl
def Hw:et n ρ (.lst f w xs)=if w=n then some xs else none:=rfl
def Rr:et n ρ (.tg f w xs)=if w=n then some xs else none:=rfl
def Rl:et n ρ (.sl r i k)=na n (ρ r) i k:=rfl
def yC:na n (some (.arr w es)) i k=if w=n then some ((sub es i k).map AV.als) else none:=by simp[na,jk]
def Iq:sn K (some (.arr w es)) d n bytes r i m (ys,u)=
 (w=n/\r∉u.map (·.1)/\(m+ys.length)*bytes<=140737488355328/\K (.sl d 0 (m+ys.length)) ((r,.dead)::u++[(d,.arr n (sub es i m++ys))])):=rfl
def Nr:eff ok g ρ d (.nilc x) K=tx K ρ (g x):=rfl
def Vf:tx K ρ (.bp f y o)=K (.bp f y o) []:=rfl
def UD:tx K ρ (.pt r i o)=(cH (ρ r)/\K (.pt r i o) []):=rfl
def aap(y:X):eff ok g ρ d (.mn x y) K=eMn K (g x) (g y):=rfl
def agh:eMn K (.sc (.int .i64 a)) (.sc (.int .i64 b))=K (.sc (.int .i64 (if b<a then b else a))) []:=by simp[eMn]
def ZM(y:X):eff ok g ρ d (.mx x y) K=eMx K (g x) (g y):=rfl
def ahb:eMx K (.sc (.int .i64 a)) (.sc (.int .i64 b))=K (.sc (.int .i64 (if a<b then b else a))) []:=by simp[eMx]
def TA(K:AV->Prop)(k:IntKind):dG .add (.sc (.int k a)) (.sc (.int k b)) K=K (.sc (.int k (k.wrap (a+b)))):=by simp[dG,ee,ofI]
def Uk(K:AV->Prop)(k:IntKind):dG .sub (.sc (.int k a)) (.sc (.int k b)) K=K (.sc (.int k (k.wrap (a-b)))):=by simp[dG,ee,ofI]
def Ut(K:AV->Prop)(k:IntKind):dG .mul (.sc (.int k a)) (.sc (.int k b)) K=K (.sc (.int k (k.wrap (a*b)))):=by simp[dG,ee,ofI]
def VI(K:AV->Prop)(k:IntKind):dG .quo (.sc (.int k a)) (.sc (.int k b)) K=(b≠0/\K (.sc (.int k (k.wrap (a.tdiv b))))):=by simp[dG,ee,ofI]
def SC(K:AV->Prop)(k:IntKind):dG .rem (.sc (.int k a)) (.sc (.int k b)) K=(b≠0/\K (.sc (.int k (a.tmod b)))):=by simp[dG,ee]
def WD(K:AV->Prop)(k:IntKind):dG .and (.sc (.int k a)) (.sc (.int k b)) K=K (.sc (.int k (bits .and k a b))):=by simp[dG,ee]
def abc(K:AV->Prop)(k:IntKind):dG .or (.sc (.int k a)) (.sc (.int k b)) K=K (.sc (.int k (bits .or k a b))):=by simp[dG,ee]
def Vw(K:AV->Prop)(k:IntKind):dG .xor (.sc (.int k a)) (.sc (.int k b)) K=K (.sc (.int k (bits .xor k a b))):=by simp[dG,ee]
def Bv(K:AV->Prop)(k:IntKind):dG .andNot (.sc (.int k a)) (.sc (.int k b)) K=K (.sc (.int k (bits .andNot k a b))):=by simp[dG,ee]
def Um(K:AV->Prop)(k:IntKind):dG .eql (.sc (.int k a)) (.sc (.int k b)) K=K (.sc (.bool (a==b))):=by simp[dG,ee]
def VM(K:AV->Prop)(k:IntKind):dG .neq (.sc (.int k a)) (.sc (.int k b)) K=K (.sc (.bool (a !=b))):=by simp[dG,ee]
def TG(K:AV->Prop)(k:IntKind):dG .lss (.sc (.int k a)) (.sc (.int k b)) K=K (.sc (.bool (decide (a<b)))):=by simp[dG,ee]
def UL(K:AV->Prop)(k:IntKind):dG .leq (.sc (.int k a)) (.sc (.int k b)) K=K (.sc (.bool (decide (a<=b)))):=by simp[dG,ee]
def TL(K:AV->Prop)(k:IntKind):dG .gtr (.sc (.int k a)) (.sc (.int k b)) K=K (.sc (.bool (decide (b<a)))):=by simp[dG,ee]
def WM(K:AV->Prop)(k:IntKind):dG .geq (.sc (.int k a)) (.sc (.int k b)) K=K (.sc (.bool (decide (b<=a)))):=by simp[dG,ee]
def Wn(K:AV->Prop)(k k':IntKind):dG .shl (.sc (.int k a)) (.sc (.int k' b)) K=fh .shl k a b K:=by simp[dG]
def UM(K:AV->Prop)(k k':IntKind):dG .shr (.sc (.int k a)) (.sc (.int k' b)) K=fh .shr k a b K:=by simp[dG]
def aew(K:AV->Prop)(k:IntKind):fh .shl k a b K=(0<=b/\K (.sc (.int k (k.wrap (a*2^(min b.toNat k.bits)))))):=by simp[fh,ofI]
def aej(K:AV->Prop)(k:IntKind):fh .shr k a b K=(0<=b/\K (.sc (.int k (a.fdiv (2^(min b.toNat k.bits)))))):=by simp[fh]
def Mh(K:AV->Prop)(a b:ByteArray):dG .add (.sc (.string a)) (.sc (.string b)) K=(a.size+b.size<=9223372036854775807/\K (.sc (.string (a++b)))):=rfl
def Rf(K:AV->Prop)(a b:ByteArray):dG .eql (.sc (.string a)) (.sc (.string b)) K=K (.sc (.bool (a.toList==b.toList))):=rfl
def Ke(K:AV->Prop)(a b:ByteArray):dG .neq (.sc (.string a)) (.sc (.string b)) K=K (.sc (.bool (!(a.toList==b.toList)))):=rfl
def acb(K:AV->Prop)(k:IntKind):unV .neg (.sc (.int k a)) K=K (.sc (.int k (k.wrap (0-a)))):=by simp[unV,ofI]
def YK(K:AV->Prop)(a:Bool):unV .not (.sc (.bool a)) K=K (.sc (.bool (!a))):=rfl
def KS{α:Type}(x:α)(K:α->Prop):opt (some x) K=K x:=rfl
def Gc(K:St->Prop):dS ok [] K σ=K σ:=rfl
def BP(K:St->Prop)(d:Option Nat)(o:AOp)(os:List bn):dS ok (⟨d,o,none⟩::os) K σ=eff ok σ.gx σ.row (d.getD 0) o (VP d (dS ok os K) σ):=rfl
def CH(K:St->Prop)(d:Option Nat)(o:AOp)(w:Bool)(os:List bn):dS ok (⟨d,o,some (s,w)⟩::os) K σ=
 fB σ s w (σ.get s) (Bh ok d o (dS ok os K)) (Ox d (dS ok os K)):=rfl
def Wj(K:St->Prop)(mids:List (Nat×X))(f:Nat)(xs:List X):stH ok (.inn t n k x mids d f xs) K σ=Pf ok K σ (sF mids (σ.app (some t) .top [])) t n k d f xs (σ.gx x):=rfl
def Su(K:St->Prop)(f:Nat)(xs:List X):stH ok (.har d f xs rs) K σ=(σ.fz=true/\callM ⟨ok.p,ok.h,ok.h⟩ σ.row d f (xs.map σ.gx) rs (ade d K σ)):=rfl
def Uo(K:St->Prop)(v:AV):ade d K σ v u=K (σ.app (some d) v u):=rfl
def RT:sF [] σ=σ:=rfl
def HC(ms:List (Nat×X)):sF ((d,x)::ms) σ=sF ms (σ.app (some d) (σ.gx x) []):=rfl
def VU(K:St->Prop)(f:Nat)(xs:List X)(τ:St):Pf ok K σ τ t n k d f xs (.pt r i off)=Pe ok K τ t n k d f xs r i off (σ.row r):=rfl
def Ri(K:St->Prop)(f:Nat)(xs:List X):Pe ok K σ t n k d f xs r i off (some (.arr w es))=(w=n/\opt es[i]? fun y=>opt (part y off 1 false) (MM ok K σ t n k d f xs r i off es y)):=rfl
def Na(K:St->Prop)(f:Nat)(xs:List X):MM ok K σ t n k d f xs r i off es y (.lst .u w ys)=(w=k/\adx ok K σ t n k d f xs r i off es y ys):=rfl
def adj(len:Nat):sV σ t len (.t j)=if j=t then .sl 1000000000 0 len else σ.get j:=rfl
def aed(len:Nat)(a:AV):sV σ t len (.c a)=a:=rfl
def Oa:vB σ t (.t j)=(j=t\/(σ.get j).ments=[]):=rfl
def RQ(a:AV):vB σ t (.c a)=(a.ments=[]):=rfl
def VZ(K:St->Prop)(d:Option Nat)(o:AOp):Bh ok d o K σ=eff ok σ.gx σ.row (d.getD 0) o (VP d K σ):=rfl
def SV(K:St->Prop)(d:Option Nat):Ox d K σ=K (σ.app d (.tup []) []):=rfl
def EN(K:St->Prop)(d:Option Nat)(v:AV):VP d K σ v u=K (σ.app d v u):=rfl
def Xk:BG Q can σ=Q .nrm (σ.can can):=rfl
def Ju:fB σ s true (.sc (.bool true)) A B=A (σ.know s true):=by simp[fB]
def GI:fB σ s true (.sc (.bool false)) A B=B (σ.know s false):=by simp[fB]
def HY:fB σ s false (.sc (.bool true)) A B=B (σ.know s true):=by simp[fB]
def IG:fB σ s false (.sc (.bool false)) A B=A (σ.know s false):=by simp[fB]
def MU(w:Bool):fB σ s w (.tup []) A B=B σ:=rfl
def UF:σ.can []=σ:=rfl
def QD:σ.can (.s d::ds)=(σ.canV d (σ.get d)).can ds:=rfl
def Jx:σ.can (.f far d r j::ds)=(σ.canG far d r j (gU j (aC r σ.rows))).can ds:=rfl
def Hf:σ.can (.r d::ds)=(σ.canW d (σ.get d)).can ds:=rfl
def Xi:σ.canW d (.sl r i n)=σ.canSr d r i n:=rfl
def Mm:σ.canW d (.lst .u n [])=σ.canNil d n:=rfl
def acy:σ.canW d (.lst .o n xs)=σ:=rfl
def abl:σ.canW d (.lst .m n xs)=σ:=rfl
def abp:σ.canW d (.lst .s n xs)=σ:=rfl
def ack:σ.canG far d r j (.lst .o n xs)=σ:=rfl
def adu:σ.canG far d r j (.lst .m n xs)=σ:=rfl
def abx:σ.canG far d r j (.lst .s n xs)=σ:=rfl
def Gy:σ.can (.z d::ds)=(σ.canZ d (σ.get d)).can ds:=rfl
def Vj:σ.canZ d (.sl r i m)=σ.canZr d i m r (aC r σ.rows):=rfl
def QT:σ.canZ d (.lst f n xs)=σ:=rfl
def OX:σ.canZ d (.agg cs)=σ.canZc d cs 0 cs:=rfl
def HT:σ.canZc d all j []=σ:=by unfold St.canZc;rfl
def Qv:σ.canZc d all j (.sl r i m::cs)=σ.canZcr d all j r i m (aC r σ.rows):=by rw[St.canZc]
def FH:σ.canZc d all j (.lst f n xs::cs)=σ.canZc d all (j+1) cs:=by rw[St.canZc];intros;contradiction
def Ku:σ.canZc d all j (.sc v::cs)=σ.canZc d all (j+1) cs:=by rw[St.canZc];intros;contradiction
def FJ:St.canZcr ⟨env,rows⟩ d all j r i m (some (.arr q es))=⟨put d (.agg (gR all j (.lst .m q (dW (sub es i m))))) env,put r .dead rows⟩:=rfl
def HW:σ.can (.e far d k j::ds)=(σ.canE far d k j (gU j (some (.var (σ.get k))))).can ds:=rfl
def WO:St.canE ⟨env,rows⟩ far d k j (.sl q i m)=if q=d\/far=false/\1000000000<=q then⟨env,rows⟩ else⟨(env.map fun p=>(p.1,p.2.hush d)).map fun p=>(p.1,p.2.ren q d),((del d rows).map fun p=>(p.1,p.2.hush d)).map fun p=>(if p.1=q then d else p.1,p.2.map (·.ren q d))⟩:=rfl
def My:St.canE ⟨env,rows⟩ far d k j (.lst .u m [])=St.canEN ⟨env,rows⟩ d k j m (aC k (env.map fun p=>(p.1,p.2.hush d))):=rfl
def abk:σ.canE far d r j (.lst .o n xs)=σ:=rfl
def YO:σ.canE far d r j (.lst .m n xs)=σ:=rfl
def YW:σ.canE far d r j (.lst .s n xs)=σ:=rfl
def NX:St.canEN ⟨env,rows⟩ d k j m (some (.agg cs))=⟨put k (.agg (gR cs j (.sl d 0 0))) (env.map fun p=>(p.1,p.2.hush d)),put d (.arr m []) ((del d rows).map fun p=>(p.1,p.2.hush d))⟩:=rfl
def HU:σ.can (.w r::ds)=(σ.canX r (aC r σ.rows)).can ds:=rfl
def Ob:St.canX ⟨env,rows⟩ r (some (.arr n es))=⟨env,put r (.arr n (es.map AV.als)) rows⟩:=by simp[St.canX,jk]
def Ji:σ.canX r none=σ:=rfl
def LP:σ.canX r (some (.var (.agg cs)))=σ.canXc r cs 0 cs:=rfl
def HG:σ.canXc r all j []=σ:=by unfold St.canXc;rfl
def Rh:σ.canXc r all j (.sl q i m::cs)=σ.canXcr r all j q i m (aC q σ.rows):=by rw[St.canXc]
def Ch:σ.canXc r all j (.lst .o n xs::cs)=σ.canXc r all (j+1) cs:=by rw[St.canXc]<;>(intros;simp_all)
def BR:σ.canXc r all j (.lst .m n xs::cs)=σ.canXc r all (j+1) cs:=by rw[St.canXc]<;>(intros;simp_all)
def Cy:σ.canXc r all j (.lst .s n xs::cs)=σ.canXc r all (j+1) cs:=by rw[St.canXc]<;>(intros;simp_all)
def Bl:σ.canXc r all j (.lst .u n []::cs)=⟨σ.env,put r (.var (.agg (gR all j (.lst .m n [])))) σ.rows⟩:=by rw[St.canXc]
def KH:σ.canXc r all j (.sc v::cs)=σ.canXc r all (j+1) cs:=by rw[St.canXc]<;>(intros;contradiction)
def FP:St.canXcr ⟨env,rows⟩ r all j q i m (some (.arr k es))=⟨env,put r (.var (.agg (gR all j (.lst .m k (dW (sub es i m)))))) (put q .dead rows)⟩:=rfl
def II:σ.canX r (some .dead)=σ:=rfl
def Ck:gU j (some (.var (.agg cs)))=tt cs j:=rfl
def GJ:gU 0 (some (.var (.sl q i m)))=.sl q i m:=rfl
def BC:gU 0 (some (.var (.lst f m xs)))=.lst f m xs:=rfl
def abf(x:AV):tt (x::xs) 0=x:=rfl
def aad(x:AV):tt (x::xs) (j+1)=tt xs j:=rfl
def YS(x:AV):gR (x::xs) 0 y=y::xs:=rfl
def adn(x:AV):gR (x::xs) (j+1) y=x::gR xs j y:=rfl
def TP:St.canG ⟨env,rows⟩ far d r j (.sl q i m)=if q=d\/far=false/\1000000000<=q then⟨env,rows⟩ else⟨(env.map fun p=>(p.1,p.2.hush d)).map fun p=>(p.1,p.2.ren q d),((del d rows).map fun p=>(p.1,p.2.hush d)).map fun p=>(if p.1=q then d else p.1,p.2.map (·.ren q d))⟩:=rfl
def Lz:St.canG ⟨env,rows⟩ far d r j (.lst .u m [])=St.canFN ⟨env,rows⟩ d r j m (aC r ((del d rows).map fun p=>(p.1,p.2.hush d))):=rfl
def Ka:St.canFN ⟨env,rows⟩ d r j m (some (.var (.lst .u k [])))=⟨env.map fun p=>(p.1,p.2.hush d),put d (.arr m []) (put r (.var (.sl d 0 0)) ((del d rows).map fun p=>(p.1,p.2.hush d)))⟩:=rfl
def Kz:St.canFN ⟨env,rows⟩ d r j m (some (.var (.agg cs)))=⟨env.map fun p=>(p.1,p.2.hush d),put d (.arr m []) (put r (.var (.agg (gR cs j (.sl d 0 0)))) ((del d rows).map fun p=>(p.1,p.2.hush d)))⟩:=rfl
def TC:σ.canV d (.sl r i n)=σ.canSl d r i n:=rfl
def Md:σ.canV d (.lst .u n [])=σ.canNil d n:=rfl
def abb:σ.canV d (.lst .o n xs)=σ:=rfl
def aax:σ.canV d (.lst .m n xs)=σ:=rfl
def ZV:σ.canV d (.lst .s n xs)=σ:=rfl
def Zi:St.get ⟨env,rows⟩ k=(aC k env).getD .top:=rfl
def ads:St.row ⟨env,rows⟩ k=aC k rows:=rfl
def gx_t:σ.gx (.t n)=σ.get n:=rfl
def gx_c(a:AV):σ.gx (.c a)=a:=rfl
def zy(v:AV):St.app ⟨env,rows⟩ (some d) v u=⟨put d v env,bh u rows⟩:=rfl
def xN(v:AV):St.app ⟨env,rows⟩ none v u=⟨env,bh u rows⟩:=rfl
def qq:bh [] rows=rows:=rfl
def oA(p:Nat×Row):bh (p::u) rows=bh u (put p.1 p.2 rows):=rfl
def Si(b:Bool):St.know ⟨env,rows⟩ s b=⟨put s (.sc (.bool b)) env,rows⟩:=rfl
def Po{α:Type}:aC k ([]:List (Nat×α))=none:=rfl
def Hq{α:Type}(x:α)(l:List (Nat×α)):aC k ((j,x)::l)=if j=k then some x else aC k l:=rfl
def ER{α:Type}(x:α):put k x []=[(k,x)]:=rfl
def yD{α:Type}(x y:α)(l:List (Nat×α)):put k x ((j,y)::l)=if j=k then(k,x)::l else(j,y)::put k x l:=rfl
def SO{α:Type}:del k ([]:List (Nat×α))=[]:=rfl
def LX{α:Type}(x:α)(l:List (Nat×α)):del k ((j,x)::l)=if j=k then del k l else(j,x)::del k l:=rfl
def getD_some{α:Type}(x y:α):(some x).getD y=x:=rfl
def GT{α:Type}(y:α):(none:Option α).getD y=y:=rfl
def Mt:St.canSr ⟨env,rows⟩ d r i n=if r=d then⟨env,rows⟩ else
 ⟨put d (.sl d i n) ((env.map fun p=>(p.1,p.2.hush d)).map fun p=>(p.1,p.2.ren r d)),
  ((del d rows).map fun p=>(p.1,p.2.hush d)).map fun p=>(if p.1=r then d else p.1,p.2.map (·.ren r d))⟩:=rfl
def LI:St.canZr ⟨env,rows⟩ d i m r (some (.arr q es))=⟨put d (.lst .m q (dW (sub es i m))) env,put r .dead rows⟩:=rfl
def MN:St.canSl ⟨env,rows⟩ d r i n=if r=d\/1000000000<=r then⟨env,rows⟩ else
 ⟨put d (.sl d i n) ((env.map fun p=>(p.1,p.2.hush d)).map fun p=>(p.1,p.2.ren r d)),
  ((del d rows).map fun p=>(p.1,p.2.hush d)).map fun p=>(if p.1=r then d else p.1,p.2.map (·.ren r d))⟩:=rfl
def FU:St.canNil ⟨env,rows⟩ d n=
 ⟨put d (.sl d 0 0) (env.map fun p=>(p.1,p.2.hush d)),put d (.arr n []) ((del d rows).map fun p=>(p.1,p.2.hush d))⟩:=rfl
def aaw:σ.res lv lr=⟨lv.map fun k=>(k,σ.get k),lr.map fun r=>(r,(σ.row r).getD .dead)⟩:=rfl
def MZ:σ.resOk lv lr=((∀k∈lv,∀r∈(σ.get k).ments,r∈lr)/\(∀q∈lr,∀r∈((σ.row q).getD .dead).ments,r∈lr)/\lr.Nodup):=rfl
def JQ(x:AV):Row.hush r (.var x)=if r∈x.ments then .dead else .var x:=rfl
def HF(x:List AV):Row.hush r (.arr n x)=.arr n x:=rfl
def Df:Row.hush r .dead=.dead:=rfl
def Mj(h:AV->AV)(x:AV):Row.map h (.var x)=.var (h x):=rfl
def QH(h:AV->AV)(x:List AV):Row.map h (.arr n x)=.arr n x:=rfl
def GW(h:AV->AV):Row.map h .dead=.dead:=rfl
def BX(x:AV):Row.ments (.var x)=x.ments:=rfl
def CV(x:List AV):Row.ments (.arr n x)=[]:=rfl
def xS:Row.ments .dead=[]:=rfl
def TN(a:AV):a.hush r=if r∈a.ments then .top else a:=rfl
def Lk:(AV.sc v).ments=[]:=by simp[AV.ments]
def JG(x:List AV):(AV.lst f n x).ments=[]:=by simp[AV.ments]
def Kx(x:List AV):(AV.tg f n x).ments=[]:=by simp[AV.ments]
def Pr(x:AV):(AV.bp f x n).ments=[]:=by simp[AV.ments]
def Ja:AV.top.ments=[]:=by simp[AV.ments]
def Rd:(AV.sl r i n).ments=[r]:=by simp[AV.ments]
def Kk:(AV.pt r i n).ments=[r]:=by simp[AV.ments]
def Ho:(AV.agg cs).ments=aP cs:=by simp[AV.ments]
def OB(f:Nat):(AV.fn f cs).ments=aP cs:=by simp[AV.ments]
def Hz:(AV.tup cs).ments=aP cs:=by simp[AV.ments]
def Cm:aP []=[]:=by simp[aP]
def wZ(c:AV):aP (c::cs)=c.ments++aP cs:=by simp[aP]
theorem Ee:St.fz ⟨env,rows⟩=(env.all (fun p=>p.2.fz)&&rows.all (fun p=>p.2.fz)):=rfl
theorem dZ:(AV.sc v).fz=true:=by simp[AV.fz]
theorem cx:(AV.lst .o n xs).fz=fzL xs:=by simp[AV.fz]
theorem wM(x:AV):(AV.bp .o x n).fz=x.fz:=by simp[AV.fz]
theorem cZ:(AV.agg cs).fz=fzL cs:=by simp[AV.fz]
theorem ww:(AV.tup cs).fz=fzL cs:=by simp[AV.fz]
theorem EI(f:Nat):(AV.fn f cs).fz=fzL cs:=by simp[AV.fz]
theorem Fv:(AV.sl r i n).fz=true:=by simp[AV.fz]
theorem Fy:(AV.pt r i n).fz=true:=by simp[AV.fz]
theorem vN:AV.top.fz=true:=by simp[AV.fz]
theorem cz:fzL []=true:=by simp[fzL]
theorem bU(c:AV):fzL (c::cs)=(c.fz&&fzL cs):=by simp[fzL]
theorem ea:(AV.sc v).ouB=true:=by simp[AV.ouB]
theorem cv:(AV.lst .u n xs).ouB=gj xs:=by simp[AV.ouB]
theorem pO:(AV.lst .o n xs).ouB=fzL xs:=by simp[AV.ouB]
theorem cY:(AV.agg cs).ouB=gj cs:=by simp[AV.ouB]
theorem cA:gj []=true:=by simp[gj]
theorem bS(c:AV):gj (c::cs)=(c.ouB&&gj cs):=by simp[gj]
theorem px(x:AV):(Row.var x).fz=x.fz:=rfl
theorem pS:(Row.arr n xs).fz=gj xs:=rfl
theorem mA:Row.dead.fz=true:=rfl
theorem dd(xs:List Int):fzL (xs.map AV.i)=true:=by induction xs<;>simp_all [fzL,AV.fz]
theorem da(xs:List Bool):fzL (xs.map AV.b)=true:=by induction xs<;>simp_all [fzL,AV.fz]
theorem db(xs:List ByteArray):fzL (xs.map AV.z)=true:=by induction xs<;>simp_all [fzL,AV.fz]
theorem cW(xs:List Int):fzL (xs.map AV.u8)=true:=by induction xs<;>simp_all [fzL,AV.fz]
theorem cw(xs:List Int):fzL (xs.map AV.u64)=true:=by induction xs<;>simp_all [fzL,AV.fz]
theorem de(xs:List Int):gj (xs.map AV.u8)=true:=by induction xs<;>simp_all [gj,AV.ouB]
theorem cu(xs:List Int):gj (xs.map AV.u64)=true:=by induction xs<;>simp_all [gj,AV.ouB]
theorem df(xs:List Int):gj (xs.map AV.i)=true:=by induction xs<;>simp_all [gj,AV.ouB]
theorem cV(xs:List Bool):gj (xs.map AV.b)=true:=by induction xs<;>simp_all [gj,AV.ouB]
theorem cX(xs:List ByteArray):gj (xs.map AV.z)=true:=by induction xs<;>simp_all [gj,AV.ouB]
def BO(x:AV):part x off n false=x.cells[off]?:=rfl
def FV:part (.agg cs) off n true=if off+n<=cs.length then some (if off=0/\n=cs.length then .agg cs else .agg ((cs.drop off).take n)) else none:=by
 unfold part;by_cases h:off+n<=cs.length
 ·rw[if_pos rfl,if_pos ⟨rfl,h⟩,if_pos h];rfl
 ·rw[if_pos rfl,if_neg (fun e=>h e.2),if_neg h]
def vQ:setPart (.agg cs) off (.sc v)=if off+1<=cs.length then some (.agg (fill cs off (.sc v))) else none:=rfl
def yq:setPart (.agg cs) off (.sl r i n)=if off+1<=cs.length then some (.agg (fill cs off (.sl r i n))) else none:=rfl
def vZ:setPart (.agg cs) off (.lst f n xs)=if off+1<=cs.length then some (.agg (fill cs off (.lst f n xs))) else none:=rfl
def wt(vs:List AV):setPart (.agg cs) off (.agg vs)=if off=0/\vs.length=cs.length then some (.agg vs) else if off+vs.length<=cs.length then some (.agg (fill cs off (.agg vs))) else none:=rfl
def AO(x:Value):setPart (.sc x) 0 (.sc v)=some (.sc v):=by simp[setPart,AV.isAgg,AV.width]
def zh(f':Fl)(n':Nat)(xs':List AV):setPart (.lst f n xs) 0 (.lst f' n' xs')=some (.lst f' n' xs'):=by simp[setPart,AV.isAgg,AV.width]
def sZ:setPart (.lst f n xs) 0 (.sl r i k)=some (.sl r i k):=by simp[setPart,AV.isAgg,AV.width]
def vq(r' i' k':Nat):setPart (.sl r' i' k') 0 (.sl r i k)=some (.sl r i k):=by simp[setPart,AV.isAgg,AV.width]
def HQ:(AV.agg cs).cells=cs:=rfl
def Ra:(AV.sc v).cells=[.sc v]:=rfl
def FN:(AV.lst f n xs).cells=[.lst f n xs]:=rfl
def ME:(AV.sl r i n).cells=[.sl r i n]:=rfl
def MF(f:Nat):(AV.fn f cs).cells=[.fn f cs]:=rfl
def HD:(AV.agg cs).width=cs.length:=rfl
def Pb:(AV.sc v).width=1:=rfl
def Ha:(AV.lst f n xs).width=1:=rfl
def Nm:(AV.sl r i n).width=1:=rfl
def Rk(f:Nat):(AV.fn f cs).width=1:=rfl
def Tq(v:AV):fill cs off v=cs.take off++v.cells++cs.drop (off+v.cells.length):=rfl
def Gh:lK cs []=cs:=rfl
def Dp(v:AV)(l:List (Nat×AV)):lK cs ((off,v)::l)=lK (fill cs off v) l:=rfl
def WA(rs:List RV):fin rs res .ret σ=opt (RVs.val σ rs) fun xs=>(aP xs).Nodup/\lift σ.row 3 (hJ xs)=res:=by
 simp only[fin,opt];cases RVs.val σ rs<;>simp
def Wq(rs:List RV):fin rs res .nrm σ=opt (RVs.val σ rs) fun xs=>(aP xs).Nodup/\lift σ.row 3 (hJ xs)=res:=by
 simp only[fin,opt];cases RVs.val σ rs<;>simp
def aao(o:Option Row)(k:Nat)(ag:Bool):Option AV:=match o with
 |some (.var y)=>part y 0 k ag
 |_=>none
def rvC(σ:St)(a:AV)(k:Nat)(ag:Bool):Option AV:=match a with
 | .pt r 0 0=>aao (σ.row r) k ag
 |_=>none
def rv_t:RV.val σ (.t n)=some (σ.get n):=rfl
def rv_c:RV.val σ (.c n k ag)=rvC σ (σ.get n) k ag:=by simp only[RV.val];rfl
def ZE:rvC σ (.pt r 0 0) k ag=aao (σ.row r) k ag:=rfl
def Mn:aao (some (.var y)) k ag=part y 0 k ag:=rfl
def Yx(x:Option AV)(xs:Option (List AV)):Option (List AV):=match x,xs with
 |some x,some xs=>some (x::xs)
 |_,_=>none
def Vt:RVs.val σ []=some []:=rfl
def KF(r:RV)(rs:List RV):RVs.val σ (r::rs)=Yx (r.val σ) (RVs.val σ rs):=by simp only[RVs.val];rfl
def Dq(x:AV):Yx (some x) (some xs)=some (x::xs):=rfl
def Lh(x:AV):hJ [x]=x:=rfl
def RM(x:AV)(l:List AV):hJ (x::y::l)=.tup (x::y::l):=rfl
def OH(args:List AV):St.start args=⟨St.start.go 0 args,[]⟩:=rfl
def FS:St.start.go n []=[]:=rfl
def Cg(a:AV)(l:List AV):St.start.go n (a::l)=(n,a)::St.start.go (n+1) l:=rfl
theorem aY(a:ar)(rs:List RV)(args:List AV):VT ok a rs args res=AWP ok a (fin rs res) (St.start args):=rfl
def fl1:Fl.als .u=.m:=rfl
def fl2:Fl.als .o=.o:=rfl
def fl3:Fl.als .s=.s:=rfl
def fl4:Fl.als .m=.m:=rfl
def fl5:Fl.fix .u=.u:=rfl
def fl6:Fl.fix .o=.s:=rfl
def fl7:Fl.fix .s=.s:=rfl
def fl8:Fl.fix .m=.m:=rfl
def rY{α β:Type}(f:α->β)(x:α)(l:List α):(x::l).map f=f x::l.map f:=rfl
def tT{α β:Type}(f:α->β):[].map f=[]:=rfl
def JN{α:Type}(l:List α):l++[]=l:=List.append_nil l
def uU{α:Type}(l:List α):[]++l=l:=rfl
def re{α:Type}(x:α)(k l:List α):(x::k)++l=x::(k++l):=rfl
def Cz{α:Type}(x:α)(l:List α):(x::l).length=l.length+1:=rfl
def Gp{α:Type}:([]:List α).length=0:=rfl
def tY{α β:Type}(f:α->β)(l:List α):(l.map f).length=l.length:=List.length_map ..
def YE{α:Type}(x:α)(l:List α):(x::l)[0]?=some x:=rfl
def aab{α:Type}(x:α)(l:List α):(x::l)[n+1]?=l[n]?:=rfl
def LY{α β:Type}(f:α->β)(l:List α):(l.map f)[n]?=(l[n]?).map f:=List.getElem?_map ..
def Ce{α β:Type}(f:α->β)(x:α):(some x).map f=some (f x):=rfl
def BE{α β:Type}(f:α->β):(none:Option α).map f=none:=rfl
def Rj{α:Type}(l:List α):l.take 0=[]:=rfl
def RC{α:Type}(x:α)(l:List α):(x::l).take (n+1)=x::l.take n:=rfl
def PJ{α:Type}(l:List α):l.drop 0=l:=rfl
def Lb{α:Type}(x:α)(l:List α):(x::l).drop (n+1)=l.drop n:=rfl
def QS{α:Type}:([]:List α).drop n=[]:=List.drop_nil
def RJ{α:Type}:([]:List α).take n=[]:=List.take_nil
def Uz(l:List Int):u8s (l.map AV.u8)=some l:=by induction l<;>simp_all [u8s]
def BN:((n:Int)).toNat=n:=rfl
def PW{ok:Oks}{a:ar}{Q:Ex->St->Prop}{σ:St}(I:St->Prop)(μ:St->Nat)(h0:σ.resOk lv lr)(h1:I (σ.res lv lr))(h2:∀τ,I τ->AWP ok a (thn (fun τ'=>τ'.resOk lv lr/\I (τ'.res lv lr)/\μ (τ'.res lv lr)<μ τ) Q) τ):AWP ok (.loop a) Q σ:=by
 simp only[AWP];exact⟨lv,lr,I,μ,h0,h1,h2⟩
def Qo{ok:Oks}{ρ:Nat->Option Row}{d f:Nat}{args:List AV}{K:AV->List (Nat×Row)->Prop}{res:AV}(h:ok.p f (args.map (snp ρ 4)) res)(hu:res.allU)(hn:∀p∈(adopt 4 d res).2.1,ρ p.1=none/\p.1<1000000000)(hk:K (adopt 4 d res).1 (adopt 4 d res).2.1):gE ok ρ d f args K:=⟨res,h,.inl hu,hn,hk⟩
def Ny{ok:Oks}{ρ:Nat->Option Row}{d f:Nat}{args:List AV}{K:AV->List (Nat×Row)->Prop}{v:Value}(h:ok.p f (args.map (snp ρ 4)) (.sc v))(hk:K (.sc v) []):gE ok ρ d f args K:=⟨.sc v,h,.inl (by simp[AV.allU]),by simp[mL],by simpa[mL] using hk⟩
def kn{ok:Oks}{ρ:Nat->Option Row}{d f:Nat}{args:List AV}{rs:List Nat}{K:AV->List (Nat×Row)->Prop}{res:AV}{outs:List (Nat×Row)}(h:ok.m f (args.map (AV.rg (cnm rs))) (rs.map (gQ ρ rs)) res outs)(h1:rs.Nodup/\(∀r∈rs,cH (ρ r))/\(∀r∈rs,∀q∈lR (ρ r),q∈rs)/\(∀r∈aP args,r∈rs))(h2:(outs.map fun p=>bkn d rs p.1).Nodup/\(∀p∈outs,1000000000<=p.1->p.1-1000000000<rs.length)/\(∀p∈outs,p.1<1000000000->ρ (bkn d rs p.1)=none/\bkn d rs p.1<1000000000))(hk:K (res.rg (bkn d rs)) (ck rs++outs.map (dA d rs))):callM ok ρ d f args rs K:=⟨res,outs,h,h1,h2,hk⟩
def ia{α:Type}{e:α->AV}(h:∀x,(e x).fz=true)(xs:List α):fzL (xs.map e)=true:=by induction xs<;>simp_all [fzL]
def gV{α:Type}{e:α->AV}(h:∀x,(e x).ouB=true)(xs:List α):gj (xs.map e)=true:=by induction xs<;>simp_all [gj]
def XX{ok:Oks}{K:St->Prop}{τ:St}{t n k d f:Nat}{xs:List X}{r i off:Nat}{es:List AV}{y:AV}{ys:List AV}{v:Value}{ys':List AV}{z:AV}(h:ok.m f (xs.map (sV τ t ys.length)) [(1000000000,.arr k ys)] (.sc v) [(1000000000,.arr k ys')])(hfl:ys.all AV.flat=true)(hfz:τ.fz=true)(harg:∀x∈xs,vB τ t x)(hfl':ys'.all AV.flat=true)(hz:setPart y off (.lst .u k ys')=some z)(hk:K (τ.app (some d) (.sc v) [(r,.arr n (es.set i z))])):adx ok K τ t n k d f xs r i off es y ys:=⟨hfl,hfz,harg,v,ys',h,hfl',by rw[hz];exact hk⟩
def ZI{A B:Prop}(a:A)(b:B):A/\B:=⟨a,b⟩
def VS1:=ZI @jg (ZI @jk (ZI @gt (ZI @aco (ZI @Sj (ZI @aef (ZI @Sn (ZI @aaa (ZI @acf (ZI @aay (ZI @Gt (ZI @adb (ZI @GP (ZI @Sl (ZI @Kq (ZI @Re (ZI @Pn (ZI @UY (ZI @BF (ZI @mL (ZI @EB (ZI @DP (ZI @Em (ZI @Fp (ZI @ua (ZI @ug (ZI @ud (ZI @sk (ZI @cM (ZI @fu (ZI @fw (ZI @aaf (ZI @eb (ZI @fj (ZI @fl (ZI @eJ (ZI @eV (ZI @eW (ZI @fK (ZI @fJ (ZI @eX (ZI @HP (ZI @GA (ZI @uG (ZI @ol (ZI @nS (ZI @kN (ZI @AQ (ZI @Ij (ZI @Hd (ZI @FO (ZI @CE (ZI @qV (ZI @So (ZI @c_eq (ZI @afd (ZI @acl (ZI @Vv (ZI @Ro (ZI @adg (ZI @YC (ZI @TK (ZI @WK (ZI @Pd (ZI @LH (ZI @Kj (ZI @ady (ZI @abz (ZI @aai (ZI @afx (ZI @afj (ZI @afu (ZI @afw (ZI @YP (ZI @acm (ZI @aet (ZI @agn (ZI @Wd (ZI @mt (ZI @XK (ZI @PQ (ZI @XV (ZI @XD (ZI @Ql @RB)))))))))))))))))))))))))))))))))))))))))))))))))))))))))))))))))))))))))))))))))))
def VS2:=ZI @Ye (ZI @Kh (ZI @XL (ZI @Yq (ZI @EC (ZI @DK (ZI @zD (ZI @zK (ZI @Lv (ZI @Pm (ZI @NV (ZI @xu (ZI @BL (ZI @AY (ZI @EG (ZI @DS (ZI @aac (ZI @Xe (ZI @YD (ZI @Zj (ZI @Tf (ZI @Up (ZI @YY (ZI @Wx (ZI @Zu (ZI @acn (ZI @Qk (ZI @Uy (ZI @Uq (ZI @Mf (ZI @WB (ZI @RH (ZI @ada (ZI @Zf (ZI @aee (ZI @Qr (ZI @Oy (ZI @agz (ZI @aba (ZI @Tl (ZI @WE (ZI @Kv (ZI @TZ (ZI @Uh (ZI @adq (ZI @UZ (ZI @Tc (ZI @acd (ZI @Wr (ZI @aby (ZI @PU (ZI @Sp (ZI @Xq (ZI @Gu (ZI @UV (ZI @IR (ZI @Va (ZI @CN (ZI @AP (ZI @Ez (ZI @aez (ZI @QL (ZI @QO (ZI @PY (ZI @yd (ZI @za (ZI @OJ (ZI @Hn (ZI @FR (ZI @wD (ZI @LM (ZI @vC (ZI @RK (ZI @Gs (ZI @SP (ZI @Xh (ZI @TI (ZI @Sf (ZI @aam (ZI @ZN (ZI @ZR (ZI @Sx (ZI @WR (ZI @Tv @abr)))))))))))))))))))))))))))))))))))))))))))))))))))))))))))))))))))))))))))))))))))
def VS3:=ZI @acj (ZI @YV (ZI @PB (ZI @KW (ZI @WH (ZI @UR (ZI @abe (ZI @aec (ZI @Ww (ZI @abw (ZI @aaz (ZI @abg (ZI @RS (ZI @Us (ZI @Tp (ZI @VW (ZI @YQ (ZI @Ty (ZI @Qd (ZI @FF (ZI @Uv (ZI @adm (ZI @Lu (ZI @aei (ZI @Vx (ZI @bV_i (ZI @Ub (ZI @Uj (ZI @UK (ZI @TE (ZI @Vk (ZI @aae (ZI @WI (ZI @abi (ZI @YM (ZI @TT (ZI @VE (ZI @aav (ZI @MG (ZI @Wp (ZI @aft (ZI @afa (ZI @aga (ZI @aeo (ZI @TD (ZI @VO (ZI @LC (ZI @PE (ZI @Td (ZI @UH (ZI @VL (ZI @OA (ZI @OC (ZI @Vr (ZI @Gv (ZI @KL (ZI @Kd (ZI @Xg (ZI @WN (ZI @Li (ZI @SB (ZI @Ti (ZI @NY (ZI @NU (ZI @TY (ZI @Ug (ZI @Zp (ZI @Wy (ZI @Yz (ZI @Xp (ZI @VY (ZI @Mr (ZI @UT (ZI @JL (ZI @WY (ZI @UQ (ZI @Pt (ZI @Wk (ZI @Uw (ZI @TM (ZI @acs (ZI @acv @Js)))))))))))))))))))))))))))))))))))))))))))))))))))))))))))))))))))))))))))))))))
def VS4:=ZI @VX (ZI @Kb (ZI @Tb (ZI @JV (ZI @Wz (ZI @Gi (ZI @SR (ZI @WX (ZI @FQ (ZI @Vb (ZI @Xb (ZI @GB (ZI @Xa (ZI @We (ZI @Ws (ZI @LE (ZI @Vn (ZI @Gj (ZI @SS (ZI @CR (ZI @Hw (ZI @Rr (ZI @Rl (ZI @yC (ZI @Iq (ZI @Nr (ZI @Vf (ZI @UD (ZI @aap (ZI @agh (ZI @ZM (ZI @ahb (ZI @TA (ZI @Uk (ZI @Ut (ZI @VI (ZI @SC (ZI @WD (ZI @abc (ZI @Vw (ZI @Bv (ZI @Um (ZI @VM (ZI @TG (ZI @UL (ZI @TL (ZI @WM (ZI @Wn (ZI @UM (ZI @aew (ZI @aej (ZI @Mh (ZI @Rf (ZI @Ke (ZI @acb (ZI @YK (ZI @KS (ZI @Gc (ZI @BP (ZI @CH (ZI @Wj (ZI @Su (ZI @Uo (ZI @RT (ZI @HC (ZI @VU (ZI @Ri (ZI @Na (ZI @adj (ZI @aed (ZI @Oa (ZI @RQ (ZI @VZ (ZI @SV (ZI @EN (ZI @Xk (ZI @Ju (ZI @GI (ZI @HY (ZI @IG (ZI @MU (ZI @UF @QD)))))))))))))))))))))))))))))))))))))))))))))))))))))))))))))))))))))))))))))))))
def VS5:=ZI @Jx (ZI @Hf (ZI @Xi (ZI @Mm (ZI @acy (ZI @abl (ZI @abp (ZI @ack (ZI @adu (ZI @abx (ZI @Gy (ZI @Vj (ZI @QT (ZI @OX (ZI @HT (ZI @Qv (ZI @FH (ZI @Ku (ZI @FJ (ZI @HW (ZI @WO (ZI @My (ZI @abk (ZI @YO (ZI @YW (ZI @NX (ZI @HU (ZI @Ob (ZI @Ji (ZI @LP (ZI @HG (ZI @Rh (ZI @Ch (ZI @BR (ZI @Cy (ZI @Bl (ZI @KH (ZI @FP (ZI @II (ZI @Ck (ZI @GJ (ZI @BC (ZI @abf (ZI @aad (ZI @YS (ZI @adn (ZI @TP (ZI @Lz (ZI @Ka (ZI @Kz (ZI @TC (ZI @Md (ZI @abb (ZI @aax (ZI @ZV (ZI @Zi (ZI @ads (ZI @gx_t (ZI @gx_c (ZI @zy (ZI @xN (ZI @qq (ZI @oA (ZI @Si (ZI @Po (ZI @Hq (ZI @ER (ZI @yD (ZI @SO (ZI @LX (ZI @getD_some (ZI @GT (ZI @Mt (ZI @LI (ZI @MN (ZI @FU (ZI @aaw (ZI @MZ (ZI @JQ (ZI @HF (ZI @Df (ZI @Mj (ZI @QH (ZI @GW @BX)))))))))))))))))))))))))))))))))))))))))))))))))))))))))))))))))))))))))))))))))))
def VS6:=ZI @CV (ZI @xS (ZI @TN (ZI @Lk (ZI @JG (ZI @Kx (ZI @Pr (ZI @Ja (ZI @Rd (ZI @Kk (ZI @Ho (ZI @OB (ZI @Hz (ZI @Cm (ZI @wZ (ZI @BO (ZI @FV (ZI @vQ (ZI @yq (ZI @vZ (ZI @wt (ZI @AO (ZI @zh (ZI @sZ (ZI @vq (ZI @HQ (ZI @Ra (ZI @FN (ZI @ME (ZI @MF (ZI @HD (ZI @Pb (ZI @Ha (ZI @Nm (ZI @Rk (ZI @Tq (ZI @Gh (ZI @Dp (ZI @WA (ZI @Wq (ZI @rv_t (ZI @rv_c (ZI @ZE (ZI @Mn (ZI @Vt (ZI @KF (ZI @Dq (ZI @Lh (ZI @RM (ZI @OH (ZI @FS (ZI @Cg (ZI @aY (ZI @fl1 (ZI @fl2 (ZI @fl3 (ZI @fl4 (ZI @fl5 (ZI @fl6 (ZI @fl7 (ZI @fl8 (ZI @rY (ZI @tT (ZI @JN (ZI @uU (ZI @re (ZI @Cz (ZI @Gp (ZI @tY (ZI @YE (ZI @aab (ZI @LY (ZI @Ce (ZI @BE (ZI @Rj (ZI @RC (ZI @PJ (ZI @Lb (ZI @QS (ZI @RJ (ZI @Uz @BN))))))))))))))))))))))))))))))))))))))))))))))))))))))))))))))))))))))))))))))))
def VA:=ZI @gt (ZI @mL (ZI @EB (ZI @DP (ZI @Em (ZI @Fp (ZI @ua (ZI @ug (ZI @ud (ZI @sk (ZI @eJ (ZI @eV (ZI @eW (ZI @eX (ZI @uG (ZI @kN (ZI @qV (ZI @LH (ZI @Kj (ZI @mt (ZI @XK (ZI @PQ (ZI @XV (ZI @XD (ZI @Ql (ZI @RB (ZI @Ye (ZI @Kh (ZI @XL (ZI @Yq (ZI @EC (ZI @DK (ZI @zD (ZI @zK (ZI @Lv (ZI @Pm (ZI @xu (ZI @EG (ZI @DS (ZI @Ez (ZI @EN (ZI @zy (ZI @xN (ZI @qq (ZI @oA (ZI @ER (ZI @yD (ZI @fl5 (ZI @fl6 (ZI @fl7 (ZI @fl8 (ZI @rY (ZI @tT (ZI @uU (ZI @re (@tY)))))))))))))))))))))))))))))))))))))))))))))))))))))))
end Vs

