/-
  Part of the proof that the law FnCompatible returns true at every input; no condition beside the row's own.
-/
import Derived.Calls
import Derived.Below
set_option linter.defProp false
set_option linter.unusedSimpArgs false
set_option linter.unusedVariables false
namespace Vs
open Go
inductive Fl where|o|s|m|u
 deriving DecidableEq
def Fl.als:Fl->Fl
 | .u=>.m
 |f=>f
def Fl.fix:Fl->Fl
 | .o=>.s
 |f=>f
inductive AV where
 |sc (v:Value)
 |lst (f:Fl) (n:Nat) (xs:List AV)
 |tg (f:Fl) (n:Nat) (xs:List AV)
 |agg (cs:List AV)
 |bp (f:Fl) (x:AV) (off:Nat)
 |sl (r i n:Nat)
 |pt (r i off:Nat)
 |fn (f:Nat) (cs:List AV)
 |tup (vs:List AV)
 |ub
 |top
instance:Inhabited AV:=⟨.top⟩
abbrev AV.i(n:Int):AV:=.sc (.int .i64 n)
abbrev AV.u8(n:Int):AV:=.sc (.int .u8 n)
abbrev AV.u64(n:Int):AV:=.sc (.int .u64 n)
abbrev AV.b(b:Bool):AV:=.sc (.bool b)
abbrev AV.z(s:ByteArray):AV:=.sc (.string s)
def AV.width:AV->Nat
 | .agg cs=>cs.length
 | .top=>0
 | .tup _=>0
 |_=>1
def AV.isAgg:AV->Bool
 | .agg _=>true
 |_=>false
def AV.cells:AV->List AV
 | .agg cs=>cs
 | .top=>[]
 | .tup _=>[]
 |x=>[x]
mutual
def AV.nrm:AV->AV
 | .sc v=>.sc v
 | .lst _ n xs=>.lst .o n (gW xs)
 | .tg _ n xs=>.lst .o n (gW xs)
 | .agg cs=>.agg (gW cs)
 | .bp _ x off=>.bp .o x.nrm off
 | .fn f cs=>.fn f (gW cs)
 |_=>.top
def gW:List AV->List AV
 |[]=>[]
 |c::cs=>c.nrm::gW cs
end
mutual
def AV.als:AV->AV
 | .sc v=>.sc v
 | .lst f n xs=>.lst f.als n (dw xs)
 | .agg cs=>.agg (dw cs)
 |_=>.top
def dw:List AV->List AV
 |[]=>[]
 |c::cs=>c.als::dw cs
end
mutual
def AV.fix:AV->AV
 | .sc v=>.sc v
 | .lst f n xs=>.lst f.fix n (gb xs)
 | .agg cs=>.agg (gb cs)
 | .tup cs=>.tup (gb cs)
 | .fn f cs=>.fn f (gb cs)
 |_=>.top
def gb:List AV->List AV
 |[]=>[]
 |c::cs=>c.fix::gb cs
end
mutual
def AV.ments:AV->List Nat
 | .sl r _ _=>[r]
 | .pt r _ _=>[r]
 | .agg cs=>aO cs
 | .fn _ cs=>aO cs
 | .tup cs=>aO cs
 |_=>[]
def aO:List AV->List Nat
 |[]=>[]
 |c::cs=>c.ments++aO cs
end
mutual
def AV.allU:AV->Prop
 | .sc _=>True
 | .lst f _ xs=>f=.u/\jM xs
 | .agg cs=>jM cs
 | .tup cs=>jM cs
 |_=>False
def jM:List AV->Prop
 |[]=>True
 |c::cs=>c.allU/\jM cs
end
mutual
def AV.allO:AV->Prop
 | .sc _=>True
 | .lst f _ xs=>f=.o/\nj xs
 | .agg cs=>nj cs
 | .tup cs=>nj cs
 |_=>False
def nj:List AV->Prop
 |[]=>True
 |c::cs=>c.allO/\nj cs
end
mutual
def AV.ou:AV->Prop
 | .sc _=>True
 | .lst f _ xs=>(f=.u/\ouL xs)\/(f=.o/\nj xs)
 | .agg cs=>ouL cs
 | .tup cs=>ouL cs
 |_=>False
def ouL:List AV->Prop
 |[]=>True
 |c::cs=>c.ou/\ouL cs
end
mutual
def AV.noU:AV->Prop
 | .sc _=>True
 | .lst f _ xs=>f≠.u/\xX xs
 | .agg cs=>xX cs
 | .tup cs=>xX cs
 |_=>False
def xX:List AV->Prop
 |[]=>True
 |c::cs=>c.noU/\xX cs
end
def sub(es:List AV)(i n:Nat):List AV:=if i=0/\n=es.length then es else(es.drop i).take n
def dI{α:Type}(es:List α)(i:Nat)(ys:List α):List α:=if i+ys.length<=es.length then es.take i++ys++es.drop (i+ys.length) else es
inductive Row where
 |var (x:AV)
 |arr (n:Nat) (es:List AV)
 |dead
def cQ:Option Row->Prop
 |some (.var _)=>True
 |some (.arr _ _)=>True
 |_=>False
def aG{α:Type}(k:Nat):List (Nat×α)->Option α
 |[]=>none
 |(j,x)::l=>if j=k then some x else aG k l
def put{α:Type}(k:Nat)(x:α):List (Nat×α)->List (Nat×α)
 |[]=>[(k,x)]
 |(j,y)::l=>if j=k then(k,x)::l else(j,y)::put k x l
def ny(o:Option Row)(i n:Nat):AV:=match o with
 |some (.arr w es)=>.lst .o w (gW (sub es i n))
 |_=>.top
def lm(h:AV->AV)(o:Option Row)(i off:Nat):AV:=match o with
 |some (.var y)=>if i=0 then .bp .o (h y) off else .top
 | some (.arr _ es) => match es[i]? with
   |some y=>.bp .o y.nrm off
   |none=>.top
 |_=>.top
def snp(ρ:Nat->Option Row):Nat->AV->AV
 |0,_=>.top
 | k + 1, x => match x with
   | .sl r i n=>ny (ρ r) i n
   | .pt r i off=>lm (snp ρ k) (ρ r) i off
   | .agg cs=>.agg (cs.map (snp ρ k))
   | .fn f cs=>.fn f (cs.map (snp ρ k))
   |x=>x.nrm
def kW(o:Option Row)(i n:Nat):AV:=match o with
 |some (.arr w es)=>.lst .u w (sub es i n)
 |_=>.top
def lift(ρ:Nat->Option Row):Nat->AV->AV
 |0,_=>.top
 | k + 1, x => match x with
   | .sl r i n=>kW (ρ r) i n
   | .agg cs=>.agg (cs.map (lift ρ k))
   | .tup cs=>.tup (cs.map (lift ρ k))
   | .sc v=>.sc v
   | .lst f n xs=>.lst f n xs
   |_=>.top
def adopt:Nat->Nat->AV->AV×List (Nat×Row)×Nat
 |0,c,_=>(.top,[],c)
 | k + 1, c, x => match x with
   | .lst .u n es=>(.sl c 0 es.length,[(c,.arr n (gb es))],c+1000)
   | .agg cs=>let(l,u,c):=go k c cs;(.agg l,u,c)
   | .tup cs=>let(l,u,c):=go k c cs;(.tup l,u,c)
   |x=>(x.fix,[],c)
where
 go (k:Nat):Nat->List AV->List AV×List (Nat×Row)×Nat
  |c,[]=>([],[],c)
  | c, x :: xs =>
    let(y,u,c):=adopt k c x;let(ys,us,c):=go k c xs
    (y::ys,u++us,c)
inductive X where
 |t (n:Nat)
 |c (a:AV)
inductive AOp where
 |mv (x:X)
 |pick (c a b:X)
 |alloc (z:AV)
 |box (n:Nat) (x:X)
 |build (z:List AV) (ps:List (Nat×Nat×X))
 |bsl (n:Nat) (fr:Bool) (ps:List X)
 |load (n:Nat) (ag:Bool) (x:X)
 |store (n:Nat) (x v:X)
 |bin (op:BinOp) (x y:X)
 |beq (neg:Bool) (x y:X)
 |un (op:UnOp) (x:X)
 |conv (k:IntKind) (x:X)
 |mkf (f:Nat) (cs:List X)
 |mks (n:Nat) (z:AV) (bytes:Nat) (l c:X)
 |slc (n:Nat) (x:X) (lo hi mx:Option X)
 |slz (x:X) (lo hi:Option X)
 |fad (off:Nat) (x:X)
 |idx (n:Nat) (x i:X)
 |fld (off n:Nat) (ag:Bool) (x:X)
 |stri (x i:X)
 |ext (x:X) (j:Nat)
 |call (f:Nat) (xs:List X)
 |dyn (x:X) (xs:List X)
 |callM (f:Nat) (xs:List X) (rs:List Nat)
 |dynM (x:X) (xs:List X) (rs:List Nat)
 |len (x:X)
 |lenz (x:X)
 |capn (x:X)
 |slg (n:Nat) (x hi:X)
 |apz (n:Nat) (z:AV) (bytes:Nat) (x l:X)
 |b2s (x:X)
 |isn (neg:Bool) (x:X)
 |aeq (neg:Bool) (x y:X)
 |apq (n:Nat) (x y:X)
 |slx (n:Nat) (x:X) (lo hi:Option X)
 |slm (n:Nat) (x lo hi mx:X)
 |clr (n:Nat) (z:AV) (x:X)
 |cpy (n:Nat) (x y:X)
 |ldv (av:List Nat) (n:Nat) (ag:Bool) (x:X)
 |lde (av:List Nat) (n:Nat) (ag:Bool) (x:X)
 |str (n:Nat) (x v:X)
 |lda (n:Nat) (ag:Bool) (x:X)
 |stv (n:Nat) (x v:X)
 |fdv (av:List Nat) (off:Nat) (x:X)
 |idv (av:List Nat) (n:Nat) (x i:X)
 |lnv (av:List Nat) (x:X)
 |stw (r n:Nat) (x v:X)
 |bsm (n:Nat) (ps:List X)
 |app (n bytes:Nat) (mv:Bool) (x y:X)
 |nilc (x:X)
 |mn (x y:X)
 |mx (x y:X)
 |bad
structure bd where
 d:Option Nat
 op:AOp
 gd:Option (Nat×Bool)
inductive HOp where
 |inn (t n k:Nat) (x:X) (mids:List (Nat×X)) (d f:Nat) (xs:List X)
 |har (d f:Nat) (xs:List X) (rs:List Nat)
inductive Can where
 |s (d:Nat)
 |f (far:Bool) (d r j:Nat)
 |r (d:Nat)
 |z (d:Nat)
 |e (far:Bool) (d k j:Nat)
 |w (r:Nat)
inductive ar where
 |skip
 |reg (ops:List bd) (can:List Can)
 |drw (ops:List bd) (can:List Can)
 |seq (a b:ar)
 |seqr (a:ar) (lv lr:List Nat) (b:ar)
 |seqa (x a:ar) (lv lr:List Nat) (b:ar)
 |seqb (a:ar) (lv:List Nat) (b:ar)
 |cond (x:X) (a b:ar)
 |blk (id:Nat) (a:ar)
 |loop (a:ar)
 |exit (id:Nat)
 |ret
structure St where
 env:List (Nat×AV)
 rows:List (Nat×Row)
def St.get(σ:St)(k:Nat):AV:=(aG k σ.env).getD .top
def St.row(σ:St)(r:Nat):Option Row:=aG r σ.rows
def St.gx(σ:St):X->AV
 | .t n=>σ.get n
 | .c a=>a
def bn(l:List (Nat×Row))(rows:List (Nat×Row)):List (Nat×Row):=l.foldl (fun rs p=>put p.1 p.2 rs) rows
def St.app(σ:St)(d:Option Nat)(v:AV)(u:List (Nat×Row)):St:=
 {env:=match d with|some d=>put d v σ.env|none=>σ.env,rows:=bn u σ.rows}
def St.know(σ:St)(s:Nat)(b:Bool):St:={σ with env:=put s (.b b) σ.env}
def I64(n:Int):Prop:=-9223372036854775808<=n/\n<=9223372036854775807
def fill(cs:List AV)(off:Nat)(v:AV):List AV:=cs.take off++v.cells++cs.drop (off+v.cells.length)
def kF:List AV->List (Nat×AV)->List AV
 |cs,[]=>cs
 |cs,(off,v)::l=>kF (fill cs off v) l
def part(x:AV)(off n:Nat)(ag:Bool):Option AV:=
 if ag then(if x.isAgg=true/\off+n<=x.width then some (if off=0/\n=x.width then .agg x.cells else .agg ((x.cells.drop off).take n)) else none)
 else x.cells[off]?
def setPart(x:AV)(off:Nat)(v:AV):Option AV:=
 if x.isAgg=true then
  (if v.isAgg=true then(if off=0/\v.width=x.width then some v else if off+v.width<=x.width then some (.agg (fill x.cells off v)) else none)
   else if off+1<=x.width then some (.agg (fill x.cells off v)) else none)
 else if off=0/\v.isAgg=false/\x.width=1 then some v else none
def bits(op:BinOp)(k:IntKind)(x y:Int):Int:=
 let a:=BitVec.ofInt k.bits x;let b:=BitVec.ofInt k.bits y
 k.wrap (match op with| .and=>(a &&& b).toNat| .or=>(a ||| b).toNat| .xor=>(a ^^^ b).toNat|_=>(a &&& ~~~b).toNat)
def ofI(k:IntKind)(n:Int)(K:AV->Prop):Prop:=K (.sc (.int k (k.wrap n)))
def dF(op:BinOp)(k:IntKind)(a b:Int)(K:AV->Prop):Prop:=
 match op with
 | .add=>ofI k (a+b) K
 | .sub=>ofI k (a-b) K
 | .mul=>ofI k (a*b) K
 | .quo=>b≠0/\ofI k (a.tdiv b) K
 | .rem=>b≠0/\K (.sc (.int k (a.tmod b)))
 | .and=>K (.sc (.int k (bits .and k a b)))
 | .or=>K (.sc (.int k (bits .or k a b)))
 | .xor=>K (.sc (.int k (bits .xor k a b)))
 | .andNot=>K (.sc (.int k (bits .andNot k a b)))
 | .eql=>K (.b (a==b))
 | .neq=>K (.b (a !=b))
 | .lss=>K (.b (decide (a<b)))
 | .leq=>K (.b (decide (a<=b)))
 | .gtr=>K (.b (decide (a>b)))
 | .geq=>K (.b (decide (a>=b)))
 |_=>False
def eE(op:BinOp)(k:IntKind)(a y:Int)(K:AV->Prop):Prop:=
 0<=y/\match op with
 | .shl=>ofI k (a*2^(min y.toNat k.bits)) K
 | .shr=>K (.sc (.int k (a.fdiv (2^(min y.toNat k.bits)))))
 |_=>False
def dg(op:BinOp)(x y:AV)(K:AV->Prop):Prop:=
 match x,y with
 | .sc (.int k a), .sc (.int k' b) =>
   match op with
   | .shl=>eE .shl k a b K
   | .shr=>eE .shr k a b K
   |op=>k=k'/\dF op k a b K
 | .sc (.string a), .sc (.string b) =>
   match op with
   | .add=>a.size+b.size<=9223372036854775807/\K (.z (a++b))
   | .eql=>K (.b (a.toList==b.toList))
   | .neq=>K (.b (!(a.toList==b.toList)))
   |_=>False
 |_,_=>False
def unV(op:UnOp)(x:AV)(K:AV->Prop):Prop:=
 match op,x with
 | .neg,.sc (.int k n)=>ofI k (0-n) K
 | .not,.sc (.bool b)=>K (.b (!b))
 |_,_=>False
def bX(rs:List Nat):List (Nat×Row):=rs.map fun r=>(r,.dead)
def ly(n:Nat)(o:Option Row)(i k:Nat):Option (List AV):=match o with
 |some (.arr w es)=>if w=n then some (dw (sub es i k)) else none
 |_=>none
def dJ(n:Nat)(ρ:Nat->Option Row):AV->Option (List AV)
 | .lst _ w xs=>if w=n then some xs else none
 | .tg _ w xs=>if w=n then some xs else none
 | .sl r i k=>ly n (ρ r) i k
 |_=>none
def tM(n r m:Nat)(o:Option Row):Option (List AV×List (Nat×Row)):=match o with
 |some (.arr w ys)=>if w=n/\m=ys.length then some (ys,[(r,.dead)]) else none
 |_=>none
def kH(o:Option (List AV)):Option (List AV×List (Nat×Row)):=match o with
 |some ys=>some (ys,[])
 |none=>none
def lD(ρ:Nat->Option Row)(n:Nat)(mv:Bool)(y:AV):Option (List AV×List (Nat×Row)):=match mv,y with
 |true,.sl r 0 m=>tM n r m (ρ r)
 |_,y=>kH (dJ n ρ y)
def bOk(o:Option AV):Prop:=match o with
 |none=>True
 |some (.sc (.int _ n))=>0<=n
 |_=>False
def bV(o:Option AV)(dflt:Nat):Nat:=match o with
 |some (.sc (.int _ n))=>n.toNat
 |_=>dflt
def u8s:List AV->Option (List Int)
 |[]=>some []
 | .sc (.int .u8 n) :: xs => match u8s xs with
   |some ns=>some (n::ns)
   |none=>none
 |_=>none
def b2s(ns:List Int):ByteArray:=ns.foldl (fun r n=>r.push (UInt8.ofNat n.toNat)) ByteArray.empty
def opt{α:Type}(o:Option α)(K:α->Prop):Prop:=match o with
 |some v=>K v
 |none=>False
section
variable(K:AV->List (Nat×Row)->Prop)
def k1(v:AV):Prop:=K v []
def kJ(c a b:AV):Prop:=match c with
 | .sc (.bool t)=>(t=true->K a [])/\(t=false->K b [])
 |_=>False
def MU(off n:Nat)(ag:Bool)(y:AV):Prop:=opt (part y.als off n ag) (k1 K)
def dE(o:Option Row)(i off n:Nat)(ag:Bool):Prop:=match o with
 |some (.var y)=>i=0/\opt (part y off n ag) (k1 K)
 |some (.arr _ es)=>opt es[i]? (MU K off n ag)
 |_=>False
def dA(ρ:Nat->Option Row)(n:Nat)(ag:Bool)(x:AV):Prop:=match x with
 | .bp _ y off=>opt (part y off n ag) (k1 K)
 | .pt r i off=>dE K (ρ r) i off n ag
 |_=>False
def FT(r:Nat)(y:AV):Prop:=K .top [(r,.var y)]
def wJ(u:List (Nat×Row))(r w i:Nat)(es:List AV)(y:AV):Prop:=K .top (u++[(r,.arr w (es.set i y))])
def pg(ρ:Nat->Option Row)(r w i off:Nat)(es:List AV)(v y:AV):Prop:=
 r∉v.ments/\v.ments.Nodup/\(lift ρ 2 v).width=v.width/\opt (setPart y off (lift ρ 2 v)) (wJ K (bX v.ments) r w i es)
def di(ρ:Nat->Option Row)(o:Option Row)(r i off:Nat)(v:AV):Prop:=match o with
 |some (.var y)=>i=0/\opt (setPart y off v) (FT K r)
 |some (.arr w es)=>opt es[i]? (pg K ρ r w i off es v)
 |_=>False
def dd(ρ:Nat->Option Row)(n:Nat)(x v:AV):Prop:=match x with
 | .pt r i off=>v.width=n/\di K ρ (ρ r) r i off v
 |_=>False
def iPt(av:List Nat):AV->Prop
 | .sl r _ _=>r∉av
 | .lst _ _ _=>True
 |_=>False
def wO:Option Row->Prop
 |some (.var _)=>True
 |_=>False
def wI:Option Row->Prop
 |some (.arr _ _)=>True
 |_=>False
def lPt(av:List Nat):AV->Prop
 | .pt r _ _=>r∉av
 | .bp _ _ _=>True
 |_=>False
def vPt(av:List Nat)(ρ:Nat->Option Row):AV->Prop
 | .pt r _ _=>r∉av/\wO (ρ r)
 | .bp _ _ _=>True
 |_=>False
def aPt(ρ:Nat->Option Row):AV->Prop
 | .pt r _ _=>wI (ρ r)
 |_=>False
def aPb(ρ:Nat->Option Row):AV->Prop
 | .pt r _ _=>wI (ρ r)
 | .bp _ _ _=>True
 |_=>False
def wPt(r:Nat)(ρ:Nat->Option Row):AV->Prop
 | .pt q _ _=>q=r/\wO (ρ q)
 |_=>False
def vPv(ρ:Nat->Option Row):AV->Prop
 | .pt r _ _=>wO (ρ r)
 |_=>False
def vM(neg:Bool)(x y:AV):Prop:=match x,y with
 | .sc (.bool a),.sc (.bool b)=>K (.sc (.bool (if neg then !(a==b) else(a==b)))) []
 |_,_=>False
def uU(neg:Bool)(x y:AV):Prop:=match x,y with
 | .agg [.sc (.int .i64 a),.sc (.int .i64 b)],.agg [.sc (.int .i64 c),.sc (.int .i64 e)]=>K (.sc (.bool (if neg then !(a==c&&b==e) else(a==c&&b==e)))) []
 |_,_=>False
def pB(k:IntKind)(x:AV):Prop:=match x with
 | .sc (.int _ n)=>K (.sc (.int k (k.wrap n))) []
 |_=>False
def yv(o:Option Row)(d n:Nat)(z:AV)(bytes:Nat)(l c:AV):Prop:=match l,c with
 | .sc (.int .i64 l),.sc (.int .i64 c)=>o=none/\z.width=n/\0<=l/\l<=c/\c*bytes<=140737488355328/\c<=9223372036854775807/\K (.sl d 0 l.toNat) [(d,.arr n (List.replicate l.toNat z))]
 |_,_=>False
def qv(ρ:Nat->Option Row)(n:Nat)(x:AV)(lo hi mx:Option AV):Prop:=match x with
 | .lst f w xs=>w=n/\bOk lo/\bOk hi/\bV lo 0<=bV hi xs.length/\bV hi xs.length<=xs.length/\
  match mx with
  |none=>K (.lst f n (sub xs (bV lo 0) (bV hi xs.length-bV lo 0))) []
  |some m=>hi.isSome/\bOk (some m)/\bV (some m) 0=bV hi xs.length/\K (.tg f n (sub xs (bV lo 0) (bV hi xs.length-bV lo 0))) []
 | .sl r i m=>(∃es,ρ r=some (.arr n es))/\bOk lo/\bOk hi/\bV lo 0<=bV hi m/\bV hi m<=m/\mx=none/\K (.sl r (i+bV lo 0) (bV hi m-bV lo 0)) []
 |_=>False
def Px(x:AV)(lo hi:Option AV):Prop:=match x with
 | .sc (.string s)=>bOk lo/\bOk hi/\bV lo 0<=bV hi s.size/\bV hi s.size<=s.size/\K (.sc (.string (s.extract (bV lo 0) (bV hi s.size)))) []
 |_=>False
def js(ρ:Nat->Option Row)(off:Nat)(x:AV):Prop:=match x with
 | .bp f y o=>K (.bp f y (o+off)) []
 | .pt r i o=>cQ (ρ r)/\K (.pt r i (o+off)) []
 |_=>False
def Tf(f:Fl)(y:AV):Prop:=K (.bp f y 0) []
def iU(ρ:Nat->Option Row)(n:Nat)(x i:AV):Prop:=match x,i with
 | .lst f w xs,.sc (.int _ j)=>w=n/\0<=j/\opt xs[j.toNat]? (Tf K f.als)
 | .sl r a m,.sc (.int _ j)=>(∃es,ρ r=some (.arr n es))/\0<=j/\j<m/\K (.pt r (a+j.toNat) 0) []
 |_,_=>False
def BE(off n:Nat)(ag:Bool)(x:AV):Prop:=x.isAgg=true/\opt (part x off n ag) (k1 K)
def SR(c:UInt8):Prop:=K (.sc (.int .u8 c.toNat)) []
def pW(x i:AV):Prop:=match x,i with
 | .sc (.string s),.sc (.int _ j)=>0<=j/\opt s[j.toNat]? (SR K)
 |_,_=>False
def yF(x:AV)(j:Nat):Prop:=match x with
 | .tup vs=>opt vs[j]? (k1 K)
 |_=>False
def jp(ρ:Nat->Option Row)(x:AV):Prop:=match x with
 | .lst _ _ xs=>K (.i xs.length) []
 | .tg _ _ xs=>K (.i xs.length) []
 | .sl r _ n=>(∃w es,ρ r=some (.arr w es))/\K (.i n) []
 |_=>False
def oE(x:AV):Prop:=match x with
 | .lst .u _ []=>K (.i 0) []
 |_=>False
def xM(n:Nat)(x hi:AV):Prop:=match x,hi with
 | .lst .u w [],.sc (.int _ h)=>w=n/\h=0/\K (.lst .u n []) []
 |_,_=>False
def pP(x:AV):Prop:=match x with
 | .sc (.string s)=>K (.i s.size) []
 |_=>False
def Kg(ns:List Int):Prop:=K (.sc (.string (b2s ns))) []
def An(o:Option Row)(i m:Nat):Prop:=match o with
 |some (.arr w es)=>w=1/\opt (u8s (sub es i m)) (Kg K)
 |_=>False
def OK(ρ:Nat->Option Row)(x:AV):Prop:=match x with
 | .lst _ w xs=>w=1/\opt (u8s xs) (Kg K)
 | .sl r i m=>An K (ρ r) i m
 |_=>False
def vI(o:Option Row)(r n:Nat)(z:AV)(i m:Nat):Prop:=match o with
 |some (.arr w es)=>w=n/\z.width=n/\K (.tup []) [(r,.arr w (dI es i (List.replicate m z)))]
 |_=>False
def DI(ρ:Nat->Option Row)(n:Nat)(z x:AV):Prop:=match x with
 | .sl r i m=>vI K (ρ r) r n z i m
 |_=>False
def vl(o:Option Row)(r n i m:Nat)(ys:List AV):Prop:=match o with
 |some (.arr w es)=>w=n/\K (.i (min ys.length m:Nat)) [(r,.arr w (dI es i (ys.take (min ys.length m))))]
 |_=>False
def CE(ρ:Nat->Option Row)(n:Nat)(x y:AV):Prop:=match x with
 | .sl r i m=>opt (dJ n ρ y) (vl K (ρ r) r n i m)
 |_=>False
def qV(neg e:Bool):Prop:=K (cond e .ub (.b neg)) []
def uw(ρ:Nat->Option Row)(neg:Bool)(x:AV):Prop:=match x with
 | .lst _ _ xs=>qV K neg xs.isEmpty
 | .tg _ _ xs=>qV K neg xs.isEmpty
 | .sl r _ n=>(∃w es,ρ r=some (.arr w es))/\qV K neg (n==0)
 |_=>False
def Nz(o:Option Row)(r n i m:Nat)(ys:List AV):Prop:=match o with
 |some (.arr w es)=>w=n/\i+m+ys.length<=es.length/\K (.sl r i (m+ys.length)) [(r,.arr w (dI es (i+m) ys))]
 |_=>False
def Up(ρ:Nat->Option Row)(n:Nat)(x y:AV):Prop:=match x with
 | .sl r i m=>opt (dJ n ρ y) (Nz K (ρ r) r n i m)
 |_=>False
def vc(o:Option Row)(r n i m:Nat)(lo hi:Option AV):Prop:=match o with
 |some (.arr w es)=>w=n/\bOk lo/\bOk hi/\bV lo 0<=bV hi m/\i+bV hi m<=es.length/\K (.sl r (i+bV lo 0) (bV hi m-bV lo 0)) []
 |_=>False
def Ff(ρ:Nat->Option Row)(n:Nat)(x:AV)(lo hi:Option AV):Prop:=match x with
 | .sl r i m=>vc K (ρ r) r n i m lo hi
 |_=>False
def zI(o:Option Row)(n m:Nat)(lo hi mx:AV):Prop:=match o,lo,hi,mx with
 |some (.arr w _),.sc (.int _ l),.sc (.int _ h),.sc (.int _ q)=>w=n/\0<=l/\l<=h/\h<=q/\q<=(m:Int)/\K .top []
 |_,_,_,_=>False
def Vq(ρ:Nat->Option Row)(n:Nat)(x lo hi mx:AV):Prop:=match x with
 | .sl r _ m=>zI K (ρ r) n m lo hi mx
 |_=>False
def pd(o:Option Row)(d n bytes r i m:Nat)(p:List AV×List (Nat×Row)):Prop:=match o with
 |some (.arr w es)=>w=n/\r∉p.2.map (·.1)/\(m+p.1.length)*bytes<=140737488355328/\K (.sl d 0 (m+p.1.length)) ((r,.dead)::p.2++[(d,.arr n (sub es i m++p.1))])
 |_=>False
def vx(d n bytes w:Nat)(es:List AV)(p:List AV×List (Nat×Row)):Prop:=
 w=n/\0<p.1.length/\(es.length+p.1.length)*bytes<=140737488355328/\K (.sl d 0 (es.length+p.1.length)) (p.2++[(d,.arr n (dw es++p.1))])
def tx(ρ:Nat->Option Row)(d n bytes:Nat)(mv:Bool)(x y:AV):Prop:=match x with
 | .sl r i m=>ρ d=none/\opt (lD ρ n mv y) (pd K (ρ r) d n bytes r i m)
 | .tg _ w es=>ρ d=none/\opt (lD ρ n mv y) (vx K d n bytes w es)
 |_=>False
def DC(o:Option Row)(d n:Nat)(z:AV)(bytes:Nat)(x l:AV):Prop:=match x,l with
 | .lst .u w [],.sc (.int .i64 l)=>o=none/\w=n/\z.width=n/\n=1/\0<l/\l*bytes<=140737488355328/\K (.sl d 0 l.toNat) [(d,.arr n (List.replicate l.toNat z))]
 |_,_=>False
def qG(ρ:Nat->Option Row)(x:AV):Prop:=match x with
 | .bp f y o=>K (.bp f y o) []
 | .pt r i o=>cQ (ρ r)/\K (.pt r i o) []
 |_=>False
def eMn(x y:AV):Prop:=match x,y with
 | .sc (.int k a),.sc (.int k' b)=>k=k'/\K (.sc (.int k (if b<a then b else a))) []
 |_,_=>False
def eMx(x y:AV):Prop:=match x,y with
 | .sc (.int k a),.sc (.int k' b)=>k=k'/\K (.sc (.int k (if a<b then b else a))) []
 |_,_=>False
end
structure Oks where
 p:Nat->List AV->AV->Prop
 m:Nat->List AV->List (Nat×Row)->AV->List (Nat×Row)->Prop
 h:Nat->List AV->List (Nat×Row)->AV->List (Nat×Row)->Prop
mutual
def AV.rg(h:Nat->Nat):AV->AV
 | .sl q i n=>.sl (h q) i n
 | .pt q i o=>.pt (h q) i o
 | .agg cs=>.agg (rgL h cs)
 | .fn f cs=>.fn f (rgL h cs)
 | .tup cs=>.tup (rgL h cs)
 |x=>x
def rgL(h:Nat->Nat):List AV->List AV
 |[]=>[]
 |c::cs=>c.rg h::rgL h cs
end
def Row.rg(h:Nat->Nat):Row->Row
 | .var x=>.var (x.rg h)
 |x=>x
def pos(r:Nat):List Nat->Nat
 |[]=>0
 |x::xs=>if x=r then 0 else pos r xs+1
def cnm(rs:List Nat)(r:Nat):Nat:=1000000000+pos r rs
def bkn(d:Nat)(rs:List Nat)(q:Nat):Nat:=if 1000000000<=q then rs.getD (q-1000000000) 0 else q+100000*(d+1)
def gK(ρ:Nat->Option Row)(rs:List Nat)(r:Nat):Nat×Row:=(cnm rs r,((ρ r).getD .dead).rg (cnm rs))
def ft(d:Nat)(rs:List Nat)(p:Nat×Row):Nat×Row:=(bkn d rs p.1,p.2.rg (bkn d rs))
def mH:Option Row->List Nat
 |some (.var x)=>x.ments
 |_=>[]
section
variable(ok:Oks)
def callM(ρ:Nat->Option Row)(d f:Nat)(args:List AV)(rs:List Nat)(K:AV->List (Nat×Row)->Prop):Prop:=
 ∃ res outs, ok.m f (args.map (AV.rg (cnm rs))) (rs.map (gK ρ rs)) res outs ∧
   (rs.Nodup/\(∀r∈rs,cQ (ρ r))/\(∀r∈rs,∀q∈mH (ρ r),q∈rs)/\(∀r∈aO args,r∈rs))/\
   ((outs.map fun p => bkn d rs p.1).Nodup ∧ (∀ p ∈ outs, 1000000000 ≤ p.1 → p.1 - 1000000000 < rs.length) ∧
     (∀p∈outs,p.1<1000000000->ρ (bkn d rs p.1)=none/\bkn d rs p.1<1000000000))/\
   K (res.rg (bkn d rs)) (bX rs++outs.map (ft d rs))
def pU(ρ:Nat->Option Row)(d:Nat)(x:AV)(xs:List AV)(rs:List Nat)(K:AV->List (Nat×Row)->Prop):Prop:=match x with
 | .fn f cs=>callM ok ρ d f (xs++cs) rs K
 |_=>False
def fT(ρ:Nat->Option Row)(d f:Nat)(args:List AV)(K:AV->List (Nat×Row)->Prop):Prop:=
 ∃ res, ok.p f (args.map (snp ρ 4)) res ∧ (res.allU ∨ aO args = [] ∧ (res.ou ∨ res.noU)) ∧ (∀ p ∈ (adopt 4 d res).2.1, ρ p.1 = none ∧ p.1 < 1000000000) ∧
   K (adopt 4 d res).1 (adopt 4 d res).2.1
def vW(ρ:Nat->Option Row)(d:Nat)(x:AV)(xs:List AV)(K:AV->List (Nat×Row)->Prop):Prop:=match x with
 | .fn f cs=>fT ok ρ d f (xs++cs) K
 |_=>False
def eff(g:X->AV)(ρ:Nat->Option Row)(d:Nat):AOp->(AV->List (Nat×Row)->Prop)->Prop
 | .mv x,K=>K (g x) []
 | .pick c a b,K=>kJ K (g c) (g a) (g b)
 | .alloc z,K=>ρ d=none/\K (.pt d 0 0) [(d,.var z)]
 | .box n x,K=>ρ d=none/\(g x).width=n/\K (.pt d 0 0) [(d,.var (g x))]
 | .build z ps,K=>(∀p∈ps,(g p.2.2).width=p.2.1/\p.1+p.2.1<=z.length)/\K (.agg (kF z (ps.map fun p=>(p.1,g p.2.2)))) []
 | .bsl n fr ps,K=>(fr=true->aO (ps.map g)=[])/\ρ d=none/\(∀p∈ps,(g p).width=n)/\(aO (ps.map g)).Nodup/\
  K (.sl d 0 ps.length) (bX (aO (ps.map g))++[(d,.arr n ((ps.map g).map (lift ρ 2)))])
 | .load n ag x,K=>dA K ρ n ag (g x)
 | .store n x v,K=>dd K ρ n (g x) (g v)
 | .bin op x y,K=>dg op (g x) (g y) (k1 K)
 | .beq neg x y,K=>vM K neg (g x) (g y)
 | .un op x,K=>unV op (g x) (k1 K)
 | .conv k x,K=>pB K k (g x)
 | .mkf f cs,K=>K (.fn f (cs.map g)) []
 | .mks n z bytes l c,K=>yv K (ρ d) d n z bytes (g l) (g c)
 | .slc n x lo hi mx,K=>qv K ρ n (g x) (lo.map g) (hi.map g) (mx.map g)
 | .slz x lo hi,K=>Px K (g x) (lo.map g) (hi.map g)
 | .fad off x,K=>js K ρ off (g x)
 | .idx n x i,K=>iU K ρ n (g x) (g i)
 | .idv av n x i,K=>iPt av (g x)/\iU K ρ n (g x) (g i)
 | .lnv av x,K=>iPt av (g x)/\jp K ρ (g x)
 | .stw r n x v,K=>wPt r ρ (g x)/\dd K ρ n (g x) (g v)
 | .fld off n ag x,K=>BE K off n ag (g x)
 | .stri x i,K=>pW K (g x) (g i)
 | .ext x j,K=>yF K (g x) j
 | .call f xs,K=>fT ok ρ d f (xs.map g) K
 | .dyn x xs,K=>vW ok ρ d (g x) (xs.map g) K
 | .callM f xs rs,K=>callM ok ρ d f (xs.map g) rs K
 | .dynM x xs rs,K=>pU ok ρ d (g x) (xs.map g) rs K
 | .len x,K=>jp K ρ (g x)
 | .lenz x,K=>pP K (g x)
 | .capn x,K=>oE K (g x)
 | .slg n x hi,K=>xM K n (g x) (g hi)
 | .apz n z bytes x l,K=>DC K (ρ d) d n z bytes (g x) (g l)
 | .b2s x,K=>OK K ρ (g x)
 | .isn neg x,K=>uw K ρ neg (g x)
 | .aeq neg x y,K=>uU K neg (g x) (g y)
 | .apq n x y,K=>Up K ρ n (g x) (g y)
 | .slx n x lo hi,K=>Ff K ρ n (g x) (lo.map g) (hi.map g)
 | .slm n x lo hi mx,K=>Vq K ρ n (g x) (g lo) (g hi) (g mx)
 | .clr n z x,K=>DI K ρ n z (g x)
 | .cpy n x y,K=>CE K ρ n (g x) (g y)
 | .ldv av n ag x,K=>vPt av ρ (g x)/\dA K ρ n ag (g x)
 | .lde av n ag x,K=>lPt av (g x)/\dA K ρ n ag (g x)
 | .str n x v,K=>aPt ρ (g x)/\(g v).ments=[]/\dd K ρ n (g x) (g v)
 | .lda n ag x,K=>aPb ρ (g x)/\dA K ρ n ag (g x)
 | .stv n x v,K=>vPv ρ (g x)/\dd K ρ n (g x) (g v)
 | .fdv av off x,K=>vPt av ρ (g x)/\js K ρ off (g x)
 | .bsm n ps,K=>(∀r∈aO (ps.map g),wI (ρ r))/\ρ d=none/\(∀p∈ps,(g p).width=n)/\(aO (ps.map g)).Nodup/\
  K (.sl d 0 ps.length) (bX (aO (ps.map g))++[(d,.arr n ((ps.map g).map (lift ρ 2)))])
 | .app n bytes mv x y,K=>tx K ρ d n bytes mv (g x) (g y)
 | .nilc x,K=>qG K ρ (g x)
 | .mn x y,K=>eMn K (g x) (g y)
 | .mx x y,K=>eMx K (g x) (g y)
 | .bad,_=>False
def eK(σ:St)(s:Nat)(w:Bool)(x:AV)(A B:St->Prop):Prop:=match x with
 | .sc (.bool t)=>(t=w->A (σ.know s w))/\(t=!w->B (σ.know s (!w)))
 | .tup []=>B σ
 |_=>False
def Re(d:Option Nat)(R:St->Prop)(σ:St)(v:AV)(u:List (Nat×Row)):Prop:=R (σ.app d v u)
def xK(d:Option Nat)(o:AOp)(R:St->Prop)(σ:St):Prop:=eff ok σ.gx σ.row (d.getD 0) o (Re d R σ)
def FD(d:Option Nat)(R:St->Prop)(σ:St):Prop:=R (σ.app d (.tup []) [])
def Ta(o:bd)(σ:St)(R:St->Prop):Prop:=
 match o.gd with
 |none=>xK ok o.d o.op R σ
 |some (s,w)=>eK σ s w (σ.get s) (xK ok o.d o.op R) (FD o.d R)
def eC:List bd->(St->Prop)->St->Prop
 |[],K,σ=>K σ
 |o::os,K,σ=>Ta ok o σ (eC os K)
mutual
def AV.fz:AV->Bool
 | .sc _=>true
 | .lst f _ xs=>(match f with| .o=>fzL xs|_=>false)
 | .agg cs=>fzL cs
 | .tup cs=>fzL cs
 | .fn _ cs=>fzL cs
 | .bp f x _=>(match f with| .o=>x.fz|_=>false)
 | .sl _ _ _=>true
 | .pt _ _ _=>true
 | .top=>true
 | .ub=>true
 |_=>false
def fzL:List AV->Bool
 |[]=>true
 |c::cs=>c.fz&&fzL cs
end
mutual
def AV.ouB:AV->Bool
 | .sc _=>true
 | .lst f _ xs=>(match f with| .o=>fzL xs| .u=>cM xs|_=>false)
 | .agg cs=>cM cs
 | .top=>true
 |_=>false
def cM:List AV->Bool
 |[]=>true
 |c::cs=>c.ouB&&cM cs
end
def Row.fz:Row->Bool
 | .var x=>x.fz
 | .arr _ es=>cM es
 | .dead=>true
def St.fz(σ:St):Bool:=σ.env.all (fun p=>p.2.fz)&&σ.rows.all (fun p=>p.2.fz)
def argI(τ:St)(t len:Nat):X->AV
 | .t j=>if j=t then .sl 1000000000 0 len else τ.get j
 | .c a=>a
def EN(τ:St)(t:Nat):X->Prop
 | .t j=>j=t\/(τ.get j).ments=[]
 | .c a=>a.ments=[]
def AV.hush(r:Nat)(a:AV):AV:=if r∈a.ments then .top else a
mutual
def AV.ren(r d:Nat):AV->AV
 | .sl q i n=>.sl (if q=r then d else q) i n
 | .pt q i o=>.pt (if q=r then d else q) i o
 | .agg cs=>.agg (iL r d cs)
 | .fn f cs=>.fn f (iL r d cs)
 | .tup cs=>.tup (iL r d cs)
 |x=>x
def iL(r d:Nat):List AV->List AV
 |[]=>[]
 |c::cs=>c.ren r d::iL r d cs
end
def Row.map(h:AV->AV):Row->Row
 | .var x=>.var (h x)
 |x=>x
def Row.hush(r:Nat):Row->Row
 | .var x=>if r∈x.ments then .dead else .var x
 |x=>x
def del{α:Type}(k:Nat):List (Nat×α)->List (Nat×α)
 |[]=>[]
 |(j,x)::l=>if j=k then del k l else(j,x)::del k l
def St.canSl (σ : St) (d r i n : Nat) : St :=
    if r=d\/1000000000<=r then σ
    else
     { env:=put d (.sl d i n) ((σ.env.map fun p=>(p.1,p.2.hush d)).map fun p=>(p.1,p.2.ren r d)),
       rows:=((del d σ.rows).map fun p=>(p.1,p.2.hush d)).map fun p=>(if p.1=r then d else p.1,p.2.map (·.ren r d))}
def St.canSr (σ : St) (d r i n : Nat) : St :=
    if r=d then σ
    else
     { env:=put d (.sl d i n) ((σ.env.map fun p=>(p.1,p.2.hush d)).map fun p=>(p.1,p.2.ren r d)),
       rows:=((del d σ.rows).map fun p=>(p.1,p.2.hush d)).map fun p=>(if p.1=r then d else p.1,p.2.map (·.ren r d))}
def St.canNil (σ : St) (d n : Nat) : St :=
    { env:=put d (.sl d 0 0) (σ.env.map fun p=>(p.1,p.2.hush d)),
      rows:=put d (.arr n []) ((del d σ.rows).map fun p=>(p.1,p.2.hush d))}
def St.canV(σ:St)(d:Nat)(x:AV):St:=match x with
 | .sl r i n=>σ.canSl d r i n
 | .lst .u n []=>σ.canNil d n
 |_=>σ
def St.canW(σ:St)(d:Nat)(x:AV):St:=match x with
 | .sl r i n=>σ.canSr d r i n
 | .lst .u n []=>σ.canNil d n
 |_=>σ
def St.canZr(σ:St)(d i m:Nat)(r:Nat):Option Row->St
 |some (.arr q es)=>⟨put d (.lst .m q (dw (sub es i m))) σ.env,put r .dead σ.rows⟩
 |_=>σ
def gu:List AV->Nat->AV->List AV
 |[],_,_=>[]
 |_::xs,0,y=>y::xs
 |x::xs,j+1,y=>x::gu xs j y
def St.canZcr(σ:St)(d:Nat)(all:List AV)(j r i m:Nat):Option Row->St
 |some (.arr q es)=>⟨put d (.agg (gu all j (.lst .m q (dw (sub es i m))))) σ.env,put r .dead σ.rows⟩
 |_=>σ
def St.canZc(σ:St)(d:Nat)(all:List AV):Nat->List AV->St
 |_,[]=>σ
 |j,.sl r i m::_=>σ.canZcr d all j r i m (aG r σ.rows)
 |j,_::cs=>σ.canZc d all (j+1) cs
def St.canZ(σ:St)(d:Nat)(x:AV):St:=match x with
 | .sl r i m=>σ.canZr d i m r (aG r σ.rows)
 | .agg cs=>σ.canZc d cs 0 cs
 |_=>σ
def rl:List AV->Nat->AV
 |[],_=>.top
 |x::_,0=>x
 |_::xs,j+1=>rl xs j
def gp(j:Nat):Option Row->AV
 |some (.var (.agg cs))=>rl cs j
 |some (.var (.sl q i m))=>if j=0 then .sl q i m else .top
 |some (.var (.lst f m xs))=>if j=0 then .lst f m xs else .top
 |_=>.top
def St.canFN(σ:St)(d r j m:Nat):Option Row->St
 |some (.var (.agg cs))=>⟨σ.env.map fun p=>(p.1,p.2.hush d),put d (.arr m []) (put r (.var (.agg (gu cs j (.sl d 0 0)))) ((del d σ.rows).map fun p=>(p.1,p.2.hush d)))⟩
 |some (.var (.lst .u _ []))=>⟨σ.env.map fun p=>(p.1,p.2.hush d),put d (.arr m []) (put r (.var (.sl d 0 0)) ((del d σ.rows).map fun p=>(p.1,p.2.hush d)))⟩
 |_=>σ
def St.canG(σ:St)(far:Bool)(d r j:Nat):AV->St
 | .sl q _ _=>if q=d\/far=false/\1000000000<=q then σ else
  ⟨(σ.env.map fun p=>(p.1,p.2.hush d)).map fun p=>(p.1,p.2.ren q d),((del d σ.rows).map fun p=>(p.1,p.2.hush d)).map fun p=>(if p.1=q then d else p.1,p.2.map (·.ren q d))⟩
 | .lst .u m []=>σ.canFN d r j m (aG r ((del d σ.rows).map fun p=>(p.1,p.2.hush d)))
 |_=>σ
def St.canEN(σ:St)(d k j m:Nat):Option AV->St
 |some (.agg cs)=>⟨put k (.agg (gu cs j (.sl d 0 0))) (σ.env.map fun p=>(p.1,p.2.hush d)),put d (.arr m []) ((del d σ.rows).map fun p=>(p.1,p.2.hush d))⟩
 |_=>σ
def St.canE(σ:St)(far:Bool)(d k j:Nat):AV->St
 | .sl q _ _=>if q=d\/far=false/\1000000000<=q then σ else
  ⟨(σ.env.map fun p=>(p.1,p.2.hush d)).map fun p=>(p.1,p.2.ren q d),((del d σ.rows).map fun p=>(p.1,p.2.hush d)).map fun p=>(if p.1=q then d else p.1,p.2.map (·.ren q d))⟩
 | .lst .u m []=>σ.canEN d k j m (aG k (σ.env.map fun p=>(p.1,p.2.hush d)))
 |_=>σ
def St.canXcr(σ:St)(r:Nat)(all:List AV)(j q i m:Nat):Option Row->St
 |some (.arr k es)=>⟨σ.env,put r (.var (.agg (gu all j (.lst .m k (dw (sub es i m)))))) (put q .dead σ.rows)⟩
 |_=>σ
def St.canXc(σ:St)(r:Nat)(all:List AV):Nat->List AV->St
 |_,[]=>σ
 |j,.sl q i m::_=>σ.canXcr r all j q i m (aG q σ.rows)
 |j,.lst .u n []::_=>⟨σ.env,put r (.var (.agg (gu all j (.lst .m n [])))) σ.rows⟩
 |j,_::cs=>σ.canXc r all (j+1) cs
def St.canX(σ:St)(r:Nat):Option Row->St
 |some (.arr n es)=>⟨σ.env,put r (.arr n (dw es)) σ.rows⟩
 |some (.var (.agg cs))=>σ.canXc r cs 0 cs
 |_=>σ
def St.can1(σ:St):Can->St
 | .s d=>σ.canV d (σ.get d)
 | .f far d r j=>σ.canG far d r j (gp j (aG r σ.rows))
 | .r d=>σ.canW d (σ.get d)
 | .z d=>σ.canZ d (σ.get d)
 | .e far d k j=>σ.canE far d k j (gp j (some (.var (σ.get k))))
 | .w r=>σ.canX r (aG r σ.rows)
def St.can(σ:St):List Can->St
 |[]=>σ
 |d::ds=>(σ.can1 d).can ds
def Can.low(n:Nat):Can->Bool
 | .s d=>decide (d<n)
 | .f _ d _ _=>decide (d<1000000000)&&decide (n<=d)
 | .r d=>decide (d<n)
 | .z d=>decide (d<n)
 | .e _ d k _=>decide (d<1000000000)&&decide (n<=d)&&decide (k<n)
 | .w _=>true
def St.res(σ:St)(lv lr:List Nat):St:=
 {env:=lv.map fun k=>(k,σ.get k),rows:=lr.map fun r=>(r,(σ.row r).getD .dead)}
def Row.ments:Row->List Nat
 | .var x=>x.ments
 |_=>[]
def St.resOk(σ:St)(lv lr:List Nat):Prop:=
 (∀k∈lv,∀r∈(σ.get k).ments,r∈lr)/\(∀q∈lr,∀r∈((σ.row q).getD .dead).ments,r∈lr)/\lr.Nodup
inductive Ex where
 |nrm
 |ex (id:Nat)
 |ret
def thn(K:St->Prop)(Q:Ex->St->Prop):Ex->St->Prop
 | .nrm,σ=>K σ
 |e,σ=>Q e σ
def inb(id:Nat)(Q:Ex->St->Prop):Ex->St->Prop
 | .ex j,σ=>if j=id then Q .nrm σ else Q (.ex j) σ
 |e,σ=>Q e σ
def tst(x:AV)(A B:Prop):Prop:=match x with
 | .sc (.bool t)=>(t=true->A)/\(t=false->B)
 | .ub=>A/\B
 |_=>False
def KO(Q:Ex->St->Prop)(can:List Can)(σ:St):Prop:=Q .nrm (σ.can can)
def St.rb(σ:St)(lv:List Nat):St:=⟨lv.map fun k=>(k,snp σ.row 4 (σ.get k)),[]⟩
def AV.scal:AV->AV
 | .sc v=>.sc v
 |_=>.top
def St.scal(σ:St):St:=⟨σ.env.map fun p=>(p.1,p.2.scal),[]⟩
def rbQ(Q:Ex->St->Prop)(e:Ex)(τ:St):Prop:=Q e τ.scal
def AWP:ar->(Ex->St->Prop)->St->Prop
 | .skip,Q,σ=>Q .nrm σ
 | .reg ops can,Q,σ=>eC ok ops (KO Q can) σ
 | .drw ops can,Q,σ=>eC ok ops (KO Q can) σ
 | .seq a b,Q,σ=>AWP a (thn (AWP b Q) Q) σ
 | .seqr a lv lr b,Q,σ=>AWP a (thn (fun τ=>τ.resOk lv lr/\AWP b Q (τ.res lv lr)) Q) σ
 | .seqa x a lv lr b,Q,σ=>AWP x (thn (AWP a (thn (fun τ=>τ.resOk lv lr/\AWP b Q (τ.res lv lr)) Q)) Q) σ
 | .seqb a lv b,Q,σ=>AWP a (thn (fun τ=>AWP b (rbQ Q) (τ.rb lv)) Q) σ
 | .cond x a b,Q,σ=>tst (σ.gx x) (AWP a Q σ) (AWP b Q σ)
 | .blk id a,Q,σ=>AWP a (inb id Q) σ
 | .loop a,Q,σ=>∃(lv lr:List Nat)(I:St->Prop)(μ:St->Nat),σ.resOk lv lr/\I (σ.res lv lr)/\
  ∀τ,I τ->AWP a (thn (fun τ'=>τ'.resOk lv lr/\I (τ'.res lv lr)/\μ (τ'.res lv lr)<μ τ) Q) τ
 | .exit id,Q,σ=>Q (.ex id) σ
 | .ret,Q,σ=>Q .ret σ
inductive RV where
 |t (n:Nat)
 |c (n k:Nat) (ag:Bool)
def RV.val(σ:St):RV->Option AV
 | .t n=>some (σ.get n)
 | .c n k ag => match σ.get n with
   | .pt r 0 0 => match σ.row r with
     |some (.var y)=>part y 0 k ag
     |_=>none
   |_=>none
def RVs.val(σ:St):List RV->Option (List AV)
 |[]=>some []
 | r :: rs => match r.val σ, RVs.val σ rs with
   |some x,some xs=>some (x::xs)
   |_,_=>none
def gH:List AV->AV
 |[x]=>x
 |xs=>.tup xs
def fin(rs:List RV)(res:AV):Ex->St->Prop
 | .nrm,σ| .ret,σ=>∃xs,RVs.val σ rs=some xs/\(aO xs).Nodup/\lift σ.row 3 (gH xs)=res
 |_,_=>False
def St.start(args:List AV):St:={env:=go 0 args,rows:=[]}
where go:Nat->List AV->List (Nat×AV)
 |_,[]=>[]
 |n,a::as=>(n,a)::go (n+1) as
def Sp(a:ar)(rs:List RV)(args:List AV)(res:AV):Prop:=AWP ok a (fin rs res) (St.start args)
end
end Vs

namespace Vs
open Go
theorem iy(xs:List AV):gW xs=xs.map AV.nrm:=by
 induction xs with
 |nil=>simp[gW]
 |cons x xs ih=>simp[gW,ih]
theorem ij(xs:List AV):dw xs=xs.map AV.als:=by
 induction xs with
 |nil=>simp[dw]
 |cons x xs ih=>simp[dw,ih]
theorem fK(xs:List AV):gb xs=xs.map AV.fix:=by
 induction xs with
 |nil=>simp[gb]
 |cons x xs ih=>simp[gb,ih]
theorem lJ(r d:Nat)(xs:List AV):iL r d xs=xs.map (AV.ren r d):=by
 induction xs with
 |nil=>simp[iL]
 |cons x xs ih=>simp[iL,ih]
theorem rZ(xs:List AV):jM xs↔∀x∈xs,x.allU:=by
 induction xs with
 |nil=>simp[jM]
 |cons x xs ih=>simp[jM,ih]
theorem Tp(ρ:Nat->Option Row)(k:Nat)(v:Value):snp ρ (k+1) (.sc v)=.sc v:=by simp[snp,AV.nrm]
theorem PY(ρ:Nat->Option Row)(k:Nat)(f:Fl)(n:Nat)(xs:List AV):snp ρ (k+1) (.lst f n xs)=.lst .o n (xs.map AV.nrm):=by simp[snp,AV.nrm,iy]
theorem Vk(ρ:Nat->Option Row)(k:Nat)(f:Fl)(n:Nat)(xs:List AV):snp ρ (k+1) (.tg f n xs)=.lst .o n (xs.map AV.nrm):=by simp[snp,AV.nrm,iy]
theorem PW(ρ:Nat->Option Row)(k:Nat)(cs:List AV):snp ρ (k+1) (.agg cs)=.agg (cs.map (snp ρ k)):=by simp[snp]
theorem TU(ρ:Nat->Option Row)(k:Nat)(f:Nat)(cs:List AV):snp ρ (k+1) (.fn f cs)=.fn f (cs.map (snp ρ k)):=by simp[snp]
theorem SJ(ρ:Nat->Option Row)(k:Nat)(f:Fl)(x:AV)(off:Nat):snp ρ (k+1) (.bp f x off)=.bp .o x.nrm off:=by simp[snp,AV.nrm]
theorem SX(ρ:Nat->Option Row)(k:Nat)(r i n:Nat):snp ρ (k+1) (.sl r i n)=ny (ρ r) i n:=by simp only[snp]
theorem Eb(w:Nat)(es:List AV)(i n:Nat):ny (some (.arr w es)) i n=.lst .o w ((sub es i n).map AV.nrm):=by simp[ny,iy]
theorem Uc(ρ:Nat->Option Row)(k:Nat)(r i off:Nat):snp ρ (k+1) (.pt r i off)=lm (snp ρ k) (ρ r) i off:=by simp only[snp]
theorem BZ(h:AV->AV)(y:AV)(off:Nat):lm h (some (.var y)) 0 off=.bp .o (h y) off:=by simp[lm]
theorem Nt(ρ:Nat->Option Row)(k:Nat)(v:Value):lift ρ (k+1) (.sc v)=.sc v:=by simp[lift]
theorem ME(ρ:Nat->Option Row)(k:Nat)(f:Fl)(n:Nat)(xs:List AV):lift ρ (k+1) (.lst f n xs)=.lst f n xs:=by simp[lift]
theorem Mx(ρ:Nat->Option Row)(k:Nat)(cs:List AV):lift ρ (k+1) (.agg cs)=.agg (cs.map (lift ρ k)):=by simp[lift]
theorem JK(ρ:Nat->Option Row)(k:Nat)(cs:List AV):lift ρ (k+1) (.tup cs)=.tup (cs.map (lift ρ k)):=by simp[lift]
theorem Pw(ρ:Nat->Option Row)(k:Nat)(r i n:Nat):lift ρ (k+1) (.sl r i n)=kW (ρ r) i n:=by simp only[lift]
theorem xw(w:Nat)(es:List AV)(i n:Nat):kW (some (.arr w es)) i n=.lst .u w (sub es i n):=rfl
theorem lB(k c:Nat)(v:Value):adopt (k+1) c (.sc v)=(.sc v,[],c):=by simp[adopt,AV.fix]
theorem zG(k c n:Nat)(es:List AV):adopt (k+1) c (.lst .u n es)=(.sl c 0 es.length,[(c,.arr n (es.map AV.fix))],c+1000):=by simp[adopt,fK]
theorem zy(k c n:Nat)(es:List AV):adopt (k+1) c (.lst .o n es)=(.lst .s n (es.map AV.fix),[],c):=by simp[adopt,AV.fix,fK,Fl.fix]
theorem zf(k c n:Nat)(es:List AV):adopt (k+1) c (.lst .m n es)=(.lst .m n (es.map AV.fix),[],c):=by simp[adopt,AV.fix,fK,Fl.fix]
theorem zD(k c n:Nat)(es:List AV):adopt (k+1) c (.lst .s n es)=(.lst .s n (es.map AV.fix),[],c):=by simp[adopt,AV.fix,fK,Fl.fix]
theorem rN(k c:Nat)(xs:List AV):adopt (k+1) c (.tup xs)=(.tup (adopt.go k c xs).1,(adopt.go k c xs).2.1,(adopt.go k c xs).2.2):=by simp[adopt]
theorem rR(k c:Nat)(xs:List AV):adopt (k+1) c (.agg xs)=(.agg (adopt.go k c xs).1,(adopt.go k c xs).2.1,(adopt.go k c xs).2.2):=by simp[adopt]
theorem so(k c:Nat):adopt.go k c []=([],[],c):=by simp[adopt.go]
theorem qw(k c:Nat)(x:AV)(xs:List AV):adopt.go k c (x::xs)=
 ((adopt k c x).1::(adopt.go k (adopt k c x).2.2 xs).1,(adopt k c x).2.1++(adopt.go k (adopt k c x).2.2 xs).2.1,(adopt.go k (adopt k c x).2.2 xs).2.2):=by simp[adopt.go]
theorem cz(v:Value):(AV.sc v).nrm=.sc v:=by simp[AV.nrm]
theorem eA(f:Fl)(n:Nat)(xs:List AV):(AV.lst f n xs).nrm=.lst .o n (xs.map AV.nrm):=by simp[AV.nrm,iy]
theorem eh(cs:List AV):(AV.agg cs).nrm=.agg (cs.map AV.nrm):=by simp[AV.nrm,iy]
theorem SS(f:Fl)(x:AV)(off:Nat):(AV.bp f x off).nrm=.bp .o x.nrm off:=by simp[AV.nrm]
theorem dC(v:Value):(AV.sc v).als=.sc v:=by simp[AV.als]
theorem eo(f:Fl)(n:Nat)(xs:List AV):(AV.lst f n xs).als=.lst f.als n (xs.map AV.als):=by simp[AV.als,ij]
theorem eu(cs:List AV):(AV.agg cs).als=.agg (cs.map AV.als):=by simp[AV.als,ij]
theorem dQ(v:Value):(AV.sc v).fix=.sc v:=by simp[AV.fix]
theorem dS(f:Fl)(n:Nat)(xs:List AV):(AV.lst f n xs).fix=.lst f.fix n (xs.map AV.fix):=by simp[AV.fix,fK]
theorem dT(cs:List AV):(AV.agg cs).fix=.agg (cs.map AV.fix):=by simp[AV.fix,fK]
theorem ey(xs:List Int):(xs.map AV.i).map AV.nrm=xs.map AV.i:=by simp[cz]
theorem et(xs:List Int):(xs.map AV.i).map AV.als=xs.map AV.i:=by simp[dC]
theorem dP(xs:List Int):(xs.map AV.i).map AV.fix=xs.map AV.i:=by simp[dQ]
theorem Cp(xs:List Bool):(xs.map AV.b).map AV.nrm=xs.map AV.b:=by simp[cz]
theorem Cw(xs:List Bool):(xs.map AV.b).map AV.als=xs.map AV.b:=by simp[dC]
theorem rL(xs:List Bool):(xs.map AV.b).map AV.fix=xs.map AV.b:=by simp[dQ]
theorem mP(xs:List ByteArray):(xs.map AV.z).map AV.nrm=xs.map AV.z:=by simp[cz]
theorem mG(xs:List ByteArray):(xs.map AV.z).map AV.als=xs.map AV.z:=by simp[dC]
theorem km(xs:List ByteArray):(xs.map AV.z).map AV.fix=xs.map AV.z:=by simp[dQ]
theorem wW(xs:List Int):(xs.map AV.u8).map AV.nrm=xs.map AV.u8:=by simp[cz]
theorem Du:AV.als∘AV.i=AV.i:=by funext x;simp[dC]
theorem EB:AV.als∘AV.b=AV.b:=by funext x;simp[dC]
theorem Cv:AV.als∘AV.z=AV.z:=by funext x;simp[dC]
theorem wY(xs:List Int):(xs.map AV.u8).map AV.als=xs.map AV.u8:=by simp[dC]
theorem oP(xs:List Int):(xs.map AV.u8).map AV.fix=xs.map AV.u8:=by simp[dQ]
theorem OJ{α:Type}(a:α):(some a).isSome=true:=rfl
theorem c_eq{α:Type}(a:α):(a=a)=True:=eq_self a
theorem Wj(p:Prop):(True/\p)=p:=true_and p
theorem TD(p:Prop):(p/\True)=p:=and_true p
theorem PZ(n:Nat)(xs:List AV):(∃es,some (Row.arr n xs)=some (Row.arr n es))=True:=by simp
theorem Hk(n:Nat)(xs:List AV):(∃w es,some (Row.arr n xs)=some (Row.arr w es))=True:=by simp
theorem Vv(p:Prop):(False->p)=True:=by simp
theorem Sx(p:Prop):(True->p)=p:=by simp
theorem Qb{α:Type}(q:α->Prop):(∀p∈([]:List α),q p)=True:=by simp
theorem Oa{α:Type}(x:α)(l:List α)(q:α->Prop):(∀p∈x::l,q p)=(q x/\∀p∈l,q p):=by simp
theorem HP:sub [] 0 0=[]:=rfl
theorem Ji(n:Nat):0+n=n:=Nat.zero_add n
theorem Ik(n:Nat):n+0=n:=Nat.add_zero n
theorem UZ(n:Nat):n-0=n:=Nat.sub_zero n
theorem TV(d:Nat):(d∈([]:List Nat))=False:=by simp
theorem Um(d x:Nat)(l:List Nat):(d∈x::l)=(d=x\/d∈l):=by simp
theorem VF(p:Prop):(p\/False)=p:=or_false p
theorem Wo(p:Prop):(False\/p)=p:=false_or p
theorem VZ(p:Prop):(p\/True)=True:=or_true p
theorem VW(p:Prop):(True\/p)=True:=true_or p
theorem TL:(¬False)=True:=not_false_eq_true
theorem TH:(¬True)=False:=not_true_eq_false
theorem VG(n:Nat):(n<=n)=True:=by simp
theorem Wp(n:Nat):(0<=n)=True:=by simp
theorem QY{α:Type}(f:α->AV)(l:List α):sub (l.map f) 0 l.length=l.map f:=by simp[sub]
theorem lV(h:Nat->Nat)(xs:List AV):rgL h xs=xs.map (AV.rg h):=by
 induction xs with
 |nil=>simp[rgL]
 |cons x xs ih=>simp[rgL,ih]
theorem RS(h:Nat->Nat)(v:Value):(AV.sc v).rg h=.sc v:=by simp[AV.rg]
theorem Ls(h:Nat->Nat)(f:Fl)(n:Nat)(xs:List AV):(AV.lst f n xs).rg h=.lst f n xs:=by simp[AV.rg]
theorem RF(h:Nat->Nat)(f:Fl)(n:Nat)(xs:List AV):(AV.tg f n xs).rg h=.tg f n xs:=by simp[AV.rg]
theorem Sf(h:Nat->Nat)(f:Fl)(x:AV)(off:Nat):(AV.bp f x off).rg h=.bp f x off:=by simp[AV.rg]
theorem Gt(h:Nat->Nat):AV.top.rg h=.top:=by simp[AV.rg]
theorem HJ(h:Nat->Nat)(cs:List AV):(AV.agg cs).rg h=.agg (cs.map (AV.rg h)):=by simp[AV.rg,lV]
theorem Ry(h:Nat->Nat)(f:Nat)(cs:List AV):(AV.fn f cs).rg h=.fn f (cs.map (AV.rg h)):=by simp[AV.rg,lV]
theorem HQ(h:Nat->Nat)(cs:List AV):(AV.tup cs).rg h=.tup (cs.map (AV.rg h)):=by simp[AV.rg,lV]
theorem RE(h:Nat->Nat)(q i n:Nat):(AV.sl q i n).rg h=.sl (h q) i n:=by simp[AV.rg]
theorem RH(h:Nat->Nat)(q i n:Nat):(AV.pt q i n).rg h=.pt (h q) i n:=by simp[AV.rg]
theorem AB(h:Nat->Nat)(x:AV):(Row.var x).rg h=.var (x.rg h):=rfl
theorem Az(h:Nat->Nat)(n:Nat)(xs:List AV):(Row.arr n xs).rg h=.arr n xs:=rfl
theorem vV(h:Nat->Nat):Row.dead.rg h=.dead:=rfl
theorem uo(r x:Nat)(xs:List Nat):pos r (x::xs)=if x=r then 0 else pos r xs+1:=rfl
theorem Fh(rs:List Nat)(r:Nat):cnm rs r=1000000000+pos r rs:=rfl
theorem LC(d:Nat)(rs:List Nat)(q:Nat):bkn d rs q=if 1000000000<=q then rs.getD (q-1000000000) 0 else q+100000*(d+1):=rfl
theorem JY(ρ:Nat->Option Row)(rs:List Nat)(r:Nat):gK ρ rs r=(cnm rs r,((ρ r).getD .dead).rg (cnm rs)):=rfl
theorem wq(d:Nat)(rs:List Nat)(p:Nat×Row):ft d rs p=(bkn d rs p.1,p.2.rg (bkn d rs)):=rfl
theorem yU(x:AV):mH (some (.var x))=x.ments:=rfl
theorem xm(n:Nat)(xs:List AV):mH (some (.arr n xs))=[]:=rfl
theorem zu(x y:Nat)(l:List Nat):(x::l).getD 0 y=x:=rfl
theorem AF(x y:Nat)(l:List Nat)(n:Nat):(x::l).getD (n+1) y=l.getD n y:=by simp
theorem Tn(r d:Nat)(v:Value):(AV.sc v).ren r d=.sc v:=by simp[AV.ren]
theorem PM(r d:Nat)(f:Fl)(n:Nat)(xs:List AV):(AV.lst f n xs).ren r d=.lst f n xs:=by simp[AV.ren]
theorem Tv(r d:Nat)(f:Fl)(n:Nat)(xs:List AV):(AV.tg f n xs).ren r d=.tg f n xs:=by simp[AV.ren]
theorem TK(r d:Nat)(f:Fl)(x:AV)(off:Nat):(AV.bp f x off).ren r d=.bp f x off:=by simp[AV.ren]
theorem PC(r d:Nat):AV.top.ren r d=.top:=by simp[AV.ren]
theorem Rb(r d:Nat)(cs:List AV):(AV.agg cs).ren r d=.agg (cs.map (AV.ren r d)):=by simp[AV.ren,lJ]
theorem Vr(r d f:Nat)(cs:List AV):(AV.fn f cs).ren r d=.fn f (cs.map (AV.ren r d)):=by simp[AV.ren,lJ]
theorem OU(r d:Nat)(cs:List AV):(AV.tup cs).ren r d=.tup (cs.map (AV.ren r d)):=by simp[AV.ren,lJ]
theorem SQ(r d q i n:Nat):(AV.sl q i n).ren r d=.sl (if q=r then d else q) i n:=by simp[AV.ren]
theorem SV(r d q i n:Nat):(AV.pt q i n).ren r d=.pt (if q=r then d else q) i n:=by simp[AV.ren]
theorem Lp(ok:Oks)(Q:Ex->St->Prop)(σ:St):AWP ok .skip Q σ=Q .nrm σ:=by simp only[AWP]
theorem QU(ok:Oks)(Q:Ex->St->Prop)(σ:St)(ops:List bd)(can:List Can):AWP ok (.reg ops can) Q σ=eC ok ops (KO Q can) σ:=by simp only[AWP]
theorem QP(ok:Oks)(Q:Ex->St->Prop)(σ:St)(ops:List bd)(can:List Can):AWP ok (.drw ops can) Q σ=eC ok ops (KO Q can) σ:=by simp only[AWP]
theorem OY(ok:Oks)(Q:Ex->St->Prop)(σ:St)(a b:ar):AWP ok (.seq a b) Q σ=AWP ok a (thn (AWP ok b Q) Q) σ:=by simp only[AWP]
def sC(ok:Oks)(v:AV)(a b:ar)(Q:Ex->St->Prop)(σ:St):Prop:=tst v (AWP ok a Q σ) (AWP ok b Q σ)
theorem GZ(ok:Oks)(Q:Ex->St->Prop)(σ:St)(x:X)(a b:ar):AWP ok (.cond x a b) Q σ=sC ok (σ.gx x) a b Q σ:=by simp only[AWP,sC]
theorem UY(ok:Oks)(Q:Ex->St->Prop)(σ:St)(a b:ar):sC ok (.sc (.bool true)) a b Q σ=AWP ok a Q σ:=by simp[sC,tst]
theorem Ui(ok:Oks)(Q:Ex->St->Prop)(σ:St)(a b:ar):sC ok .ub a b Q σ=(AWP ok a Q σ/\AWP ok b Q σ):=by simp[sC,tst]
theorem Sr(ok:Oks)(Q:Ex->St->Prop)(σ:St)(a b:ar):sC ok (.sc (.bool false)) a b Q σ=AWP ok b Q σ:=by simp[sC,tst]
theorem LW(ok:Oks)(Q:Ex->St->Prop)(σ:St)(x a:ar)(lv lr:List Nat)(b:ar):AWP ok (.seqa x a lv lr b) Q σ=AWP ok x (thn (AWP ok (.seqr a lv lr b) Q) Q) σ:=by simp only[AWP]
theorem GO(ok:Oks)(Q:Ex->St->Prop)(σ:St)(a:ar)(lv:List Nat)(b:ar):AWP ok (.seqb a lv b) Q σ=AWP ok a (thn (fun τ=>AWP ok b (rbQ Q) (τ.rb lv)) Q) σ:=by simp only[AWP]
theorem Wd(env:List (Nat×AV))(rows:List (Nat×Row))(lv:List Nat):St.rb ⟨env,rows⟩ lv=⟨lv.map fun k=>(k,snp (St.row ⟨env,rows⟩) 4 (St.get ⟨env,rows⟩ k)),[]⟩:=rfl
theorem UJ(Q:Ex->St->Prop)(e:Ex)(env:List (Nat×AV))(rows:List (Nat×Row)):rbQ Q e ⟨env,rows⟩=Q e ⟨env.map fun p=>(p.1,p.2.scal),[]⟩:=rfl
theorem Nq(v:Value):(AV.sc v).scal=.sc v:=rfl
theorem Qa(ok:Oks)(Q:Ex->St->Prop)(σ:St)(id:Nat)(a:ar):AWP ok (.blk id a) Q σ=AWP ok a (inb id Q) σ:=by simp only[AWP]
theorem Kj(ok:Oks)(Q:Ex->St->Prop)(σ:St)(id:Nat):AWP ok (.exit id) Q σ=Q (.ex id) σ:=by simp only[AWP]
theorem OS(ok:Oks)(Q:Ex->St->Prop)(σ:St):AWP ok .ret Q σ=Q .ret σ:=by simp only[AWP]
theorem OO(K:St->Prop)(Q:Ex->St->Prop)(σ:St):thn K Q .nrm σ=K σ:=rfl
theorem Tx(K:St->Prop)(Q:Ex->St->Prop)(i:Nat)(σ:St):thn K Q (.ex i) σ=Q (.ex i) σ:=rfl
theorem Nu(K:St->Prop)(Q:Ex->St->Prop)(σ:St):thn K Q .ret σ=Q .ret σ:=rfl
theorem NB(i:Nat)(Q:Ex->St->Prop)(σ:St):inb i Q .nrm σ=Q .nrm σ:=rfl
theorem Sw(i j:Nat)(Q:Ex->St->Prop)(σ:St):inb i Q (.ex j) σ=if j=i then Q .nrm σ else Q (.ex j) σ:=rfl
theorem QV(i:Nat)(Q:Ex->St->Prop)(σ:St):inb i Q .ret σ=Q .ret σ:=rfl
theorem Ue(ok:Oks)(g:X->AV)(ρ:Nat->Option Row)(d:Nat)(K:AV->List (Nat×Row)->Prop)(x:X):eff ok g ρ d (.mv x) K=K (g x) []:=rfl
theorem Jp(ok:Oks)(g:X->AV)(ρ:Nat->Option Row)(d:Nat)(K:AV->List (Nat×Row)->Prop)(c a b:X):eff ok g ρ d (.pick c a b) K=kJ K (g c) (g a) (g b):=rfl
theorem NX(K:AV->List (Nat×Row)->Prop)(a b:AV):kJ K (.sc (.bool true)) a b=K a []:=by simp[kJ]
theorem Oz(K:AV->List (Nat×Row)->Prop)(a b:AV):kJ K (.sc (.bool false)) a b=K b []:=by simp[kJ]
theorem Ec(ok:Oks)(g:X->AV)(ρ:Nat->Option Row)(d:Nat)(K:AV->List (Nat×Row)->Prop)(z:AV):eff ok g ρ d (.alloc z) K=(ρ d=none/\K (.pt d 0 0) [(d,.var z)]):=rfl
theorem QM(ok:Oks)(g:X->AV)(ρ:Nat->Option Row)(d:Nat)(K:AV->List (Nat×Row)->Prop)(n:Nat)(x:X):eff ok g ρ d (.box n x) K=(ρ d=none/\(g x).width=n/\K (.pt d 0 0) [(d,.var (g x))]):=rfl
theorem ED(ok:Oks)(g:X->AV)(ρ:Nat->Option Row)(d:Nat)(K:AV->List (Nat×Row)->Prop)(z:List AV)(ps:List (Nat×Nat×X)):eff ok g ρ d (.build z ps) K=
 ((∀p∈ps,(g p.2.2).width=p.2.1/\p.1+p.2.1<=z.length)/\K (.agg (kF z (ps.map fun p=>(p.1,g p.2.2)))) []):=rfl
theorem Ns(ok:Oks)(g:X->AV)(ρ:Nat->Option Row)(d:Nat)(K:AV->List (Nat×Row)->Prop)(n:Nat)(fr:Bool)(ps:List X):eff ok g ρ d (.bsl n fr ps) K=((fr=true->aO (ps.map g)=[])/\ρ d=none/\(∀p∈ps,(g p).width=n)/\(aO (ps.map g)).Nodup/\
 K (.sl d 0 ps.length) (bX (aO (ps.map g))++[(d,.arr n ((ps.map g).map (lift ρ 2)))])):=rfl
theorem yH(x:AV):cQ (some (.var x))=True:=rfl
theorem xx(n:Nat)(x:List AV):cQ (some (.arr n x))=True:=rfl
theorem zS(rs:List Nat):bX rs=rs.map fun r=>(r,.dead):=rfl
theorem Wr(K:AV->List (Nat×Row)->Prop)(v:AV):k1 K v=K v []:=rfl
theorem KK(ok:Oks)(g:X->AV)(ρ:Nat->Option Row)(d:Nat)(K:AV->List (Nat×Row)->Prop)(n:Nat)(ag:Bool)(x:X):eff ok g ρ d (.load n ag x) K=dA K ρ n ag (g x):=rfl
theorem Iq(ρ:Nat->Option Row)(K:AV->List (Nat×Row)->Prop)(n:Nat)(ag:Bool)(f:Fl)(y:AV)(off:Nat):dA K ρ n ag (.bp f y off)=opt (part y off n ag) (k1 K):=rfl
theorem Hy(ρ:Nat->Option Row)(K:AV->List (Nat×Row)->Prop)(n:Nat)(ag:Bool)(r i off:Nat):dA K ρ n ag (.pt r i off)=dE K (ρ r) i off n ag:=rfl
theorem tX(K:AV->List (Nat×Row)->Prop)(y:AV)(i off n:Nat)(ag:Bool):dE K (some (.var y)) i off n ag=(i=0/\opt (part y off n ag) (k1 K)):=rfl
theorem vp(K:AV->List (Nat×Row)->Prop)(w:Nat)(es:List AV)(i off n:Nat)(ag:Bool):dE K (some (.arr w es)) i off n ag=opt es[i]? (MU K off n ag):=rfl
theorem Kt(K:AV->List (Nat×Row)->Prop)(off n:Nat)(ag:Bool)(y:AV):MU K off n ag y=opt (part y.als off n ag) (k1 K):=rfl
theorem DU(ok:Oks)(g:X->AV)(ρ:Nat->Option Row)(d:Nat)(K:AV->List (Nat×Row)->Prop)(n:Nat)(x v:X):eff ok g ρ d (.store n x v) K=dd K ρ n (g x) (g v):=rfl
theorem CS(ρ:Nat->Option Row)(K:AV->List (Nat×Row)->Prop)(n r i off:Nat)(v:AV):dd K ρ n (.pt r i off) v=(v.width=n/\di K ρ (ρ r) r i off v):=rfl
theorem tA(ρ:Nat->Option Row)(K:AV->List (Nat×Row)->Prop)(y:AV)(r i off:Nat)(v:AV):di K ρ (some (.var y)) r i off v=(i=0/\opt (setPart y off v) (FT K r)):=rfl
theorem LS(K:AV->List (Nat×Row)->Prop)(r:Nat)(y:AV):FT K r y=K .top [(r,.var y)]:=rfl
theorem tq(ρ:Nat->Option Row)(K:AV->List (Nat×Row)->Prop)(w:Nat)(es:List AV)(r i off:Nat)(v:AV):di K ρ (some (.arr w es)) r i off v=opt es[i]? (pg K ρ r w i off es v):=rfl
theorem Nb(ρ:Nat->Option Row)(K:AV->List (Nat×Row)->Prop)(w:Nat)(es:List AV)(r i off:Nat)(v y:AV):pg K ρ r w i off es v y=
 (r∉v.ments/\v.ments.Nodup/\(lift ρ 2 v).width=v.width/\opt (setPart y off (lift ρ 2 v)) (wJ K (bX v.ments) r w i es)):=rfl
theorem Ci(K:AV->List (Nat×Row)->Prop)(u:List (Nat×Row))(r w i:Nat)(es:List AV)(y:AV):wJ K u r w i es y=K .top (u++[(r,.arr w (es.set i y))]):=rfl
theorem NR(ok:Oks)(g:X->AV)(ρ:Nat->Option Row)(d:Nat)(K:AV->List (Nat×Row)->Prop)(n:Nat)(ps:List X):eff ok g ρ d (.bsm n ps) K=((∀r∈aO (ps.map g),wI (ρ r))/\ρ d=none/\(∀p∈ps,(g p).width=n)/\(aO (ps.map g)).Nodup/\
 K (.sl d 0 ps.length) (bX (aO (ps.map g))++[(d,.arr n ((ps.map g).map (lift ρ 2)))])):=rfl
theorem Qw(ok:Oks)(g:X->AV)(ρ:Nat->Option Row)(d:Nat)(K:AV->List (Nat×Row)->Prop)(n:Nat)(x v:X):eff ok g ρ d (.stv n x v) K=(vPv ρ (g x)/\dd K ρ n (g x) (g v)):=rfl
theorem Pn(ok:Oks)(g:X->AV)(ρ:Nat->Option Row)(d:Nat)(K:AV->List (Nat×Row)->Prop)(n:Nat)(ag:Bool)(x:X):eff ok g ρ d (.lda n ag x) K=(aPb ρ (g x)/\dA K ρ n ag (g x)):=rfl
theorem Oi(ok:Oks)(g:X->AV)(ρ:Nat->Option Row)(d:Nat)(K:AV->List (Nat×Row)->Prop)(av:List Nat)(off:Nat)(x:X):eff ok g ρ d (.fdv av off x) K=(vPt av ρ (g x)/\js K ρ off (g x)):=rfl
theorem US(ρ:Nat->Option Row)(r i off:Nat):aPb ρ (.pt r i off)=wI (ρ r):=rfl
theorem Tq(ρ:Nat->Option Row)(f:Fl)(y:AV)(off:Nat):aPb ρ (.bp f y off)=True:=rfl
theorem Tw(ρ:Nat->Option Row)(r i off:Nat):vPv ρ (.pt r i off)=wO (ρ r):=rfl
theorem OI(ok:Oks)(g:X->AV)(ρ:Nat->Option Row)(d:Nat)(K:AV->List (Nat×Row)->Prop)(av:List Nat)(n:Nat)(ag:Bool)(x:X):eff ok g ρ d (.ldv av n ag x) K=(vPt av ρ (g x)/\dA K ρ n ag (g x)):=rfl
theorem NK(ok:Oks)(g:X->AV)(ρ:Nat->Option Row)(d:Nat)(K:AV->List (Nat×Row)->Prop)(n:Nat)(x v:X):eff ok g ρ d (.str n x v) K=(aPt ρ (g x)/\(g v).ments=[]/\dd K ρ n (g x) (g v)):=rfl
theorem Qv(ok:Oks)(g:X->AV)(ρ:Nat->Option Row)(d:Nat)(K:AV->List (Nat×Row)->Prop)(av:List Nat)(n:Nat)(ag:Bool)(x:X):eff ok g ρ d (.lde av n ag x) K=(lPt av (g x)/\dA K ρ n ag (g x)):=rfl
theorem Vx(ρ:Nat->Option Row)(av:List Nat)(r i off:Nat):vPt av ρ (.pt r i off)=(r∉av/\wO (ρ r)):=rfl
theorem Uz(ρ:Nat->Option Row)(av:List Nat)(f:Fl)(y:AV)(off:Nat):vPt av ρ (.bp f y off)=True:=rfl
theorem TI(ρ:Nat->Option Row)(r i off:Nat):aPt ρ (.pt r i off)=wI (ρ r):=rfl
theorem Jl(x:AV):wO (some (.var x))=True:=rfl
theorem Jb(n:Nat)(x:List AV):wI (some (.arr n x))=True:=rfl
theorem Oj(ok:Oks)(g:X->AV)(ρ:Nat->Option Row)(d:Nat)(K:AV->List (Nat×Row)->Prop)(op:BinOp)(x y:X):eff ok g ρ d (.bin op x y) K=dg op (g x) (g y) (k1 K):=rfl
theorem QL(ok:Oks)(g:X->AV)(ρ:Nat->Option Row)(d:Nat)(K:AV->List (Nat×Row)->Prop)(neg:Bool)(x y:X):eff ok g ρ d (.beq neg x y) K=vM K neg (g x) (g y):=rfl
theorem SH(K:AV->List (Nat×Row)->Prop)(a b:Bool):vM K false (.sc (.bool a)) (.sc (.bool b))=K (.sc (.bool (a==b))) []:=rfl
theorem TJ(K:AV->List (Nat×Row)->Prop)(a b:Bool):vM K true (.sc (.bool a)) (.sc (.bool b))=K (.sc (.bool (!(a==b)))) []:=rfl
theorem Qn(ok:Oks)(g:X->AV)(ρ:Nat->Option Row)(d:Nat)(K:AV->List (Nat×Row)->Prop)(neg:Bool)(x y:X):eff ok g ρ d (.aeq neg x y) K=uU K neg (g x) (g y):=rfl
theorem Sy(K:AV->List (Nat×Row)->Prop)(a b c e:Int):uU K false (.agg [.sc (.int .i64 a),.sc (.int .i64 b)]) (.agg [.sc (.int .i64 c),.sc (.int .i64 e)])=K (.sc (.bool (a==c&&b==e))) []:=rfl
theorem TZ(K:AV->List (Nat×Row)->Prop)(a b c e:Int):uU K true (.agg [.sc (.int .i64 a),.sc (.int .i64 b)]) (.agg [.sc (.int .i64 c),.sc (.int .i64 e)])=K (.sc (.bool (!(a==c&&b==e)))) []:=rfl
theorem TG(ok:Oks)(g:X->AV)(ρ:Nat->Option Row)(d:Nat)(K:AV->List (Nat×Row)->Prop)(op:UnOp)(x:X):eff ok g ρ d (.un op x) K=unV op (g x) (k1 K):=rfl
theorem Fw(ok:Oks)(g:X->AV)(ρ:Nat->Option Row)(d:Nat)(K:AV->List (Nat×Row)->Prop)(q:IntKind)(x:X):eff ok g ρ d (.conv q x) K=pB K q (g x):=rfl
theorem Qf(K:AV->List (Nat×Row)->Prop)(q q':IntKind)(n:Int):pB K q (.sc (.int q' n))=K (.sc (.int q (q.wrap n))) []:=rfl
theorem PX(ok:Oks)(g:X->AV)(ρ:Nat->Option Row)(d:Nat)(K:AV->List (Nat×Row)->Prop)(f:Nat)(cs:List X):eff ok g ρ d (.mkf f cs) K=K (.fn f (cs.map g)) []:=rfl
theorem Sq(d:Nat)(K:AV->List (Nat×Row)->Prop)(o:Option Row)(n:Nat)(z:AV)(bytes:Nat)(l c:Int):yv K o d n z bytes (.sc (.int .i64 l)) (.sc (.int .i64 c))=
 (o=none/\z.width=n/\0<=l/\l<=c/\c*bytes<=140737488355328/\c<=9223372036854775807/\K (.sl d 0 l.toNat) [(d,.arr n (List.replicate l.toNat z))]):=rfl
theorem NE(ok:Oks)(g:X->AV)(ρ:Nat->Option Row)(d:Nat)(K:AV->List (Nat×Row)->Prop)(n:Nat)(x:X)(lo hi mx:Option X):eff ok g ρ d (.slc n x lo hi mx) K=qv K ρ n (g x) (lo.map g) (hi.map g) (mx.map g):=rfl
theorem LQ(ρ:Nat->Option Row)(K:AV->List (Nat×Row)->Prop)(f:Fl)(n w:Nat)(xs:List AV)(lo hi:Option AV):qv K ρ n (.lst f w xs) lo hi none=
 (w=n/\bOk lo/\bOk hi/\bV lo 0<=bV hi xs.length/\bV hi xs.length<=xs.length/\K (.lst f n (sub xs (bV lo 0) (bV hi xs.length-bV lo 0))) []):=rfl
theorem EA(ρ:Nat->Option Row)(K:AV->List (Nat×Row)->Prop)(f:Fl)(n w:Nat)(xs:List AV)(lo hi:Option AV)(m:AV):qv K ρ n (.lst f w xs) lo hi (some m)=
 (w=n/\bOk lo/\bOk hi/\bV lo 0<=bV hi xs.length/\bV hi xs.length<=xs.length/\hi.isSome/\bOk (some m)/\bV (some m) 0=bV hi xs.length/\K (.tg f n (sub xs (bV lo 0) (bV hi xs.length-bV lo 0))) []):=rfl
theorem OL(ρ:Nat->Option Row)(K:AV->List (Nat×Row)->Prop)(n r i m:Nat)(lo hi mx:Option AV):qv K ρ n (.sl r i m) lo hi mx=
 ((∃es,ρ r=some (.arr n es))/\bOk lo/\bOk hi/\bV lo 0<=bV hi m/\bV hi m<=m/\mx=none/\K (.sl r (i+bV lo 0) (bV hi m-bV lo 0)) []):=rfl
theorem Ur(K:AV->List (Nat×Row)->Prop)(s:ByteArray)(lo hi:Option AV):Px K (.sc (.string s)) lo hi=
 (bOk lo/\bOk hi/\bV lo 0<=bV hi s.size/\bV hi s.size<=s.size/\K (.sc (.string (s.extract (bV lo 0) (bV hi s.size)))) []):=rfl
theorem KA:bOk none=True:=rfl
theorem VJ(q:IntKind)(j:Int):bOk (some (.sc (.int q j)))=(0<=j):=rfl
theorem Pu(n:Nat):bV none n=n:=rfl
theorem bV_i(n:Nat)(q:IntKind)(j:Int):bV (some (.sc (.int q j))) n=j.toNat:=rfl
theorem PV(ok:Oks)(g:X->AV)(ρ:Nat->Option Row)(d:Nat)(K:AV->List (Nat×Row)->Prop)(off:Nat)(x:X):eff ok g ρ d (.fad off x) K=js K ρ off (g x):=rfl
theorem Nf(ρ:Nat->Option Row)(K:AV->List (Nat×Row)->Prop)(off o:Nat)(f:Fl)(y:AV):js K ρ off (.bp f y o)=K (.bp f y (o+off)) []:=rfl
theorem Ow(ρ:Nat->Option Row)(K:AV->List (Nat×Row)->Prop)(off r i o:Nat):js K ρ off (.pt r i o)=(cQ (ρ r)/\K (.pt r i (o+off)) []):=rfl
theorem Po(ok:Oks)(g:X->AV)(ρ:Nat->Option Row)(d:Nat)(K:AV->List (Nat×Row)->Prop)(n:Nat)(x i:X):eff ok g ρ d (.idx n x i) K=iU K ρ n (g x) (g i):=rfl
theorem PE(ok:Oks)(g:X->AV)(ρ:Nat->Option Row)(d:Nat)(K:AV->List (Nat×Row)->Prop)(av:List Nat)(n:Nat)(x i:X):eff ok g ρ d (.idv av n x i) K=(iPt av (g x)/\iU K ρ n (g x) (g i)):=rfl
theorem SN(av:List Nat)(r i n:Nat):iPt av (.sl r i n)=(r∉av):=rfl
theorem NL(av:List Nat)(f:Fl)(n:Nat)(xs:List AV):iPt av (.lst f n xs)=True:=rfl
theorem SF(av:List Nat)(r i off:Nat):lPt av (.pt r i off)=(r∉av):=rfl
theorem Tj(av:List Nat)(f:Fl)(y:AV)(off:Nat):lPt av (.bp f y off)=True:=rfl
theorem QH(ok:Oks)(g:X->AV)(ρ:Nat->Option Row)(d:Nat)(K:AV->List (Nat×Row)->Prop)(av:List Nat)(x:X):eff ok g ρ d (.lnv av x) K=(iPt av (g x)/\jp K ρ (g x)):=rfl
theorem OD(ok:Oks)(g:X->AV)(ρ:Nat->Option Row)(d:Nat)(K:AV->List (Nat×Row)->Prop)(r n:Nat)(x v:X):eff ok g ρ d (.stw r n x v) K=(wPt r ρ (g x)/\dd K ρ n (g x) (g v)):=rfl
theorem Vn(ρ:Nat->Option Row)(r q i off:Nat):wPt r ρ (.pt q i off)=(q=r/\wO (ρ q)):=rfl
theorem Ll(ρ:Nat->Option Row)(K:AV->List (Nat×Row)->Prop)(n w:Nat)(f:Fl)(xs:List AV)(q:IntKind)(j:Int):iU K ρ n (.lst f w xs) (.sc (.int q j))=(w=n/\0<=j/\opt xs[j.toNat]? (Tf K f.als)):=rfl
theorem PP(K:AV->List (Nat×Row)->Prop)(f:Fl)(y:AV):Tf K f y=K (.bp f y 0) []:=rfl
theorem Wq:Fl.als .o=.o:=rfl
theorem VD:Fl.als .s=.s:=rfl
theorem VM:Fl.als .m=.m:=rfl
theorem Wc:Fl.als .u=.m:=rfl
theorem Qs(ρ:Nat->Option Row)(K:AV->List (Nat×Row)->Prop)(n r a m:Nat)(q:IntKind)(j:Int):iU K ρ n (.sl r a m) (.sc (.int q j))=((∃es,ρ r=some (.arr n es))/\0<=j/\j<m/\K (.pt r (a+j.toNat) 0) []):=rfl
theorem Rc(ok:Oks)(g:X->AV)(ρ:Nat->Option Row)(d:Nat)(K:AV->List (Nat×Row)->Prop)(off n:Nat)(ag:Bool)(x:X):eff ok g ρ d (.fld off n ag x) K=BE K off n ag (g x):=rfl
theorem Kq(K:AV->List (Nat×Row)->Prop)(off n:Nat)(ag:Bool)(cs:List AV):BE K off n ag (.agg cs)=opt (part (.agg cs) off n ag) (k1 K):=by simp[BE,AV.isAgg]
theorem Ln(ok:Oks)(g:X->AV)(ρ:Nat->Option Row)(d:Nat)(K:AV->List (Nat×Row)->Prop)(x i:X):eff ok g ρ d (.stri x i) K=pW K (g x) (g i):=rfl
theorem NV(K:AV->List (Nat×Row)->Prop)(s:ByteArray)(q:IntKind)(j:Int):pW K (.sc (.string s)) (.sc (.int q j))=(0<=j/\opt s[j.toNat]? (SR K)):=rfl
theorem Pg(K:AV->List (Nat×Row)->Prop)(c:UInt8):SR K c=K (.sc (.int .u8 c.toNat)) []:=rfl
theorem Qo(ok:Oks)(g:X->AV)(ρ:Nat->Option Row)(d:Nat)(K:AV->List (Nat×Row)->Prop)(x:X)(j:Nat):eff ok g ρ d (.ext x j) K=yF K (g x) j:=rfl
theorem HZ(K:AV->List (Nat×Row)->Prop)(vs:List AV)(j:Nat):yF K (.tup vs) j=opt vs[j]? (k1 K):=rfl
theorem Iv(ok:Oks)(g:X->AV)(ρ:Nat->Option Row)(d:Nat)(K:AV->List (Nat×Row)->Prop)(f:Nat)(xs:List X):eff ok g ρ d (.call f xs) K=fT ok ρ d f (xs.map g) K:=rfl
theorem NT(ok:Oks)(g:X->AV)(ρ:Nat->Option Row)(d:Nat)(K:AV->List (Nat×Row)->Prop)(x:X)(xs:List X):eff ok g ρ d (.dyn x xs) K=vW ok ρ d (g x) (xs.map g) K:=rfl
theorem BX(ok:Oks)(g:X->AV)(ρ:Nat->Option Row)(d:Nat)(K:AV->List (Nat×Row)->Prop)(f:Nat)(xs:List X)(rs:List Nat):eff ok g ρ d (.callM f xs rs) K=callM ok ρ d f (xs.map g) rs K:=rfl
theorem HY(ok:Oks)(g:X->AV)(ρ:Nat->Option Row)(d:Nat)(K:AV->List (Nat×Row)->Prop)(x:X)(xs:List X)(rs:List Nat):eff ok g ρ d (.dynM x xs rs) K=pU ok ρ d (g x) (xs.map g) rs K:=rfl
theorem Hx(ok:Oks)(ρ:Nat->Option Row)(d:Nat)(K:AV->List (Nat×Row)->Prop)(f:Nat)(cs xs:List AV)(rs:List Nat):pU ok ρ d (.fn f cs) xs rs K=callM ok ρ d f (xs++cs) rs K:=rfl
theorem Rh(ok:Oks)(ρ:Nat->Option Row)(d:Nat)(K:AV->List (Nat×Row)->Prop)(f:Nat)(cs xs:List AV):vW ok ρ d (.fn f cs) xs K=fT ok ρ d f (xs++cs) K:=rfl
theorem PJ(ok:Oks)(g:X->AV)(ρ:Nat->Option Row)(d:Nat)(K:AV->List (Nat×Row)->Prop)(x:X):eff ok g ρ d (.len x) K=jp K ρ (g x):=rfl
theorem GE(ρ:Nat->Option Row)(K:AV->List (Nat×Row)->Prop)(f:Fl)(n:Nat)(xs:List AV):jp K ρ (.lst f n xs)=K (.sc (.int .i64 xs.length)) []:=rfl
theorem Nj(ρ:Nat->Option Row)(K:AV->List (Nat×Row)->Prop)(f:Fl)(n:Nat)(xs:List AV):jp K ρ (.tg f n xs)=K (.sc (.int .i64 xs.length)) []:=rfl
theorem OP(ρ:Nat->Option Row)(K:AV->List (Nat×Row)->Prop)(r i n:Nat):jp K ρ (.sl r i n)=((∃w es,ρ r=some (.arr w es))/\K (.sc (.int .i64 n)) []):=rfl
theorem Ms(ok:Oks)(g:X->AV)(ρ:Nat->Option Row)(d:Nat)(K:AV->List (Nat×Row)->Prop)(x:X):eff ok g ρ d (.lenz x) K=pP K (g x):=rfl
theorem Lo(ok:Oks)(g:X->AV)(ρ:Nat->Option Row)(d:Nat)(K:AV->List (Nat×Row)->Prop)(x:X):eff ok g ρ d (.capn x) K=oE K (g x):=rfl
theorem QF(K:AV->List (Nat×Row)->Prop)(n:Nat):oE K (.lst .u n [])=K (.i 0) []:=rfl
theorem Nx(ok:Oks)(g:X->AV)(ρ:Nat->Option Row)(d:Nat)(K:AV->List (Nat×Row)->Prop)(n:Nat)(x hi:X):eff ok g ρ d (.slg n x hi) K=xM K n (g x) (g hi):=rfl
theorem UA(K:AV->List (Nat×Row)->Prop)(n w:Nat)(k:IntKind)(h:Int):xM K n (.lst .u w []) (.sc (.int k h))=(w=n/\h=0/\K (.lst .u n []) []):=rfl
theorem Pc(ok:Oks)(g:X->AV)(ρ:Nat->Option Row)(d:Nat)(K:AV->List (Nat×Row)->Prop)(n:Nat)(z:AV)(bytes:Nat)(x l:X):eff ok g ρ d (.apz n z bytes x l) K=DC K (ρ d) d n z bytes (g x) (g l):=rfl
theorem UP(K:AV->List (Nat×Row)->Prop)(o:Option Row)(d n w:Nat)(z:AV)(bytes:Nat)(l:Int):DC K o d n z bytes (.lst .u w []) (.sc (.int .i64 l))=(o=none/\w=n/\z.width=n/\n=1/\0<l/\l*bytes<=140737488355328/\K (.sl d 0 l.toNat) [(d,.arr n (List.replicate l.toNat z))]):=rfl
theorem PF(K:AV->List (Nat×Row)->Prop)(s:ByteArray):pP K (.sc (.string s))=K (.sc (.int .i64 s.size)) []:=rfl
theorem Fv(ρ:Nat->Option Row)(K:AV->List (Nat×Row)->Prop)(f:Fl)(n:Nat)(xs:List AV):OK K ρ (.lst f n xs)=(n=1/\opt (u8s xs) (Kg K)):=rfl
theorem Ox(ρ:Nat->Option Row)(K:AV->List (Nat×Row)->Prop)(r i n:Nat):OK K ρ (.sl r i n)=An K (ρ r) i n:=rfl
theorem CY(K:AV->List (Nat×Row)->Prop)(w:Nat)(es:List AV)(i m:Nat):An K (some (.arr w es)) i m=(w=1/\opt (u8s (sub es i m)) (Kg K)):=rfl
theorem ND(K:AV->List (Nat×Row)->Prop)(ns:List Int):Kg K ns=K (.sc (.string (b2s ns))) []:=rfl
theorem Pd(ok:Oks)(g:X->AV)(ρ:Nat->Option Row)(d:Nat)(K:AV->List (Nat×Row)->Prop)(neg:Bool)(x:X):eff ok g ρ d (.isn neg x) K=uw K ρ neg (g x):=rfl
theorem Lv(ρ:Nat->Option Row)(K:AV->List (Nat×Row)->Prop)(neg:Bool)(f:Fl)(n:Nat)(xs:List AV):uw K ρ neg (.lst f n xs)=qV K neg xs.isEmpty:=rfl
theorem Rf(ρ:Nat->Option Row)(K:AV->List (Nat×Row)->Prop)(neg:Bool)(f:Fl)(n:Nat)(xs:List AV):uw K ρ neg (.tg f n xs)=qV K neg xs.isEmpty:=rfl
theorem Rj(ρ:Nat->Option Row)(K:AV->List (Nat×Row)->Prop)(neg:Bool)(r i n:Nat):uw K ρ neg (.sl r i n)=((∃w es,ρ r=some (.arr w es))/\qV K neg (n==0)):=rfl
theorem Oq(K:AV->List (Nat×Row)->Prop)(neg e:Bool):qV K neg e=K (cond e .ub (.sc (.bool neg))) []:=rfl
theorem Vb(x:AV):cond true AV.ub x=AV.ub:=rfl
theorem UM(x:AV):cond false AV.ub x=x:=rfl
theorem CI{α β:Type}(f:α->β)(xs:List α):(xs.map f).isEmpty=xs.isEmpty:=List.isEmpty_map
theorem Ov(ρ:Nat->Option Row)(K:AV->List (Nat×Row)->Prop)(n r i m:Nat)(y:AV):Up K ρ n (.sl r i m) y=opt (dJ n ρ y) (Nz K (ρ r) r n i m):=rfl
theorem Jc(K:AV->List (Nat×Row)->Prop)(w n r i m:Nat)(es ys:List AV):Nz K (some (.arr w es)) r n i m ys=(w=n/\i+m+ys.length<=es.length/\K (.sl r i (m+ys.length)) [(r,.arr w (dI es (i+m) ys))]):=rfl
theorem Qt(ρ:Nat->Option Row)(K:AV->List (Nat×Row)->Prop)(n r i m:Nat)(lo hi mx:AV):Vq K ρ n (.sl r i m) lo hi mx=zI K (ρ r) n m lo hi mx:=rfl
theorem Cj(K:AV->List (Nat×Row)->Prop)(w n m:Nat)(es:List AV)(k1 k2 k3:IntKind)(l h q:Int):zI K (some (.arr w es)) n m (.sc (.int k1 l)) (.sc (.int k2 h)) (.sc (.int k3 q))=(w=n/\0<=l/\l<=h/\h<=q/\q<=(m:Int)/\K .top []):=rfl
theorem NF(ρ:Nat->Option Row)(K:AV->List (Nat×Row)->Prop)(n r i m:Nat)(lo hi:Option AV):Ff K ρ n (.sl r i m) lo hi=vc K (ρ r) r n i m lo hi:=rfl
theorem Dw(K:AV->List (Nat×Row)->Prop)(w n r i m:Nat)(es:List AV)(lo hi:Option AV):vc K (some (.arr w es)) r n i m lo hi=
 (w=n/\bOk lo/\bOk hi/\bV lo 0<=bV hi m/\i+bV hi m<=es.length/\K (.sl r (i+bV lo 0) (bV hi m-bV lo 0)) []):=rfl
theorem Ql(ok:Oks)(g:X->AV)(ρ:Nat->Option Row)(d:Nat)(K:AV->List (Nat×Row)->Prop)(n:Nat)(z:AV)(x:X):eff ok g ρ d (.clr n z x) K=DI K ρ n z (g x):=rfl
theorem PO(ρ:Nat->Option Row)(K:AV->List (Nat×Row)->Prop)(n r i m:Nat)(z:AV):DI K ρ n z (.sl r i m)=vI K (ρ r) r n z i m:=rfl
theorem Bu(K:AV->List (Nat×Row)->Prop)(w n r i m:Nat)(es:List AV)(z:AV):vI K (some (.arr w es)) r n z i m=(w=n/\z.width=n/\K (.tup []) [(r,.arr w (dI es i (List.replicate m z)))]):=rfl
theorem Qz(ok:Oks)(g:X->AV)(ρ:Nat->Option Row)(d:Nat)(K:AV->List (Nat×Row)->Prop)(n:Nat)(x y:X):eff ok g ρ d (.cpy n x y) K=CE K ρ n (g x) (g y):=rfl
theorem Pt(ρ:Nat->Option Row)(K:AV->List (Nat×Row)->Prop)(n r i m:Nat)(y:AV):CE K ρ n (.sl r i m) y=opt (dJ n ρ y) (vl K (ρ r) r n i m):=rfl
theorem Ej(K:AV->List (Nat×Row)->Prop)(w n r i m:Nat)(es ys:List AV):vl K (some (.arr w es)) r n i m ys=(w=n/\K (.sc (.int .i64 (min ys.length m:Nat))) [(r,.arr w (dI es i (ys.take (min ys.length m))))]):=rfl
theorem OA(ok:Oks)(g:X->AV)(ρ:Nat->Option Row)(d:Nat)(K:AV->List (Nat×Row)->Prop)(n bytes:Nat)(mv:Bool)(x y:X):eff ok g ρ d (.app n bytes mv x y) K=tx K ρ d n bytes mv (g x) (g y):=rfl
theorem QI(ρ:Nat->Option Row)(d:Nat)(K:AV->List (Nat×Row)->Prop)(n bytes:Nat)(mv:Bool)(r i m:Nat)(y:AV):tx K ρ d n bytes mv (.sl r i m) y=(ρ d=none/\opt (lD ρ n mv y) (pd K (ρ r) d n bytes r i m)):=rfl
theorem QE(ρ:Nat->Option Row)(d:Nat)(K:AV->List (Nat×Row)->Prop)(n bytes:Nat)(mv:Bool)(f:Fl)(w:Nat)(es:List AV)(y:AV):tx K ρ d n bytes mv (.tg f w es) y=(ρ d=none/\opt (lD ρ n mv y) (vx K d n bytes w es)):=rfl
theorem GL(d:Nat)(K:AV->List (Nat×Row)->Prop)(n bytes w:Nat)(es ys:List AV)(u:List (Nat×Row)):vx K d n bytes w es (ys,u)=
 (w=n/\0<ys.length/\(es.length+ys.length)*bytes<=140737488355328/\K (.sl d 0 (es.length+ys.length)) (u++[(d,.arr n (es.map AV.als++ys))])):=by simp[vx,ij]
theorem Nl(ρ:Nat->Option Row)(n r m:Nat):lD ρ n true (.sl r 0 m)=tM n r m (ρ r):=rfl
theorem Cf(n m r w:Nat)(ys:List AV):tM n r m (some (.arr w ys))=if w=n/\m=ys.length then some (ys,[(r,.dead)]) else none:=rfl
theorem No(ρ:Nat->Option Row)(n:Nat)(y:AV):lD ρ n false y=kH (dJ n ρ y):=rfl
theorem wQ(ys:List AV):kH (some ys)=some (ys,[]):=rfl
theorem Dt(ρ:Nat->Option Row)(n w:Nat)(f:Fl)(xs:List AV):dJ n ρ (.lst f w xs)=if w=n then some xs else none:=rfl
theorem II(ρ:Nat->Option Row)(n w:Nat)(f:Fl)(xs:List AV):dJ n ρ (.tg f w xs)=if w=n then some xs else none:=rfl
theorem LO(ρ:Nat->Option Row)(n r i k:Nat):dJ n ρ (.sl r i k)=ly n (ρ r) i k:=rfl
theorem vL(n w i k:Nat)(es:List AV):ly n (some (.arr w es)) i k=if w=n then some ((sub es i k).map AV.als) else none:=by simp[ly,ij]
theorem CP(d:Nat)(K:AV->List (Nat×Row)->Prop)(n bytes r i m w:Nat)(es ys:List AV)(u:List (Nat×Row)):pd K (some (.arr w es)) d n bytes r i m (ys,u)=
 (w=n/\r∉u.map (·.1)/\(m+ys.length)*bytes<=140737488355328/\K (.sl d 0 (m+ys.length)) ((r,.dead)::u++[(d,.arr n (sub es i m++ys))])):=rfl
theorem MX(ok:Oks)(g:X->AV)(ρ:Nat->Option Row)(d:Nat)(K:AV->List (Nat×Row)->Prop)(x:X):eff ok g ρ d (.nilc x) K=qG K ρ (g x):=rfl
theorem QB(ρ:Nat->Option Row)(K:AV->List (Nat×Row)->Prop)(f:Fl)(y:AV)(o:Nat):qG K ρ (.bp f y o)=K (.bp f y o) []:=rfl
theorem Ot(ρ:Nat->Option Row)(K:AV->List (Nat×Row)->Prop)(r i o:Nat):qG K ρ (.pt r i o)=(cQ (ρ r)/\K (.pt r i o) []):=rfl
theorem UV(ok:Oks)(g:X->AV)(ρ:Nat->Option Row)(d:Nat)(K:AV->List (Nat×Row)->Prop)(x y:X):eff ok g ρ d (.mn x y) K=eMn K (g x) (g y):=rfl
theorem Ws(K:AV->List (Nat×Row)->Prop)(a b:Int):eMn K (.sc (.int .i64 a)) (.sc (.int .i64 b))=K (.sc (.int .i64 (if b<a then b else a))) []:=by simp[eMn]
theorem SG(ok:Oks)(g:X->AV)(ρ:Nat->Option Row)(d:Nat)(K:AV->List (Nat×Row)->Prop)(x y:X):eff ok g ρ d (.mx x y) K=eMx K (g x) (g y):=rfl
theorem VN(K:AV->List (Nat×Row)->Prop)(a b:Int):eMx K (.sc (.int .i64 a)) (.sc (.int .i64 b))=K (.sc (.int .i64 (if a<b then b else a))) []:=by simp[eMx]
theorem Ng(K:AV->Prop)(k:IntKind)(a b:Int):dg .add (.sc (.int k a)) (.sc (.int k b)) K=K (.sc (.int k (k.wrap (a+b)))):=by simp[dg,dF,ofI]
theorem NM(K:AV->Prop)(k:IntKind)(a b:Int):dg .sub (.sc (.int k a)) (.sc (.int k b)) K=K (.sc (.int k (k.wrap (a-b)))):=by simp[dg,dF,ofI]
theorem OE(K:AV->Prop)(k:IntKind)(a b:Int):dg .mul (.sc (.int k a)) (.sc (.int k b)) K=K (.sc (.int k (k.wrap (a*b)))):=by simp[dg,dF,ofI]
theorem QJ(K:AV->Prop)(k:IntKind)(a b:Int):dg .quo (.sc (.int k a)) (.sc (.int k b)) K=(b≠0/\K (.sc (.int k (k.wrap (a.tdiv b))))):=by simp[dg,dF,ofI]
theorem PI(K:AV->Prop)(k:IntKind)(a b:Int):dg .rem (.sc (.int k a)) (.sc (.int k b)) K=(b≠0/\K (.sc (.int k (a.tmod b)))):=by simp[dg,dF]
theorem Pk(K:AV->Prop)(k:IntKind)(a b:Int):dg .and (.sc (.int k a)) (.sc (.int k b)) K=K (.sc (.int k (bits .and k a b))):=by simp[dg,dF]
theorem TF(K:AV->Prop)(k:IntKind)(a b:Int):dg .or (.sc (.int k a)) (.sc (.int k b)) K=K (.sc (.int k (bits .or k a b))):=by simp[dg,dF]
theorem PL(K:AV->Prop)(k:IntKind)(a b:Int):dg .xor (.sc (.int k a)) (.sc (.int k b)) K=K (.sc (.int k (bits .xor k a b))):=by simp[dg,dF]
theorem xg(K:AV->Prop)(k:IntKind)(a b:Int):dg .andNot (.sc (.int k a)) (.sc (.int k b)) K=K (.sc (.int k (bits .andNot k a b))):=by simp[dg,dF]
theorem Qp(K:AV->Prop)(k:IntKind)(a b:Int):dg .eql (.sc (.int k a)) (.sc (.int k b)) K=K (.sc (.bool (a==b))):=by simp[dg,dF]
theorem Qu(K:AV->Prop)(k:IntKind)(a b:Int):dg .neq (.sc (.int k a)) (.sc (.int k b)) K=K (.sc (.bool (a !=b))):=by simp[dg,dF]
theorem PD(K:AV->Prop)(k:IntKind)(a b:Int):dg .lss (.sc (.int k a)) (.sc (.int k b)) K=K (.sc (.bool (decide (a<b)))):=by simp[dg,dF]
theorem NZ(K:AV->Prop)(k:IntKind)(a b:Int):dg .leq (.sc (.int k a)) (.sc (.int k b)) K=K (.sc (.bool (decide (a<=b)))):=by simp[dg,dF]
theorem Rd(K:AV->Prop)(k:IntKind)(a b:Int):dg .gtr (.sc (.int k a)) (.sc (.int k b)) K=K (.sc (.bool (decide (b<a)))):=by simp[dg,dF]
theorem Oy(K:AV->Prop)(k:IntKind)(a b:Int):dg .geq (.sc (.int k a)) (.sc (.int k b)) K=K (.sc (.bool (decide (b<=a)))):=by simp[dg,dF]
theorem Pp(K:AV->Prop)(k k':IntKind)(a b:Int):dg .shl (.sc (.int k a)) (.sc (.int k' b)) K=eE .shl k a b K:=by simp[dg]
theorem QG(K:AV->Prop)(k k':IntKind)(a b:Int):dg .shr (.sc (.int k a)) (.sc (.int k' b)) K=eE .shr k a b K:=by simp[dg]
theorem Wi(K:AV->Prop)(k:IntKind)(a b:Int):eE .shl k a b K=(0<=b/\K (.sc (.int k (k.wrap (a*2^(min b.toNat k.bits)))))):=by simp[eE,ofI]
theorem Wk(K:AV->Prop)(k:IntKind)(a b:Int):eE .shr k a b K=(0<=b/\K (.sc (.int k (a.fdiv (2^(min b.toNat k.bits)))))):=by simp[eE]
theorem Lw(K:AV->Prop)(a b:ByteArray):dg .add (.sc (.string a)) (.sc (.string b)) K=(a.size+b.size<=9223372036854775807/\K (.sc (.string (a++b)))):=rfl
theorem KP(K:AV->Prop)(a b:ByteArray):dg .eql (.sc (.string a)) (.sc (.string b)) K=K (.sc (.bool (a.toList==b.toList))):=rfl
theorem Hf(K:AV->Prop)(a b:ByteArray):dg .neq (.sc (.string a)) (.sc (.string b)) K=K (.sc (.bool (!(a.toList==b.toList)))):=rfl
theorem Vl(K:AV->Prop)(k:IntKind)(a:Int):unV .neg (.sc (.int k a)) K=K (.sc (.int k (k.wrap (0-a)))):=by simp[unV,ofI]
theorem Ub(K:AV->Prop)(a:Bool):unV .not (.sc (.bool a)) K=K (.sc (.bool (!a))):=rfl
theorem Ml{α:Type}(x:α)(K:α->Prop):opt (some x) K=K x:=rfl
theorem DD(ok:Oks)(σ:St)(K:St->Prop):eC ok [] K σ=K σ:=rfl
theorem yC(ok:Oks)(σ:St)(K:St->Prop)(d:Option Nat)(o:AOp)(os:List bd):eC ok (⟨d,o,none⟩::os) K σ=eff ok σ.gx σ.row (d.getD 0) o (Re d (eC ok os K) σ):=rfl
theorem yk(ok:Oks)(σ:St)(K:St->Prop)(d:Option Nat)(o:AOp)(s:Nat)(w:Bool)(os:List bd):eC ok (⟨d,o,some (s,w)⟩::os) K σ=
 eK σ s w (σ.get s) (xK ok d o (eC ok os K)) (FD d (eC ok os K)):=rfl
theorem SY(σ:St)(t len j:Nat):argI σ t len (.t j)=if j=t then .sl 1000000000 0 len else σ.get j:=rfl
theorem SL(σ:St)(t len:Nat)(a:AV):argI σ t len (.c a)=a:=rfl
theorem KH(σ:St)(t j:Nat):EN σ t (.t j)=(j=t\/(σ.get j).ments=[]):=rfl
theorem FV(σ:St)(t:Nat)(a:AV):EN σ t (.c a)=(a.ments=[]):=rfl
theorem NH(ok:Oks)(σ:St)(K:St->Prop)(d:Option Nat)(o:AOp):xK ok d o K σ=eff ok σ.gx σ.row (d.getD 0) o (Re d K σ):=rfl
theorem NI(σ:St)(K:St->Prop)(d:Option Nat):FD d K σ=K (σ.app d (.tup []) []):=rfl
theorem zo(σ:St)(K:St->Prop)(d:Option Nat)(v:AV)(u:List (Nat×Row)):Re d K σ v u=K (σ.app d v u):=rfl
theorem OZ(σ:St)(Q:Ex->St->Prop)(can:List Can):KO Q can σ=Q .nrm (σ.can can):=rfl
theorem CZ(σ:St)(s:Nat)(A B:St->Prop):eK σ s true (.sc (.bool true)) A B=A (σ.know s true):=by simp[eK]
theorem Cq(σ:St)(s:Nat)(A B:St->Prop):eK σ s true (.sc (.bool false)) A B=B (σ.know s false):=by simp[eK]
theorem Ca(σ:St)(s:Nat)(A B:St->Prop):eK σ s false (.sc (.bool true)) A B=B (σ.know s true):=by simp[eK]
theorem Cd(σ:St)(s:Nat)(A B:St->Prop):eK σ s false (.sc (.bool false)) A B=A (σ.know s false):=by simp[eK]
theorem Fa(σ:St)(s:Nat)(w:Bool)(A B:St->Prop):eK σ s w (.tup []) A B=B σ:=rfl
theorem PH(σ:St):σ.can []=σ:=rfl
theorem MT(σ:St)(d:Nat)(ds:List Can):σ.can (.s d::ds)=(σ.canV d (σ.get d)).can ds:=rfl
theorem DQ(σ:St)(far:Bool)(d r j:Nat)(ds:List Can):σ.can (.f far d r j::ds)=(σ.canG far d r j (gp j (aG r σ.rows))).can ds:=rfl
theorem Cg(σ:St)(d:Nat)(ds:List Can):σ.can (.r d::ds)=(σ.canW d (σ.get d)).can ds:=rfl
theorem PU(σ:St)(d r i n:Nat):σ.canW d (.sl r i n)=σ.canSr d r i n:=rfl
theorem FK(σ:St)(d n:Nat):σ.canW d (.lst .u n [])=σ.canNil d n:=rfl
theorem SA(σ:St)(d n:Nat)(xs:List AV):σ.canW d (.lst .o n xs)=σ:=rfl
theorem Vt(σ:St)(d n:Nat)(xs:List AV):σ.canW d (.lst .m n xs)=σ:=rfl
theorem TS(σ:St)(d n:Nat)(xs:List AV):σ.canW d (.lst .s n xs)=σ:=rfl
theorem UL(σ:St)(far:Bool)(d r j n:Nat)(xs:List AV):σ.canG far d r j (.lst .o n xs)=σ:=rfl
theorem Vp(σ:St)(far:Bool)(d r j n:Nat)(xs:List AV):σ.canG far d r j (.lst .m n xs)=σ:=rfl
theorem TP(σ:St)(far:Bool)(d r j n:Nat)(xs:List AV):σ.canG far d r j (.lst .s n xs)=σ:=rfl
theorem Ef(σ:St)(d:Nat)(ds:List Can):σ.can (.z d::ds)=(σ.canZ d (σ.get d)).can ds:=rfl
theorem Nc(σ:St)(d r i m:Nat):σ.canZ d (.sl r i m)=σ.canZr d i m r (aG r σ.rows):=rfl
theorem MY(σ:St)(d n:Nat)(f:Fl)(xs:List AV):σ.canZ d (.lst f n xs)=σ:=rfl
theorem HE(σ:St)(d:Nat)(cs:List AV):σ.canZ d (.agg cs)=σ.canZc d cs 0 cs:=rfl
theorem Eg(σ:St)(d j:Nat)(all:List AV):σ.canZc d all j []=σ:=by unfold St.canZc;rfl
theorem Gi(σ:St)(d j:Nat)(all cs:List AV)(r i m:Nat):σ.canZc d all j (.sl r i m::cs)=σ.canZcr d all j r i m (aG r σ.rows):=by rw[St.canZc]
theorem DB(σ:St)(d j:Nat)(all cs:List AV)(f:Fl)(n:Nat)(xs:List AV):σ.canZc d all j (.lst f n xs::cs)=σ.canZc d all (j+1) cs:=by rw[St.canZc];intros;contradiction
theorem GN(σ:St)(d j:Nat)(all cs:List AV)(v:Value):σ.canZc d all j (.sc v::cs)=σ.canZc d all (j+1) cs:=by rw[St.canZc];intros;contradiction
theorem CH(env:List (Nat×AV))(rows:List (Nat×Row))(d j:Nat)(all:List AV)(r i m q:Nat)(es:List AV):St.canZcr ⟨env,rows⟩ d all j r i m (some (.arr q es))=⟨put d (.agg (gu all j (.lst .m q (dw (sub es i m))))) env,put r .dead rows⟩:=rfl
theorem Bx(σ:St)(far:Bool)(d k j:Nat)(ds:List Can):σ.can (.e far d k j::ds)=(σ.canE far d k j (gp j (some (.var (σ.get k))))).can ds:=rfl
theorem Ri(env:List (Nat×AV))(rows:List (Nat×Row))(far:Bool)(d k j q i m:Nat):St.canE ⟨env,rows⟩ far d k j (.sl q i m)=if q=d\/far=false/\1000000000<=q then⟨env,rows⟩ else⟨(env.map fun p=>(p.1,p.2.hush d)).map fun p=>(p.1,p.2.ren q d),((del d rows).map fun p=>(p.1,p.2.hush d)).map fun p=>(if p.1=q then d else p.1,p.2.map (·.ren q d))⟩:=rfl
theorem LI(env:List (Nat×AV))(rows:List (Nat×Row))(far:Bool)(d k j m:Nat):St.canE ⟨env,rows⟩ far d k j (.lst .u m [])=St.canEN ⟨env,rows⟩ d k j m (aG k (env.map fun p=>(p.1,p.2.hush d))):=rfl
theorem UR(σ:St)(far:Bool)(d r j n:Nat)(xs:List AV):σ.canE far d r j (.lst .o n xs)=σ:=rfl
theorem Tl(σ:St)(far:Bool)(d r j n:Nat)(xs:List AV):σ.canE far d r j (.lst .m n xs)=σ:=rfl
theorem SB(σ:St)(far:Bool)(d r j n:Nat)(xs:List AV):σ.canE far d r j (.lst .s n xs)=σ:=rfl
theorem FR(env:List (Nat×AV))(rows:List (Nat×Row))(d k j m:Nat)(cs:List AV):St.canEN ⟨env,rows⟩ d k j m (some (.agg cs))=⟨put k (.agg (gu cs j (.sl d 0 0))) (env.map fun p=>(p.1,p.2.hush d)),put d (.arr m []) ((del d rows).map fun p=>(p.1,p.2.hush d))⟩:=rfl
theorem Dq(σ:St)(r:Nat)(ds:List Can):σ.can (.w r::ds)=(σ.canX r (aG r σ.rows)).can ds:=rfl
theorem GS(env:List (Nat×AV))(rows:List (Nat×Row))(r n:Nat)(es:List AV):St.canX ⟨env,rows⟩ r (some (.arr n es))=⟨env,put r (.arr n (es.map AV.als)) rows⟩:=by simp[St.canX,ij]
theorem CO(σ:St)(r:Nat):σ.canX r none=σ:=rfl
theorem Ki(σ:St)(r:Nat)(cs:List AV):σ.canX r (some (.var (.agg cs)))=σ.canXc r cs 0 cs:=rfl
theorem DK(σ:St)(r j:Nat)(all:List AV):σ.canXc r all j []=σ:=by unfold St.canXc;rfl
theorem IK(σ:St)(r j:Nat)(all cs:List AV)(q i m:Nat):σ.canXc r all j (.sl q i m::cs)=σ.canXcr r all j q i m (aG q σ.rows):=by rw[St.canXc]
theorem yq(σ:St)(r j:Nat)(all cs:List AV)(n:Nat)(xs:List AV):σ.canXc r all j (.lst .o n xs::cs)=σ.canXc r all (j+1) cs:=by rw[St.canXc]<;>(intros;simp_all)
theorem yl(σ:St)(r j:Nat)(all cs:List AV)(n:Nat)(xs:List AV):σ.canXc r all j (.lst .m n xs::cs)=σ.canXc r all (j+1) cs:=by rw[St.canXc]<;>(intros;simp_all)
theorem xL(σ:St)(r j:Nat)(all cs:List AV)(n:Nat)(xs:List AV):σ.canXc r all j (.lst .s n xs::cs)=σ.canXc r all (j+1) cs:=by rw[St.canXc]<;>(intros;simp_all)
theorem yS(σ:St)(r j:Nat)(all cs:List AV)(n:Nat):σ.canXc r all j (.lst .u n []::cs)=⟨σ.env,put r (.var (.agg (gu all j (.lst .m n [])))) σ.rows⟩:=by rw[St.canXc]
theorem Ha(σ:St)(r j:Nat)(all cs:List AV)(v:Value):σ.canXc r all j (.sc v::cs)=σ.canXc r all (j+1) cs:=by rw[St.canXc]<;>(intros;contradiction)
theorem EM(env:List (Nat×AV))(rows:List (Nat×Row))(r j:Nat)(all:List AV)(q i m k:Nat)(es:List AV):St.canXcr ⟨env,rows⟩ r all j q i m (some (.arr k es))=⟨env,put r (.var (.agg (gu all j (.lst .m k (dw (sub es i m)))))) (put q .dead rows)⟩:=rfl
theorem Cu(σ:St)(r:Nat):σ.canX r (some .dead)=σ:=rfl
theorem yg(j:Nat)(cs:List AV):gp j (some (.var (.agg cs)))=rl cs j:=rfl
theorem CQ(q i m:Nat):gp 0 (some (.var (.sl q i m)))=.sl q i m:=rfl
theorem xy(f:Fl)(m:Nat)(xs:List AV):gp 0 (some (.var (.lst f m xs)))=.lst f m xs:=rfl
theorem Ug(x:AV)(xs:List AV):rl (x::xs) 0=x:=rfl
theorem Ul(x:AV)(xs:List AV)(j:Nat):rl (x::xs) (j+1)=rl xs j:=rfl
theorem SC(x y:AV)(xs:List AV):gu (x::xs) 0 y=y::xs:=rfl
theorem Ti(x y:AV)(xs:List AV)(j:Nat):gu (x::xs) (j+1) y=x::gu xs j y:=rfl
theorem QD(env:List (Nat×AV))(rows:List (Nat×Row))(far:Bool)(d r j q i m:Nat):St.canG ⟨env,rows⟩ far d r j (.sl q i m)=if q=d\/far=false/\1000000000<=q then⟨env,rows⟩ else⟨(env.map fun p=>(p.1,p.2.hush d)).map fun p=>(p.1,p.2.ren q d),((del d rows).map fun p=>(p.1,p.2.hush d)).map fun p=>(if p.1=q then d else p.1,p.2.map (·.ren q d))⟩:=rfl
theorem Mm(env:List (Nat×AV))(rows:List (Nat×Row))(far:Bool)(d r j m:Nat):St.canG ⟨env,rows⟩ far d r j (.lst .u m [])=St.canFN ⟨env,rows⟩ d r j m (aG r ((del d rows).map fun p=>(p.1,p.2.hush d))):=rfl
theorem KF(env:List (Nat×AV))(rows:List (Nat×Row))(d r j m k:Nat):St.canFN ⟨env,rows⟩ d r j m (some (.var (.lst .u k [])))=⟨env.map fun p=>(p.1,p.2.hush d),put d (.arr m []) (put r (.var (.sl d 0 0)) ((del d rows).map fun p=>(p.1,p.2.hush d)))⟩:=rfl
theorem GV(env:List (Nat×AV))(rows:List (Nat×Row))(d r j m:Nat)(cs:List AV):St.canFN ⟨env,rows⟩ d r j m (some (.var (.agg cs)))=⟨env.map fun p=>(p.1,p.2.hush d),put d (.arr m []) (put r (.var (.agg (gu cs j (.sl d 0 0)))) ((del d rows).map fun p=>(p.1,p.2.hush d)))⟩:=rfl
theorem PR(σ:St)(d r i n:Nat):σ.canV d (.sl r i n)=σ.canSl d r i n:=rfl
theorem LT(σ:St)(d n:Nat):σ.canV d (.lst .u n [])=σ.canNil d n:=rfl
theorem Ua(σ:St)(d n:Nat)(xs:List AV):σ.canV d (.lst .o n xs)=σ:=rfl
theorem Tr(σ:St)(d n:Nat)(xs:List AV):σ.canV d (.lst .m n xs)=σ:=rfl
theorem Ud(σ:St)(d n:Nat)(xs:List AV):σ.canV d (.lst .s n xs)=σ:=rfl
theorem Ve(env:List (Nat×AV))(rows:List (Nat×Row))(k:Nat):St.get ⟨env,rows⟩ k=(aG k env).getD .top:=rfl
theorem TW(env:List (Nat×AV))(rows:List (Nat×Row))(k:Nat):St.row ⟨env,rows⟩ k=aG k rows:=rfl
theorem gx_t(σ:St)(n:Nat):σ.gx (.t n)=σ.get n:=rfl
theorem gx_c(σ:St)(a:AV):σ.gx (.c a)=a:=rfl
theorem uT(env:List (Nat×AV))(rows:List (Nat×Row))(d:Nat)(v:AV)(u:List (Nat×Row)):St.app ⟨env,rows⟩ (some d) v u=⟨put d v env,bn u rows⟩:=rfl
theorem uS(env:List (Nat×AV))(rows:List (Nat×Row))(v:AV)(u:List (Nat×Row)):St.app ⟨env,rows⟩ none v u=⟨env,bn u rows⟩:=rfl
theorem ol(rows:List (Nat×Row)):bn [] rows=rows:=rfl
theorem mR(p:Nat×Row)(u rows:List (Nat×Row)):bn (p::u) rows=bn u (put p.1 p.2 rows):=rfl
theorem OG(env:List (Nat×AV))(rows:List (Nat×Row))(s:Nat)(b:Bool):St.know ⟨env,rows⟩ s b=⟨put s (.sc (.bool b)) env,rows⟩:=rfl
theorem Ip{α:Type}(k:Nat):aG k ([]:List (Nat×α))=none:=rfl
theorem Dg{α:Type}(k j:Nat)(x:α)(l:List (Nat×α)):aG k ((j,x)::l)=if j=k then some x else aG k l:=rfl
theorem Be{α:Type}(k:Nat)(x:α):put k x []=[(k,x)]:=rfl
theorem tU{α:Type}(k j:Nat)(x y:α)(l:List (Nat×α)):put k x ((j,y)::l)=if j=k then(k,x)::l else(j,y)::put k x l:=rfl
theorem Qy{α:Type}(k:Nat):del k ([]:List (Nat×α))=[]:=rfl
theorem Ia{α:Type}(k j:Nat)(x:α)(l:List (Nat×α)):del k ((j,x)::l)=if j=k then del k l else(j,x)::del k l:=rfl
theorem getD_some{α:Type}(x y:α):(some x).getD y=x:=rfl
theorem Dn{α:Type}(y:α):(none:Option α).getD y=y:=rfl
theorem Jk(env:List (Nat×AV))(rows:List (Nat×Row))(d r i n:Nat):St.canSr ⟨env,rows⟩ d r i n=if r=d then⟨env,rows⟩ else
 ⟨put d (.sl d i n) ((env.map fun p=>(p.1,p.2.hush d)).map fun p=>(p.1,p.2.ren r d)),
  ((del d rows).map fun p=>(p.1,p.2.hush d)).map fun p=>(if p.1=r then d else p.1,p.2.map (·.ren r d))⟩:=rfl
theorem GG(env:List (Nat×AV))(rows:List (Nat×Row))(d i m r q:Nat)(es:List AV):St.canZr ⟨env,rows⟩ d i m r (some (.arr q es))=⟨put d (.lst .m q (dw (sub es i m))) env,put r .dead rows⟩:=rfl
theorem HF(env:List (Nat×AV))(rows:List (Nat×Row))(d r i n:Nat):St.canSl ⟨env,rows⟩ d r i n=if r=d\/1000000000<=r then⟨env,rows⟩ else
 ⟨put d (.sl d i n) ((env.map fun p=>(p.1,p.2.hush d)).map fun p=>(p.1,p.2.ren r d)),
  ((del d rows).map fun p=>(p.1,p.2.hush d)).map fun p=>(if p.1=r then d else p.1,p.2.map (·.ren r d))⟩:=rfl
theorem CF(env:List (Nat×AV))(rows:List (Nat×Row))(d n:Nat):St.canNil ⟨env,rows⟩ d n=
 ⟨put d (.sl d 0 0) (env.map fun p=>(p.1,p.2.hush d)),put d (.arr n []) ((del d rows).map fun p=>(p.1,p.2.hush d))⟩:=rfl
theorem Tu(σ:St)(lv lr:List Nat):σ.res lv lr=⟨lv.map fun k=>(k,σ.get k),lr.map fun r=>(r,(σ.row r).getD .dead)⟩:=rfl
theorem LR(σ:St)(lv lr:List Nat):σ.resOk lv lr=((∀k∈lv,∀r∈(σ.get k).ments,r∈lr)/\(∀q∈lr,∀r∈((σ.row q).getD .dead).ments,r∈lr)/\lr.Nodup):=rfl
theorem Bw(r:Nat)(x:AV):Row.hush r (.var x)=if r∈x.ments then .dead else .var x:=rfl
theorem CK(r:Nat)(n:Nat)(x:List AV):Row.hush r (.arr n x)=.arr n x:=rfl
theorem xc(r:Nat):Row.hush r .dead=.dead:=rfl
theorem Lq(h:AV->AV)(x:AV):Row.map h (.var x)=.var (h x):=rfl
theorem GR(h:AV->AV)(n:Nat)(x:List AV):Row.map h (.arr n x)=.arr n x:=rfl
theorem BD(h:AV->AV):Row.map h .dead=.dead:=rfl
theorem wP(x:AV):Row.ments (.var x)=x.ments:=rfl
theorem yB(n:Nat)(x:List AV):Row.ments (.arr n x)=[]:=rfl
theorem vf:Row.ments .dead=[]:=rfl
theorem Nm(r:Nat)(a:AV):a.hush r=if r∈a.ments then .top else a:=rfl
theorem Hp(v:Value):(AV.sc v).ments=[]:=by simp[AV.ments]
theorem El(f:Fl)(n:Nat)(x:List AV):(AV.lst f n x).ments=[]:=by simp[AV.ments]
theorem FE(f:Fl)(n:Nat)(x:List AV):(AV.tg f n x).ments=[]:=by simp[AV.ments]
theorem IE(f:Fl)(x:AV)(n:Nat):(AV.bp f x n).ments=[]:=by simp[AV.ments]
theorem De:AV.top.ments=[]:=by simp[AV.ments]
theorem Hi(r i n:Nat):(AV.sl r i n).ments=[r]:=by simp[AV.ments]
theorem Mg(r i n:Nat):(AV.pt r i n).ments=[r]:=by simp[AV.ments]
theorem Ct(cs:List AV):(AV.agg cs).ments=aO cs:=by simp[AV.ments]
theorem Hn(f:Nat)(cs:List AV):(AV.fn f cs).ments=aO cs:=by simp[AV.ments]
theorem BH(cs:List AV):(AV.tup cs).ments=aO cs:=by simp[AV.ments]
theorem xW:aO []=[]:=by simp[aO]
theorem ua(c:AV)(cs:List AV):aO (c::cs)=c.ments++aO cs:=by simp[aO]
theorem dR(v:Value):(AV.sc v).fz=true:=by simp[AV.fz]
theorem cm(n:Nat)(xs:List AV):(AV.lst .o n xs).fz=fzL xs:=by simp[AV.fz]
theorem cU(cs:List AV):(AV.agg cs).fz=fzL cs:=by simp[AV.fz]
theorem co:fzL []=true:=by simp[fzL]
theorem bS(c:AV)(cs:List AV):fzL (c::cs)=(c.fz&&fzL cs):=by simp[fzL]
theorem dU(v:Value):(AV.sc v).ouB=true:=by simp[AV.ouB]
theorem cq(n:Nat)(xs:List AV):(AV.lst .u n xs).ouB=cM xs:=by simp[AV.ouB]
theorem cY(cs:List AV):(AV.agg cs).ouB=cM cs:=by simp[AV.ouB]
theorem cn:cM []=true:=by simp[cM]
theorem bP(c:AV)(cs:List AV):cM (c::cs)=(c.ouB&&cM cs):=by simp[cM]
theorem cO(xs:List Int):fzL (xs.map AV.i)=true:=by induction xs<;>simp_all [fzL,AV.fz]
theorem cS(xs:List Bool):fzL (xs.map AV.b)=true:=by induction xs<;>simp_all [fzL,AV.fz]
theorem cV(xs:List ByteArray):fzL (xs.map AV.z)=true:=by induction xs<;>simp_all [fzL,AV.fz]
theorem cX(xs:List Int):fzL (xs.map AV.u8)=true:=by induction xs<;>simp_all [fzL,AV.fz]
theorem cu(xs:List Int):fzL (xs.map AV.u64)=true:=by induction xs<;>simp_all [fzL,AV.fz]
theorem cP(xs:List Int):cM (xs.map AV.u8)=true:=by induction xs<;>simp_all [cM,AV.ouB]
theorem cr(xs:List Int):cM (xs.map AV.u64)=true:=by induction xs<;>simp_all [cM,AV.ouB]
theorem cW(xs:List Int):cM (xs.map AV.i)=true:=by induction xs<;>simp_all [cM,AV.ouB]
theorem cR(xs:List Bool):cM (xs.map AV.b)=true:=by induction xs<;>simp_all [cM,AV.ouB]
theorem cZ(xs:List ByteArray):cM (xs.map AV.z)=true:=by induction xs<;>simp_all [cM,AV.ouB]
theorem xi(x:AV)(off n:Nat):part x off n false=x.cells[off]?:=rfl
theorem CJ(cs:List AV)(off n:Nat):part (.agg cs) off n true=if off+n<=cs.length then some (if off=0/\n=cs.length then .agg cs else .agg ((cs.drop off).take n)) else none:=by
 unfold part;by_cases h:off+n<=cs.length
 ·rw[if_pos rfl,if_pos ⟨rfl,h⟩,if_pos h];rfl
 ·rw[if_pos rfl,if_neg (fun e=>h e.2),if_neg h]
theorem sK(cs:List AV)(off:Nat)(v:Value):setPart (.agg cs) off (.sc v)=if off+1<=cs.length then some (.agg (fill cs off (.sc v))) else none:=rfl
theorem uZ(cs:List AV)(off r i n:Nat):setPart (.agg cs) off (.sl r i n)=if off+1<=cs.length then some (.agg (fill cs off (.sl r i n))) else none:=rfl
theorem tC(cs:List AV)(off n:Nat)(f:Fl)(xs:List AV):setPart (.agg cs) off (.lst f n xs)=if off+1<=cs.length then some (.agg (fill cs off (.lst f n xs))) else none:=rfl
theorem tB(cs vs:List AV)(off:Nat):setPart (.agg cs) off (.agg vs)=if off=0/\vs.length=cs.length then some (.agg vs) else if off+vs.length<=cs.length then some (.agg (fill cs off (.agg vs))) else none:=rfl
theorem yO(x v:Value):setPart (.sc x) 0 (.sc v)=some (.sc v):=by simp[setPart,AV.isAgg,AV.width]
theorem uA(f:Fl)(n:Nat)(xs:List AV)(f':Fl)(n':Nat)(xs':List AV):setPart (.lst f n xs) 0 (.lst f' n' xs')=some (.lst f' n' xs'):=by simp[setPart,AV.isAgg,AV.width]
theorem qB(f:Fl)(n:Nat)(xs:List AV)(r i k:Nat):setPart (.lst f n xs) 0 (.sl r i k)=some (.sl r i k):=by simp[setPart,AV.isAgg,AV.width]
theorem tc(r' i' k' r i k:Nat):setPart (.sl r' i' k') 0 (.sl r i k)=some (.sl r i k):=by simp[setPart,AV.isAgg,AV.width]
theorem Bt(cs:List AV):(AV.agg cs).cells=cs:=rfl
theorem MV(v:Value):(AV.sc v).cells=[.sc v]:=rfl
theorem EG(f:Fl)(n:Nat)(xs:List AV):(AV.lst f n xs).cells=[.lst f n xs]:=rfl
theorem EU(r i n:Nat):(AV.sl r i n).cells=[.sl r i n]:=rfl
theorem Ie(f:Nat)(cs:List AV):(AV.fn f cs).cells=[.fn f cs]:=rfl
theorem Cn(cs:List AV):(AV.agg cs).width=cs.length:=rfl
theorem Im(v:Value):(AV.sc v).width=1:=rfl
theorem Ce(f:Fl)(n:Nat)(xs:List AV):(AV.lst f n xs).width=1:=rfl
theorem Mq(r i n:Nat):(AV.sl r i n).width=1:=rfl
theorem Ib(f:Nat)(cs:List AV):(AV.fn f cs).width=1:=rfl
theorem Ol(cs:List AV)(off:Nat)(v:AV):fill cs off v=cs.take off++v.cells++cs.drop (off+v.cells.length):=rfl
theorem DX(cs:List AV):kF cs []=cs:=rfl
theorem yz(cs:List AV)(off:Nat)(v:AV)(l:List (Nat×AV)):kF cs ((off,v)::l)=kF (fill cs off v) l:=rfl
theorem Oc(rs:List RV)(res:AV)(σ:St):fin rs res .ret σ=opt (RVs.val σ rs) fun xs=>(aO xs).Nodup/\lift σ.row 3 (gH xs)=res:=by
 simp only[fin,opt];cases RVs.val σ rs<;>simp
theorem Nk(rs:List RV)(res:AV)(σ:St):fin rs res .nrm σ=opt (RVs.val σ rs) fun xs=>(aO xs).Nodup/\lift σ.row 3 (gH xs)=res:=by
 simp only[fin,opt];cases RVs.val σ rs<;>simp
def UQ(o:Option Row)(k:Nat)(ag:Bool):Option AV:=match o with
 |some (.var y)=>part y 0 k ag
 |_=>none
def rvC(σ:St)(a:AV)(k:Nat)(ag:Bool):Option AV:=match a with
 | .pt r 0 0=>UQ (σ.row r) k ag
 |_=>none
theorem rv_t(σ:St)(n:Nat):RV.val σ (.t n)=some (σ.get n):=rfl
theorem rv_c(σ:St)(n k:Nat)(ag:Bool):RV.val σ (.c n k ag)=rvC σ (σ.get n) k ag:=by simp only[RV.val];rfl
theorem SO(σ:St)(r k:Nat)(ag:Bool):rvC σ (.pt r 0 0) k ag=UQ (σ.row r) k ag:=rfl
theorem Gr(y:AV)(k:Nat)(ag:Bool):UQ (some (.var y)) k ag=part y 0 k ag:=rfl
def Si(x:Option AV)(xs:Option (List AV)):Option (List AV):=match x,xs with
 |some x,some xs=>some (x::xs)
 |_,_=>none
theorem QZ(σ:St):RVs.val σ []=some []:=rfl
theorem Gh(σ:St)(r:RV)(rs:List RV):RVs.val σ (r::rs)=Si (r.val σ) (RVs.val σ rs):=by simp only[RVs.val];rfl
theorem xV(x:AV)(xs:List AV):Si (some x) (some xs)=some (x::xs):=rfl
theorem Ig(x:AV):gH [x]=x:=rfl
theorem LB(x y:AV)(l:List AV):gH (x::y::l)=.tup (x::y::l):=rfl
theorem HT(args:List AV):St.start args=⟨St.start.go 0 args,[]⟩:=rfl
theorem Dm(n:Nat):St.start.go n []=[]:=rfl
theorem xF(n:Nat)(a:AV)(l:List AV):St.start.go n (a::l)=(n,a)::St.start.go (n+1) l:=rfl
theorem aL(ok:Oks)(a:ar)(rs:List RV)(args:List AV)(res:AV):Sp ok a rs args res=AWP ok a (fin rs res) (St.start args):=rfl
theorem fl1:Fl.als .u=.m:=rfl
theorem fl2:Fl.als .o=.o:=rfl
theorem fl3:Fl.als .s=.s:=rfl
theorem fl4:Fl.als .m=.m:=rfl
theorem fl5:Fl.fix .u=.u:=rfl
theorem fl6:Fl.fix .o=.s:=rfl
theorem fl7:Fl.fix .s=.s:=rfl
theorem fl8:Fl.fix .m=.m:=rfl
theorem oe{α β:Type}(f:α->β)(x:α)(l:List α):(x::l).map f=f x::l.map f:=rfl
theorem rO{α β:Type}(f:α->β):[].map f=[]:=rfl
theorem Ds{α:Type}(l:List α):l++[]=l:=List.append_nil l
theorem sf{α:Type}(l:List α):[]++l=l:=rfl
theorem pp{α:Type}(x:α)(k l:List α):(x::k)++l=x::(k++l):=rfl
theorem xR{α:Type}(x:α)(l:List α):(x::l).length=l.length+1:=rfl
theorem BN{α:Type}:([]:List α).length=0:=rfl
theorem se{α β:Type}(f:α->β)(l:List α):(l.map f).length=l.length:=List.length_map ..
theorem UC{α:Type}(x:α)(l:List α):(x::l)[0]?=some x:=rfl
theorem Vd{α:Type}(x:α)(l:List α)(n:Nat):(x::l)[n+1]?=l[n]?:=rfl
theorem Fj{α β:Type}(f:α->β)(l:List α)(n:Nat):(l.map f)[n]?=(l[n]?).map f:=List.getElem?_map ..
theorem wN{α β:Type}(f:α->β)(x:α):(some x).map f=some (f x):=rfl
theorem xZ{α β:Type}(f:α->β):(none:Option α).map f=none:=rfl
theorem Mr{α:Type}(l:List α):l.take 0=[]:=rfl
theorem KY{α:Type}(x:α)(l:List α)(n:Nat):(x::l).take (n+1)=x::l.take n:=rfl
theorem JA{α:Type}(l:List α):l.drop 0=l:=rfl
theorem Ga{α:Type}(x:α)(l:List α)(n:Nat):(x::l).drop (n+1)=l.drop n:=rfl
theorem GA{α:Type}(n:Nat):([]:List α).drop n=[]:=List.drop_nil
theorem Fs{α:Type}(n:Nat):([]:List α).take n=[]:=List.take_nil
theorem PS(l:List Int):u8s (l.map AV.u8)=some l:=by induction l<;>simp_all [u8s]
theorem xQ(n:Nat):((n:Int)).toNat=n:=rfl
theorem JP{ok:Oks}{a:ar}{Q:Ex->St->Prop}{σ:St}(lv lr:List Nat)(I:St->Prop)(μ:St->Nat)(h0:σ.resOk lv lr)(h1:I (σ.res lv lr))(h2:∀τ,I τ->AWP ok a (thn (fun τ'=>τ'.resOk lv lr/\I (τ'.res lv lr)/\μ (τ'.res lv lr)<μ τ) Q) τ):AWP ok (.loop a) Q σ:=by
 simp only[AWP];exact⟨lv,lr,I,μ,h0,h1,h2⟩
theorem HH{ok:Oks}{ρ:Nat->Option Row}{d f:Nat}{args:List AV}{K:AV->List (Nat×Row)->Prop}{res:AV}(h:ok.p f (args.map (snp ρ 4)) res)(hu:res.allU)(hn:∀p∈(adopt 4 d res).2.1,ρ p.1=none/\p.1<1000000000)(hk:K (adopt 4 d res).1 (adopt 4 d res).2.1):fT ok ρ d f args K:=⟨res,h,.inl hu,hn,hk⟩
theorem Jh{ok:Oks}{ρ:Nat->Option Row}{d f:Nat}{args:List AV}{K:AV->List (Nat×Row)->Prop}{v:Value}(h:ok.p f (args.map (snp ρ 4)) (.sc v))(hk:K (.sc v) []):fT ok ρ d f args K:=⟨.sc v,h,.inl (by simp[AV.allU]),by simp[lB],by simpa[lB] using hk⟩
theorem wG{ok:Oks}{ρ:Nat->Option Row}{d f:Nat}{args:List AV}{rs:List Nat}{K:AV->List (Nat×Row)->Prop}{res:AV}{outs:List (Nat×Row)}(h:ok.m f (args.map (AV.rg (cnm rs))) (rs.map (gK ρ rs)) res outs)(h1:rs.Nodup/\(∀r∈rs,cQ (ρ r))/\(∀r∈rs,∀q∈mH (ρ r),q∈rs)/\(∀r∈aO args,r∈rs))(h2:(outs.map fun p=>bkn d rs p.1).Nodup/\(∀p∈outs,1000000000<=p.1->p.1-1000000000<rs.length)/\(∀p∈outs,p.1<1000000000->ρ (bkn d rs p.1)=none/\bkn d rs p.1<1000000000))(hk:K (res.rg (bkn d rs)) (bX rs++outs.map (ft d rs))):callM ok ρ d f args rs K:=⟨res,outs,h,h1,h2,hk⟩
theorem fN{α:Type}{e:α->AV}(h:∀x,(e x).fz=true)(xs:List α):fzL (xs.map e)=true:=by induction xs<;>simp_all [fzL]
theorem fS{α:Type}{e:α->AV}(h:∀x,(e x).ouB=true)(xs:List α):cM (xs.map e)=true:=by induction xs<;>simp_all [cM]
theorem ZI{A B:Prop}(a:A)(b:B):A/\B:=⟨a,b⟩
def VS1:=ZI @iy (ZI @ij (ZI @fK (ZI @Tp (ZI @PY (ZI @Vk (ZI @PW (ZI @TU (ZI @SJ (ZI @SX (ZI @Eb (ZI @Uc (ZI @BZ (ZI @Nt (ZI @ME (ZI @Mx (ZI @JK (ZI @Pw (ZI @xw (ZI @lB (ZI @zG (ZI @zy (ZI @zf (ZI @zD (ZI @rN (ZI @rR (ZI @so (ZI @qw (ZI @cz (ZI @eA (ZI @eh (ZI @SS (ZI @dC (ZI @eo (ZI @eu (ZI @dQ (ZI @dS (ZI @dT (ZI @ey (ZI @et (ZI @dP (ZI @Cp (ZI @Cw (ZI @rL (ZI @mP (ZI @mG (ZI @km (ZI @wW (ZI @Du (ZI @EB (ZI @Cv (ZI @wY (ZI @oP (ZI @OJ (ZI @c_eq (ZI @Wj (ZI @TD (ZI @PZ (ZI @Hk (ZI @Vv (ZI @Sx (ZI @Qb (ZI @Oa (ZI @HP (ZI @Ji (ZI @Ik (ZI @UZ (ZI @TV (ZI @Um (ZI @VF (ZI @Wo (ZI @VZ (ZI @VW (ZI @TL (ZI @TH (ZI @VG (ZI @Wp (ZI @QY (ZI @lV (ZI @RS (ZI @Ls (ZI @RF (ZI @Sf (ZI @Gt @HJ)))))))))))))))))))))))))))))))))))))))))))))))))))))))))))))))))))))))))))))))))))
def VS2:=ZI @Ry (ZI @HQ (ZI @RE (ZI @RH (ZI @AB (ZI @Az (ZI @vV (ZI @uo (ZI @Fh (ZI @LC (ZI @JY (ZI @wq (ZI @yU (ZI @xm (ZI @zu (ZI @AF (ZI @Tn (ZI @PM (ZI @Tv (ZI @TK (ZI @PC (ZI @Rb (ZI @Vr (ZI @OU (ZI @SQ (ZI @SV (ZI @Lp (ZI @QU (ZI @QP (ZI @OY (ZI @GZ (ZI @UY (ZI @Ui (ZI @Sr (ZI @LW (ZI @GO (ZI @Wd (ZI @UJ (ZI @Nq (ZI @Qa (ZI @Kj (ZI @OS (ZI @OO (ZI @Tx (ZI @Nu (ZI @NB (ZI @Sw (ZI @QV (ZI @Ue (ZI @Jp (ZI @NX (ZI @Oz (ZI @Ec (ZI @QM (ZI @ED (ZI @Ns (ZI @yH (ZI @xx (ZI @zS (ZI @Wr (ZI @KK (ZI @Iq (ZI @Hy (ZI @tX (ZI @vp (ZI @Kt (ZI @DU (ZI @CS (ZI @tA (ZI @LS (ZI @tq (ZI @Nb (ZI @Ci (ZI @NR (ZI @Qw (ZI @Pn (ZI @Oi (ZI @US (ZI @Tq (ZI @Tw (ZI @OI (ZI @NK (ZI @Qv @Vx))))))))))))))))))))))))))))))))))))))))))))))))))))))))))))))))))))))))))))))))))
def VS3:=ZI @Uz (ZI @TI (ZI @Jl (ZI @Jb (ZI @Oj (ZI @QL (ZI @SH (ZI @TJ (ZI @Qn (ZI @Sy (ZI @TZ (ZI @TG (ZI @Fw (ZI @Qf (ZI @PX (ZI @Sq (ZI @NE (ZI @LQ (ZI @EA (ZI @OL (ZI @Ur (ZI @KA (ZI @VJ (ZI @Pu (ZI @bV_i (ZI @PV (ZI @Nf (ZI @Ow (ZI @Po (ZI @PE (ZI @SN (ZI @NL (ZI @SF (ZI @Tj (ZI @QH (ZI @OD (ZI @Vn (ZI @Ll (ZI @PP (ZI @Wq (ZI @VD (ZI @VM (ZI @Wc (ZI @Qs (ZI @Rc (ZI @Kq (ZI @Ln (ZI @NV (ZI @Pg (ZI @Qo (ZI @HZ (ZI @Iv (ZI @NT (ZI @BX (ZI @HY (ZI @Hx (ZI @Rh (ZI @PJ (ZI @GE (ZI @Nj (ZI @OP (ZI @Ms (ZI @Lo (ZI @QF (ZI @Nx (ZI @UA (ZI @Pc (ZI @UP (ZI @PF (ZI @Fv (ZI @Ox (ZI @CY (ZI @ND (ZI @Pd (ZI @Lv (ZI @Rf (ZI @Rj (ZI @Oq (ZI @Vb (ZI @UM @CI)))))))))))))))))))))))))))))))))))))))))))))))))))))))))))))))))))))))))))))))
def VS4:=ZI @Ov (ZI @Jc (ZI @Qt (ZI @Cj (ZI @NF (ZI @Dw (ZI @Ql (ZI @PO (ZI @Bu (ZI @Qz (ZI @Pt (ZI @Ej (ZI @OA (ZI @QI (ZI @QE (ZI @GL (ZI @Nl (ZI @Cf (ZI @No (ZI @wQ (ZI @Dt (ZI @II (ZI @LO (ZI @vL (ZI @CP (ZI @MX (ZI @QB (ZI @Ot (ZI @UV (ZI @Ws (ZI @SG (ZI @VN (ZI @Ng (ZI @NM (ZI @OE (ZI @QJ (ZI @PI (ZI @Pk (ZI @TF (ZI @PL (ZI @xg (ZI @Qp (ZI @Qu (ZI @PD (ZI @NZ (ZI @Rd (ZI @Oy (ZI @Pp (ZI @QG (ZI @Wi (ZI @Wk (ZI @Lw (ZI @KP (ZI @Hf (ZI @Vl (ZI @Ub (ZI @Ml (ZI @DD (ZI @yC (ZI @yk (ZI @SY (ZI @SL (ZI @KH (ZI @FV (ZI @NH (ZI @NI (ZI @zo (ZI @OZ (ZI @CZ (ZI @Cq (ZI @Ca (ZI @Cd (ZI @Fa (ZI @PH @MT)))))))))))))))))))))))))))))))))))))))))))))))))))))))))))))))))))))))))
def VS5:=ZI @DQ (ZI @Cg (ZI @PU (ZI @FK (ZI @SA (ZI @Vt (ZI @TS (ZI @UL (ZI @Vp (ZI @TP (ZI @Ef (ZI @Nc (ZI @MY (ZI @HE (ZI @Eg (ZI @Gi (ZI @DB (ZI @GN (ZI @CH (ZI @Bx (ZI @Ri (ZI @LI (ZI @UR (ZI @Tl (ZI @SB (ZI @FR (ZI @Dq (ZI @GS (ZI @CO (ZI @Ki (ZI @DK (ZI @IK (ZI @yq (ZI @yl (ZI @xL (ZI @yS (ZI @Ha (ZI @EM (ZI @Cu (ZI @yg (ZI @CQ (ZI @xy (ZI @Ug (ZI @Ul (ZI @SC (ZI @Ti (ZI @QD (ZI @Mm (ZI @KF (ZI @GV (ZI @PR (ZI @LT (ZI @Ua (ZI @Tr (ZI @Ud (ZI @Ve (ZI @TW (ZI @gx_t (ZI @gx_c (ZI @uT (ZI @uS (ZI @ol (ZI @mR (ZI @OG (ZI @Ip (ZI @Dg (ZI @Be (ZI @tU (ZI @Qy (ZI @Ia (ZI @getD_some (ZI @Dn (ZI @Jk (ZI @GG (ZI @HF (ZI @CF (ZI @Tu (ZI @LR (ZI @Bw (ZI @CK (ZI @xc (ZI @Lq (ZI @GR (ZI @BD @wP)))))))))))))))))))))))))))))))))))))))))))))))))))))))))))))))))))))))))))))))))))
def VS6:=ZI @yB (ZI @vf (ZI @Nm (ZI @Hp (ZI @El (ZI @FE (ZI @IE (ZI @De (ZI @Hi (ZI @Mg (ZI @Ct (ZI @Hn (ZI @BH (ZI @xW (ZI @ua (ZI @xi (ZI @CJ (ZI @sK (ZI @uZ (ZI @tC (ZI @tB (ZI @yO (ZI @uA (ZI @qB (ZI @tc (ZI @Bt (ZI @MV (ZI @EG (ZI @EU (ZI @Ie (ZI @Cn (ZI @Im (ZI @Ce (ZI @Mq (ZI @Ib (ZI @Ol (ZI @DX (ZI @yz (ZI @Oc (ZI @Nk (ZI @rv_t (ZI @rv_c (ZI @SO (ZI @Gr (ZI @QZ (ZI @Gh (ZI @xV (ZI @Ig (ZI @LB (ZI @HT (ZI @Dm (ZI @xF (ZI @aL (ZI @fl1 (ZI @fl2 (ZI @fl3 (ZI @fl4 (ZI @fl5 (ZI @fl6 (ZI @fl7 (ZI @fl8 (ZI @oe (ZI @rO (ZI @Ds (ZI @sf (ZI @pp (ZI @xR (ZI @BN (ZI @se (ZI @UC (ZI @Vd (ZI @Fj (ZI @wN (ZI @xZ (ZI @Mr (ZI @KY (ZI @JA (ZI @Ga (ZI @GA (ZI @Fs (ZI @PS @xQ))))))))))))))))))))))))))))))))))))))))))))))))))))))))))))))))))))))))))))))))
def VA:=ZI @fK (ZI @lB (ZI @zG (ZI @zy (ZI @zf (ZI @zD (ZI @rN (ZI @rR (ZI @so (ZI @qw (ZI @dQ (ZI @dS (ZI @dT (ZI @dP (ZI @rL (ZI @km (ZI @oP (ZI @Ji (ZI @Ik (ZI @lV (ZI @RS (ZI @Ls (ZI @RF (ZI @Sf (ZI @Gt (ZI @HJ (ZI @Ry (ZI @HQ (ZI @RE (ZI @RH (ZI @AB (ZI @Az (ZI @vV (ZI @uo (ZI @Fh (ZI @LC (ZI @wq (ZI @zu (ZI @AF (ZI @zS (ZI @zo (ZI @uT (ZI @uS (ZI @ol (ZI @mR (ZI @Be (ZI @tU (ZI @fl5 (ZI @fl6 (ZI @fl7 (ZI @fl8 (ZI @oe (ZI @rO (ZI @sf (ZI @pp (@se)))))))))))))))))))))))))))))))))))))))))))))))))))))))
end Vs

