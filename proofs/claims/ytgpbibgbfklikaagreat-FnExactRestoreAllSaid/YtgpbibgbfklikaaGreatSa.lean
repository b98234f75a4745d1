/-
  Part of the proof that FnExactRestoreAll returns true at every input.
-/
import Derived.Calls
import Derived.Below
set_option linter.defProp false
set_option linter.unusedSimpArgs false
set_option linter.unusedVariables false
namespace Vs
open Go
inductive Fl where|o|s|m|u
 deriving DecidableEq
def Fl.als:Fl->Fl
 | .u=>.m
 |f=>f
def Fl.fix:Fl->Fl
 | .o=>.s
 |f=>f
inductive AV where
 |sc (v:Value)
 |lst (f:Fl) (n:Nat) (xs:List AV)
 |tg (f:Fl) (n:Nat) (xs:List AV)
 |agg (cs:List AV)
 |bp (f:Fl) (x:AV) (off:Nat)
 |sl (r i n:Nat)
 |pt (r i off:Nat)
 |fn (f:Nat) (cs:List AV)
 |tup (vs:List AV)
 |ub
 |top
instance:Inhabited AV:=⟨.top⟩
abbrev AV.i(n:Int):AV:=.sc (.int .i64 n)
abbrev AV.u8(n:Int):AV:=.sc (.int .u8 n)
abbrev AV.u64(n:Int):AV:=.sc (.int .u64 n)
abbrev AV.b(b:Bool):AV:=.sc (.bool b)
abbrev AV.z(s:ByteArray):AV:=.sc (.string s)
def AV.width:AV->Nat
 | .agg cs=>cs.length
 | .top=>0
 | .tup _=>0
 |_=>1
def AV.isAgg:AV->Bool
 | .agg _=>true
 |_=>false
def AV.cells:AV->List AV
 | .agg cs=>cs
 | .top=>[]
 | .tup _=>[]
 |x=>[x]
def AV.flat:AV->Bool
 | .sc _=>true
 | .agg cs=>cs.all fun| .sc _=>true|_=>false
 |_=>false
mutual
def AV.nrm:AV->AV
 | .sc v=>.sc v
 | .lst _ n xs=>.lst .o n (iw xs)
 | .tg _ n xs=>.lst .o n (iw xs)
 | .agg cs=>.agg (iw cs)
 | .bp _ x off=>.bp .o x.nrm off
 | .fn f cs=>.fn f (iw cs)
 |_=>.top
def iw:List AV->List AV
 |[]=>[]
 |c::cs=>c.nrm::iw cs
end
mutual
def AV.als:AV->AV
 | .sc v=>.sc v
 | .lst f n xs=>.lst f.als n (dM xs)
 | .agg cs=>.agg (dM cs)
 |_=>.top
def dM:List AV->List AV
 |[]=>[]
 |c::cs=>c.als::dM cs
end
mutual
def AV.fix:AV->AV
 | .sc v=>.sc v
 | .lst f n xs=>.lst f.fix n (gt xs)
 | .agg cs=>.agg (gt cs)
 | .tup cs=>.tup (gt cs)
 | .fn f cs=>.fn f (gt cs)
 |_=>.top
def gt:List AV->List AV
 |[]=>[]
 |c::cs=>c.fix::gt cs
end
mutual
def AV.ments:AV->List Nat
 | .sl r _ _=>[r]
 | .pt r _ _=>[r]
 | .agg cs=>aM cs
 | .fn _ cs=>aM cs
 | .tup cs=>aM cs
 |_=>[]
def aM:List AV->List Nat
 |[]=>[]
 |c::cs=>c.ments++aM cs
end
mutual
def AV.allU:AV->Prop
 | .sc _=>True
 | .lst f _ xs=>f=.u/\kO xs
 | .agg cs=>kO cs
 | .tup cs=>kO cs
 |_=>False
def kO:List AV->Prop
 |[]=>True
 |c::cs=>c.allU/\kO cs
end
mutual
def AV.allO:AV->Prop
 | .sc _=>True
 | .lst f _ xs=>f=.o/\og xs
 | .agg cs=>og cs
 | .tup cs=>og cs
 |_=>False
def og:List AV->Prop
 |[]=>True
 |c::cs=>c.allO/\og cs
end
mutual
def AV.ou:AV->Prop
 | .sc _=>True
 | .lst f _ xs=>(f=.u/\ouL xs)\/(f=.o/\og xs)
 | .agg cs=>ouL cs
 | .tup cs=>ouL cs
 |_=>False
def ouL:List AV->Prop
 |[]=>True
 |c::cs=>c.ou/\ouL cs
end
mutual
def AV.noU:AV->Prop
 | .sc _=>True
 | .lst f _ xs=>f≠.u/\za xs
 | .agg cs=>za cs
 | .tup cs=>za cs
 |_=>False
def za:List AV->Prop
 |[]=>True
 |c::cs=>c.noU/\za cs
end
def sub(es:List AV)(i n:Nat):List AV:=if i=0/\n=es.length then es else(es.drop i).take n
def ec{α:Type}(es:List α)(i:Nat)(ys:List α):List α:=if i+ys.length<=es.length then es.take i++ys++es.drop (i+ys.length) else es
inductive Row where
 |var (x:AV)
 |arr (n:Nat) (es:List AV)
 |dead
def cA:Option Row->Prop
 |some (.var _)=>True
 |some (.arr _ _)=>True
 |_=>False
def az{α:Type}(k:Nat):List (Nat×α)->Option α
 |[]=>none
 |(j,x)::l=>if j=k then some x else az k l
def put{α:Type}(k:Nat)(x:α):List (Nat×α)->List (Nat×α)
 |[]=>[(k,x)]
 |(j,y)::l=>if j=k then(k,x)::l else(j,y)::put k x l
def ov(o:Option Row)(i n:Nat):AV:=match o with
 |some (.arr w es)=>.lst .o w (iw (sub es i n))
 |_=>.top
def mJ(h:AV->AV)(o:Option Row)(i off:Nat):AV:=match o with
 |some (.var y)=>if i=0 then .bp .o (h y) off else .top
 | some (.arr _ es) => match es[i]? with
   |some y=>.bp .o y.nrm off
   |none=>.top
 |_=>.top
def snp(ρ:Nat->Option Row):Nat->AV->AV
 |0,_=>.top
 | k + 1, x => match x with
   | .sl r i n=>ov (ρ r) i n
   | .pt r i off=>mJ (snp ρ k) (ρ r) i off
   | .agg cs=>.agg (cs.map (snp ρ k))
   | .fn f cs=>.fn f (cs.map (snp ρ k))
   |x=>x.nrm
def mA(o:Option Row)(i n:Nat):AV:=match o with
 |some (.arr w es)=>.lst .u w (sub es i n)
 |_=>.top
def lift(ρ:Nat->Option Row):Nat->AV->AV
 |0,_=>.top
 | k + 1, x => match x with
   | .sl r i n=>mA (ρ r) i n
   | .agg cs=>.agg (cs.map (lift ρ k))
   | .tup cs=>.tup (cs.map (lift ρ k))
   | .sc v=>.sc v
   | .lst f n xs=>.lst f n xs
   |_=>.top
def adopt:Nat->Nat->AV->AV×List (Nat×Row)×Nat
 |0,c,_=>(.top,[],c)
 | k + 1, c, x => match x with
   | .lst .u n es=>(.sl c 0 es.length,[(c,.arr n (gt es))],c+1000)
   | .agg cs=>let(l,u,c):=go k c cs;(.agg l,u,c)
   | .tup cs=>let(l,u,c):=go k c cs;(.tup l,u,c)
   |x=>(x.fix,[],c)
where
 go (k:Nat):Nat->List AV->List AV×List (Nat×Row)×Nat
  |c,[]=>([],[],c)
  | c, x :: xs =>
    let(y,u,c):=adopt k c x;let(ys,us,c):=go k c xs
    (y::ys,u++us,c)
inductive X where
 |t (n:Nat)
 |c (a:AV)
inductive AOp where
 |mv (x:X)
 |pick (c a b:X)
 |alloc (z:AV)
 |box (n:Nat) (x:X)
 |build (z:List AV) (ps:List (Nat×Nat×X))
 |bsl (n:Nat) (fr:Bool) (ps:List X)
 |load (n:Nat) (ag:Bool) (x:X)
 |store (n:Nat) (x v:X)
 |bin (op:BinOp) (x y:X)
 |beq (neg:Bool) (x y:X)
 |un (op:UnOp) (x:X)
 |conv (k:IntKind) (x:X)
 |mkf (f:Nat) (cs:List X)
 |mks (n:Nat) (z:AV) (bytes:Nat) (l c:X)
 |slc (n:Nat) (x:X) (lo hi mx:Option X)
 |slz (x:X) (lo hi:Option X)
 |fad (off:Nat) (x:X)
 |idx (n:Nat) (x i:X)
 |fld (off n:Nat) (ag:Bool) (x:X)
 |stri (x i:X)
 |ext (x:X) (j:Nat)
 |call (f:Nat) (xs:List X)
 |dyn (x:X) (xs:List X)
 |callM (f:Nat) (xs:List X) (rs:List Nat)
 |dynM (x:X) (xs:List X) (rs:List Nat)
 |len (x:X)
 |lenz (x:X)
 |capn (x:X)
 |slg (n:Nat) (x hi:X)
 |apz (n:Nat) (z:AV) (bytes:Nat) (x l:X)
 |b2s (x:X)
 |isn (neg:Bool) (x:X)
 |aeq (neg:Bool) (x y:X)
 |apq (n:Nat) (x y:X)
 |slx (n:Nat) (x:X) (lo hi:Option X)
 |slm (n:Nat) (x lo hi mx:X)
 |clr (n:Nat) (z:AV) (x:X)
 |cpy (n:Nat) (x y:X)
 |ldv (av:List Nat) (n:Nat) (ag:Bool) (x:X)
 |lde (av:List Nat) (n:Nat) (ag:Bool) (x:X)
 |str (n:Nat) (x v:X)
 |lda (n:Nat) (ag:Bool) (x:X)
 |stv (n:Nat) (x v:X)
 |fdv (av:List Nat) (off:Nat) (x:X)
 |idv (av:List Nat) (n:Nat) (x i:X)
 |lnv (av:List Nat) (x:X)
 |stw (r n:Nat) (x v:X)
 |bsm (n:Nat) (ps:List X)
 |app (n bytes:Nat) (mv:Bool) (x y:X)
 |nilc (x:X)
 |mn (x y:X)
 |mx (x y:X)
 |bad
structure aY where
 d:Option Nat
 op:AOp
 gd:Option (Nat×Bool)
inductive HOp where
 |inn (t n k:Nat) (x:X) (mids:List (Nat×X)) (d f:Nat) (xs:List X)
 |har (d f:Nat) (xs:List X) (rs:List Nat)
inductive Can where
 |s (d:Nat)
 |f (far:Bool) (d r j:Nat)
 |r (d:Nat)
 |z (d:Nat)
 |e (far:Bool) (d k j:Nat)
 |w (r:Nat)
inductive aw where
 |skip
 |reg (ops:List aY) (can:List Can)
 |regh (pre:List aY) (h:HOp) (post:List aY) (can:List Can)
 |drw (ops:List aY) (can:List Can)
 |seq (a b:aw)
 |seqr (a:aw) (lv lr:List Nat) (b:aw)
 |seqa (x a:aw) (lv lr:List Nat) (b:aw)
 |seqb (a:aw) (lv:List Nat) (b:aw)
 |cond (x:X) (a b:aw)
 |blk (id:Nat) (a:aw)
 |loop (a:aw)
 |exit (id:Nat)
 |ret
structure St where
 env:List (Nat×AV)
 rows:List (Nat×Row)
def St.get(σ:St)(k:Nat):AV:=(az k σ.env).getD .top
def St.row(σ:St)(r:Nat):Option Row:=az r σ.rows
def St.gx(σ:St):X->AV
 | .t n=>σ.get n
 | .c a=>a
def bi(l:List (Nat×Row))(rows:List (Nat×Row)):List (Nat×Row):=l.foldl (fun rs p=>put p.1 p.2 rs) rows
def St.app(σ:St)(d:Option Nat)(v:AV)(u:List (Nat×Row)):St:=
 {env:=match d with|some d=>put d v σ.env|none=>σ.env,rows:=bi u σ.rows}
def St.know(σ:St)(s:Nat)(b:Bool):St:={σ with env:=put s (.b b) σ.env}
def I64(n:Int):Prop:=-9223372036854775808<=n/\n<=9223372036854775807
def fill(cs:List AV)(off:Nat)(v:AV):List AV:=cs.take off++v.cells++cs.drop (off+v.cells.length)
def lU:List AV->List (Nat×AV)->List AV
 |cs,[]=>cs
 |cs,(off,v)::l=>lU (fill cs off v) l
def part(x:AV)(off n:Nat)(ag:Bool):Option AV:=
 if ag then(if x.isAgg=true/\off+n<=x.width then some (if off=0/\n=x.width then .agg x.cells else .agg ((x.cells.drop off).take n)) else none)
 else x.cells[off]?
def setPart(x:AV)(off:Nat)(v:AV):Option AV:=
 if x.isAgg=true then
  (if v.isAgg=true then(if off=0/\v.width=x.width then some v else if off+v.width<=x.width then some (.agg (fill x.cells off v)) else none)
   else if off+1<=x.width then some (.agg (fill x.cells off v)) else none)
 else if off=0/\v.isAgg=false/\x.width=1 then some v else none
def bits(op:BinOp)(k:IntKind)(x y:Int):Int:=
 let a:=BitVec.ofInt k.bits x;let b:=BitVec.ofInt k.bits y
 k.wrap (match op with| .and=>(a &&& b).toNat| .or=>(a ||| b).toNat| .xor=>(a ^^^ b).toNat|_=>(a &&& ~~~b).toNat)
def ofI(k:IntKind)(n:Int)(K:AV->Prop):Prop:=K (.sc (.int k (k.wrap n)))
def dS(op:BinOp)(k:IntKind)(a b:Int)(K:AV->Prop):Prop:=
 match op with
 | .add=>ofI k (a+b) K
 | .sub=>ofI k (a-b) K
 | .mul=>ofI k (a*b) K
 | .quo=>b≠0/\ofI k (a.tdiv b) K
 | .rem=>b≠0/\K (.sc (.int k (a.tmod b)))
 | .and=>K (.sc (.int k (bits .and k a b)))
 | .or=>K (.sc (.int k (bits .or k a b)))
 | .xor=>K (.sc (.int k (bits .xor k a b)))
 | .andNot=>K (.sc (.int k (bits .andNot k a b)))
 | .eql=>K (.b (a==b))
 | .neq=>K (.b (a !=b))
 | .lss=>K (.b (decide (a<b)))
 | .leq=>K (.b (decide (a<=b)))
 | .gtr=>K (.b (decide (a>b)))
 | .geq=>K (.b (decide (a>=b)))
 |_=>False
def eR(op:BinOp)(k:IntKind)(a y:Int)(K:AV->Prop):Prop:=
 0<=y/\match op with
 | .shl=>ofI k (a*2^(min y.toNat k.bits)) K
 | .shr=>K (.sc (.int k (a.fdiv (2^(min y.toNat k.bits)))))
 |_=>False
def dz(op:BinOp)(x y:AV)(K:AV->Prop):Prop:=
 match x,y with
 | .sc (.int k a), .sc (.int k' b) =>
   match op with
   | .shl=>eR .shl k a b K
   | .shr=>eR .shr k a b K
   |op=>k=k'/\dS op k a b K
 | .sc (.string a), .sc (.string b) =>
   match op with
   | .add=>a.size+b.size<=9223372036854775807/\K (.z (a++b))
   | .eql=>K (.b (a.toList==b.toList))
   | .neq=>K (.b (!(a.toList==b.toList)))
   |_=>False
 |_,_=>False
def unV(op:UnOp)(x:AV)(K:AV->Prop):Prop:=
 match op,x with
 | .neg,.sc (.int k n)=>ofI k (0-n) K
 | .not,.sc (.bool b)=>K (.b (!b))
 |_,_=>False
def bW(rs:List Nat):List (Nat×Row):=rs.map fun r=>(r,.dead)
def nf(n:Nat)(o:Option Row)(i k:Nat):Option (List AV):=match o with
 |some (.arr w es)=>if w=n then some (dM (sub es i k)) else none
 |_=>none
def cX(n:Nat)(ρ:Nat->Option Row):AV->Option (List AV)
 | .lst _ w xs=>if w=n then some xs else none
 | .tg _ w xs=>if w=n then some xs else none
 | .sl r i k=>nf n (ρ r) i k
 |_=>none
def vo(n r m:Nat)(o:Option Row):Option (List AV×List (Nat×Row)):=match o with
 |some (.arr w ys)=>if w=n/\m=ys.length then some (ys,[(r,.dead)]) else none
 |_=>none
def ia(o:Option (List AV)):Option (List AV×List (Nat×Row)):=match o with
 |some ys=>some (ys,[])
 |none=>none
def jg(ρ:Nat->Option Row)(n:Nat)(mv:Bool)(y:AV):Option (List AV×List (Nat×Row)):=match mv,y with
 |true,.sl r 0 m=>vo n r m (ρ r)
 |_,y=>ia (cX n ρ y)
def bOk(o:Option AV):Prop:=match o with
 |none=>True
 |some (.sc (.int _ n))=>0<=n
 |_=>False
def bV(o:Option AV)(dflt:Nat):Nat:=match o with
 |some (.sc (.int _ n))=>n.toNat
 |_=>dflt
def u8s:List AV->Option (List Int)
 |[]=>some []
 | .sc (.int .u8 n) :: xs => match u8s xs with
   |some ns=>some (n::ns)
   |none=>none
 |_=>none
def b2s(ns:List Int):ByteArray:=ns.foldl (fun r n=>r.push (UInt8.ofNat n.toNat)) ByteArray.empty
def opt{α:Type}(o:Option α)(K:α->Prop):Prop:=match o with
 |some v=>K v
 |none=>False
section
variable(K:AV->List (Nat×Row)->Prop)
def k1(v:AV):Prop:=K v []
def lT(c a b:AV):Prop:=match c with
 | .sc (.bool t)=>(t=true->K a [])/\(t=false->K b [])
 |_=>False
def Mx(off n:Nat)(ag:Bool)(y:AV):Prop:=opt (part y.als off n ag) (k1 K)
def eH(o:Option Row)(i off n:Nat)(ag:Bool):Prop:=match o with
 |some (.var y)=>i=0/\opt (part y off n ag) (k1 K)
 |some (.arr _ es)=>opt es[i]? (Mx K off n ag)
 |_=>False
def ey(ρ:Nat->Option Row)(n:Nat)(ag:Bool)(x:AV):Prop:=match x with
 | .bp _ y off=>opt (part y off n ag) (k1 K)
 | .pt r i off=>eH K (ρ r) i off n ag
 |_=>False
def Gj(r:Nat)(y:AV):Prop:=K .top [(r,.var y)]
def xY(u:List (Nat×Row))(r w i:Nat)(es:List AV)(y:AV):Prop:=K .top (u++[(r,.arr w (es.set i y))])
def qF(ρ:Nat->Option Row)(r w i off:Nat)(es:List AV)(v y:AV):Prop:=
 r∉v.ments/\v.ments.Nodup/\(lift ρ 2 v).width=v.width/\opt (setPart y off (lift ρ 2 v)) (xY K (bW v.ments) r w i es)
def ef(ρ:Nat->Option Row)(o:Option Row)(r i off:Nat)(v:AV):Prop:=match o with
 |some (.var y)=>i=0/\opt (setPart y off v) (Gj K r)
 |some (.arr w es)=>opt es[i]? (qF K ρ r w i off es v)
 |_=>False
def dN(ρ:Nat->Option Row)(n:Nat)(x v:AV):Prop:=match x with
 | .pt r i off=>v.width=n/\ef K ρ (ρ r) r i off v
 |_=>False
def iPt(av:List Nat):AV->Prop
 | .sl r _ _=>r∉av
 | .lst _ _ _=>True
 |_=>False
def yK:Option Row->Prop
 |some (.var _)=>True
 |_=>False
def yB:Option Row->Prop
 |some (.arr _ _)=>True
 |_=>False
def lPt(av:List Nat):AV->Prop
 | .pt r _ _=>r∉av
 | .bp _ _ _=>True
 |_=>False
def vPt(av:List Nat)(ρ:Nat->Option Row):AV->Prop
 | .pt r _ _=>r∉av/\yK (ρ r)
 | .bp _ _ _=>True
 |_=>False
def aPt(ρ:Nat->Option Row):AV->Prop
 | .pt r _ _=>yB (ρ r)
 |_=>False
def aPb(ρ:Nat->Option Row):AV->Prop
 | .pt r _ _=>yB (ρ r)
 | .bp _ _ _=>True
 |_=>False
def wPt(r:Nat)(ρ:Nat->Option Row):AV->Prop
 | .pt q _ _=>q=r/\yK (ρ q)
 |_=>False
def vPv(ρ:Nat->Option Row):AV->Prop
 | .pt r _ _=>yK (ρ r)
 |_=>False
def vF(neg:Bool)(x y:AV):Prop:=match x,y with
 | .sc (.bool a),.sc (.bool b)=>K (.sc (.bool (if neg then !(a==b) else(a==b)))) []
 |_,_=>False
def OH(neg:Bool)(x y:AV):Prop:=match x,y with
 | .agg [.sc (.int .i64 a),.sc (.int .i64 b)],.agg [.sc (.int .i64 c),.sc (.int .i64 e)]=>K (.sc (.bool (if neg then !(a==c&&b==e) else(a==c&&b==e)))) []
 |_,_=>False
def qT(k:IntKind)(x:AV):Prop:=match x with
 | .sc (.int _ n)=>K (.sc (.int k (k.wrap n))) []
 |_=>False
def rQ(o:Option Row)(d n:Nat)(z:AV)(bytes:Nat)(l c:AV):Prop:=match l,c with
 | .sc (.int .i64 l),.sc (.int .i64 c)=>o=none/\z.width=n/\0<=l/\l<=c/\c*bytes<=140737488355328/\c<=9223372036854775807/\K (.sl d 0 l.toNat) [(d,.arr n (List.replicate l.toNat z))]
 |_,_=>False
def qZ(ρ:Nat->Option Row)(n:Nat)(x:AV)(lo hi mx:Option AV):Prop:=match x with
 | .lst f w xs=>w=n/\bOk lo/\bOk hi/\bV lo 0<=bV hi xs.length/\bV hi xs.length<=xs.length/\
  match mx with
  |none=>K (.lst f n (sub xs (bV lo 0) (bV hi xs.length-bV lo 0))) []
  |some m=>hi.isSome/\bOk (some m)/\bV (some m) 0=bV hi xs.length/\K (.tg f n (sub xs (bV lo 0) (bV hi xs.length-bV lo 0))) []
 | .sl r i m=>(∃es,ρ r=some (.arr n es))/\bOk lo/\bOk hi/\bV lo 0<=bV hi m/\bV hi m<=m/\mx=none/\K (.sl r (i+bV lo 0) (bV hi m-bV lo 0)) []
 |_=>False
def Qh(x:AV)(lo hi:Option AV):Prop:=match x with
 | .sc (.string s)=>bOk lo/\bOk hi/\bV lo 0<=bV hi s.size/\bV hi s.size<=s.size/\K (.sc (.string (s.extract (bV lo 0) (bV hi s.size)))) []
 |_=>False
def mz(ρ:Nat->Option Row)(off:Nat)(x:AV):Prop:=match x with
 | .bp f y o=>K (.bp f y (o+off)) []
 | .pt r i o=>cA (ρ r)/\K (.pt r i (o+off)) []
 |_=>False
def VP(f:Fl)(y:AV):Prop:=K (.bp f y 0) []
def kI(ρ:Nat->Option Row)(n:Nat)(x i:AV):Prop:=match x,i with
 | .lst f w xs,.sc (.int _ j)=>w=n/\0<=j/\opt xs[j.toNat]? (VP K f.als)
 | .sl r a m,.sc (.int _ j)=>(∃es,ρ r=some (.arr n es))/\0<=j/\j<m/\K (.pt r (a+j.toNat) 0) []
 |_,_=>False
def zu(off n:Nat)(ag:Bool)(x:AV):Prop:=x.isAgg=true/\opt (part x off n ag) (k1 K)
def Wn(c:UInt8):Prop:=K (.sc (.int .u8 c.toNat)) []
def pO(x i:AV):Prop:=match x,i with
 | .sc (.string s),.sc (.int _ j)=>0<=j/\opt s[j.toNat]? (Wn K)
 |_,_=>False
def yA(x:AV)(j:Nat):Prop:=match x with
 | .tup vs=>opt vs[j]? (k1 K)
 |_=>False
def lK(ρ:Nat->Option Row)(x:AV):Prop:=match x with
 | .lst _ _ xs=>K (.i xs.length) []
 | .tg _ _ xs=>K (.i xs.length) []
 | .sl r _ n=>(∃w es,ρ r=some (.arr w es))/\K (.i n) []
 |_=>False
def qa(x:AV):Prop:=match x with
 | .lst .u _ []=>K (.i 0) []
 |_=>False
def zm(n:Nat)(x hi:AV):Prop:=match x,hi with
 | .lst .u w [],.sc (.int _ h)=>w=n/\h=0/\K (.lst .u n []) []
 |_,_=>False
def rm(x:AV):Prop:=match x with
 | .sc (.string s)=>K (.i s.size) []
 |_=>False
def HV(ns:List Int):Prop:=K (.sc (.string (b2s ns))) []
def ww(o:Option Row)(i m:Nat):Prop:=match o with
 |some (.arr w es)=>w=1/\opt (u8s (sub es i m)) (HV K)
 |_=>False
def zD(ρ:Nat->Option Row)(x:AV):Prop:=match x with
 | .lst _ w xs=>w=1/\opt (u8s xs) (HV K)
 | .sl r i m=>ww K (ρ r) i m
 |_=>False
def uZ(o:Option Row)(r n:Nat)(z:AV)(i m:Nat):Prop:=match o with
 |some (.arr w es)=>w=n/\z.width=n/\K (.tup []) [(r,.arr w (ec es i (List.replicate m z)))]
 |_=>False
def Cf(ρ:Nat->Option Row)(n:Nat)(z x:AV):Prop:=match x with
 | .sl r i m=>uZ K (ρ r) r n z i m
 |_=>False
def vt(o:Option Row)(r n i m:Nat)(ys:List AV):Prop:=match o with
 |some (.arr w es)=>w=n/\K (.i (min ys.length m:Nat)) [(r,.arr w (ec es i (ys.take (min ys.length m))))]
 |_=>False
def Fz(ρ:Nat->Option Row)(n:Nat)(x y:AV):Prop:=match x with
 | .sl r i m=>opt (cX n ρ y) (vt K (ρ r) r n i m)
 |_=>False
def sf(neg e:Bool):Prop:=K (cond e .ub (.b neg)) []
def vj(ρ:Nat->Option Row)(neg:Bool)(x:AV):Prop:=match x with
 | .lst _ _ xs=>sf K neg xs.isEmpty
 | .tg _ _ xs=>sf K neg xs.isEmpty
 | .sl r _ n=>(∃w es,ρ r=some (.arr w es))/\sf K neg (n==0)
 |_=>False
def Qu(o:Option Row)(r n i m:Nat)(ys:List AV):Prop:=match o with
 |some (.arr w es)=>w=n/\i+m+ys.length<=es.length/\K (.sl r i (m+ys.length)) [(r,.arr w (ec es (i+m) ys))]
 |_=>False
def UQ(ρ:Nat->Option Row)(n:Nat)(x y:AV):Prop:=match x with
 | .sl r i m=>opt (cX n ρ y) (Qu K (ρ r) r n i m)
 |_=>False
def vg(o:Option Row)(r n i m:Nat)(lo hi:Option AV):Prop:=match o with
 |some (.arr w es)=>w=n/\bOk lo/\bOk hi/\bV lo 0<=bV hi m/\i+bV hi m<=es.length/\K (.sl r (i+bV lo 0) (bV hi m-bV lo 0)) []
 |_=>False
def Nk(ρ:Nat->Option Row)(n:Nat)(x:AV)(lo hi:Option AV):Prop:=match x with
 | .sl r i m=>vg K (ρ r) r n i m lo hi
 |_=>False
def BK(o:Option Row)(n m:Nat)(lo hi mx:AV):Prop:=match o,lo,hi,mx with
 |some (.arr w _),.sc (.int _ l),.sc (.int _ h),.sc (.int _ q)=>w=n/\0<=l/\l<=h/\h<=q/\q<=(m:Int)/\K .top []
 |_,_,_,_=>False
def Wr(ρ:Nat->Option Row)(n:Nat)(x lo hi mx:AV):Prop:=match x with
 | .sl r _ m=>BK K (ρ r) n m lo hi mx
 |_=>False
def nt(o:Option Row)(d n bytes r i m:Nat)(p:List AV×List (Nat×Row)):Prop:=match o with
 |some (.arr w es)=>w=n/\r∉p.2.map (·.1)/\(m+p.1.length)*bytes<=140737488355328/\K (.sl d 0 (m+p.1.length)) ((r,.dead)::p.2++[(d,.arr n (sub es i m++p.1))])
 |_=>False
def vB(d n bytes w:Nat)(es:List AV)(p:List AV×List (Nat×Row)):Prop:=
 w=n/\0<p.1.length/\(es.length+p.1.length)*bytes<=140737488355328/\K (.sl d 0 (es.length+p.1.length)) (p.2++[(d,.arr n (dM es++p.1))])
def qt(ρ:Nat->Option Row)(d n bytes:Nat)(mv:Bool)(x y:AV):Prop:=match x with
 | .sl r i m=>ρ d=none/\opt (jg ρ n mv y) (nt K (ρ r) d n bytes r i m)
 | .tg _ w es=>ρ d=none/\opt (jg ρ n mv y) (vB K d n bytes w es)
 |_=>False
def DU(o:Option Row)(d n:Nat)(z:AV)(bytes:Nat)(x l:AV):Prop:=match x,l with
 | .lst .u w [],.sc (.int .i64 l)=>o=none/\w=n/\z.width=n/\n=1/\0<l/\l*bytes<=140737488355328/\K (.sl d 0 l.toNat) [(d,.arr n (List.replicate l.toNat z))]
 |_,_=>False
def rU(ρ:Nat->Option Row)(x:AV):Prop:=match x with
 | .bp f y o=>K (.bp f y o) []
 | .pt r i o=>cA (ρ r)/\K (.pt r i o) []
 |_=>False
def eMn(x y:AV):Prop:=match x,y with
 | .sc (.int k a),.sc (.int k' b)=>k=k'/\K (.sc (.int k (if b<a then b else a))) []
 |_,_=>False
def eMx(x y:AV):Prop:=match x,y with
 | .sc (.int k a),.sc (.int k' b)=>k=k'/\K (.sc (.int k (if a<b then b else a))) []
 |_,_=>False
end
structure Oks where
 p:Nat->List AV->AV->Prop
 m:Nat->List AV->List (Nat×Row)->AV->List (Nat×Row)->Prop
 h:Nat->List AV->List (Nat×Row)->AV->List (Nat×Row)->Prop
mutual
def AV.rg(h:Nat->Nat):AV->AV
 | .sl q i n=>.sl (h q) i n
 | .pt q i o=>.pt (h q) i o
 | .agg cs=>.agg (rgL h cs)
 | .fn f cs=>.fn f (rgL h cs)
 | .tup cs=>.tup (rgL h cs)
 |x=>x
def rgL(h:Nat->Nat):List AV->List AV
 |[]=>[]
 |c::cs=>c.rg h::rgL h cs
end
def Row.rg(h:Nat->Nat):Row->Row
 | .var x=>.var (x.rg h)
 |x=>x
def pos(r:Nat):List Nat->Nat
 |[]=>0
 |x::xs=>if x=r then 0 else pos r xs+1
def cnm(rs:List Nat)(r:Nat):Nat:=1000000000+pos r rs
def bkn(d:Nat)(rs:List Nat)(q:Nat):Nat:=if 1000000000<=q then rs.getD (q-1000000000) 0 else q+100000*(d+1)
def hZ(ρ:Nat->Option Row)(rs:List Nat)(r:Nat):Nat×Row:=(cnm rs r,((ρ r).getD .dead).rg (cnm rs))
def dg(d:Nat)(rs:List Nat)(p:Nat×Row):Nat×Row:=(bkn d rs p.1,p.2.rg (bkn d rs))
def nF:Option Row->List Nat
 |some (.var x)=>x.ments
 |_=>[]
section
variable(ok:Oks)
def callM(ρ:Nat->Option Row)(d f:Nat)(args:List AV)(rs:List Nat)(K:AV->List (Nat×Row)->Prop):Prop:=
 ∃ res outs, ok.m f (args.map (AV.rg (cnm rs))) (rs.map (hZ ρ rs)) res outs ∧
   (rs.Nodup/\(∀r∈rs,cA (ρ r))/\(∀r∈rs,∀q∈nF (ρ r),q∈rs)/\(∀r∈aM args,r∈rs))/\
   ((outs.map fun p => bkn d rs p.1).Nodup ∧ (∀ p ∈ outs, 1000000000 ≤ p.1 → p.1 - 1000000000 < rs.length) ∧
     (∀p∈outs,p.1<1000000000->ρ (bkn d rs p.1)=none/\bkn d rs p.1<1000000000))/\
   K (res.rg (bkn d rs)) (bW rs++outs.map (dg d rs))
def pU(ρ:Nat->Option Row)(d:Nat)(x:AV)(xs:List AV)(rs:List Nat)(K:AV->List (Nat×Row)->Prop):Prop:=match x with
 | .fn f cs=>callM ok ρ d f (xs++cs) rs K
 |_=>False
def gi(ρ:Nat->Option Row)(d f:Nat)(args:List AV)(K:AV->List (Nat×Row)->Prop):Prop:=
 ∃ res, ok.p f (args.map (snp ρ 4)) res ∧ (res.allU ∨ aM args = [] ∧ (res.ou ∨ res.noU)) ∧ (∀ p ∈ (adopt 4 d res).2.1, ρ p.1 = none ∧ p.1 < 1000000000) ∧
   K (adopt 4 d res).1 (adopt 4 d res).2.1
def vQ(ρ:Nat->Option Row)(d:Nat)(x:AV)(xs:List AV)(K:AV->List (Nat×Row)->Prop):Prop:=match x with
 | .fn f cs=>gi ok ρ d f (xs++cs) K
 |_=>False
def eff(g:X->AV)(ρ:Nat->Option Row)(d:Nat):AOp->(AV->List (Nat×Row)->Prop)->Prop
 | .mv x,K=>K (g x) []
 | .pick c a b,K=>lT K (g c) (g a) (g b)
 | .alloc z,K=>ρ d=none/\K (.pt d 0 0) [(d,.var z)]
 | .box n x,K=>ρ d=none/\(g x).width=n/\K (.pt d 0 0) [(d,.var (g x))]
 | .build z ps,K=>(∀p∈ps,(g p.2.2).width=p.2.1/\p.1+p.2.1<=z.length)/\K (.agg (lU z (ps.map fun p=>(p.1,g p.2.2)))) []
 | .bsl n fr ps,K=>(fr=true->aM (ps.map g)=[])/\ρ d=none/\(∀p∈ps,(g p).width=n)/\(aM (ps.map g)).Nodup/\
  K (.sl d 0 ps.length) (bW (aM (ps.map g))++[(d,.arr n ((ps.map g).map (lift ρ 2)))])
 | .load n ag x,K=>ey K ρ n ag (g x)
 | .store n x v,K=>dN K ρ n (g x) (g v)
 | .bin op x y,K=>dz op (g x) (g y) (k1 K)
 | .beq neg x y,K=>vF K neg (g x) (g y)
 | .un op x,K=>unV op (g x) (k1 K)
 | .conv k x,K=>qT K k (g x)
 | .mkf f cs,K=>K (.fn f (cs.map g)) []
 | .mks n z bytes l c,K=>rQ K (ρ d) d n z bytes (g l) (g c)
 | .slc n x lo hi mx,K=>qZ K ρ n (g x) (lo.map g) (hi.map g) (mx.map g)
 | .slz x lo hi,K=>Qh K (g x) (lo.map g) (hi.map g)
 | .fad off x,K=>mz K ρ off (g x)
 | .idx n x i,K=>kI K ρ n (g x) (g i)
 | .idv av n x i,K=>iPt av (g x)/\kI K ρ n (g x) (g i)
 | .lnv av x,K=>iPt av (g x)/\lK K ρ (g x)
 | .stw r n x v,K=>wPt r ρ (g x)/\dN K ρ n (g x) (g v)
 | .fld off n ag x,K=>zu K off n ag (g x)
 | .stri x i,K=>pO K (g x) (g i)
 | .ext x j,K=>yA K (g x) j
 | .call f xs,K=>gi ok ρ d f (xs.map g) K
 | .dyn x xs,K=>vQ ok ρ d (g x) (xs.map g) K
 | .callM f xs rs,K=>callM ok ρ d f (xs.map g) rs K
 | .dynM x xs rs,K=>pU ok ρ d (g x) (xs.map g) rs K
 | .len x,K=>lK K ρ (g x)
 | .lenz x,K=>rm K (g x)
 | .capn x,K=>qa K (g x)
 | .slg n x hi,K=>zm K n (g x) (g hi)
 | .apz n z bytes x l,K=>DU K (ρ d) d n z bytes (g x) (g l)
 | .b2s x,K=>zD K ρ (g x)
 | .isn neg x,K=>vj K ρ neg (g x)
 | .aeq neg x y,K=>OH K neg (g x) (g y)
 | .apq n x y,K=>UQ K ρ n (g x) (g y)
 | .slx n x lo hi,K=>Nk K ρ n (g x) (lo.map g) (hi.map g)
 | .slm n x lo hi mx,K=>Wr K ρ n (g x) (g lo) (g hi) (g mx)
 | .clr n z x,K=>Cf K ρ n z (g x)
 | .cpy n x y,K=>Fz K ρ n (g x) (g y)
 | .ldv av n ag x,K=>vPt av ρ (g x)/\ey K ρ n ag (g x)
 | .lde av n ag x,K=>lPt av (g x)/\ey K ρ n ag (g x)
 | .str n x v,K=>aPt ρ (g x)/\(g v).ments=[]/\dN K ρ n (g x) (g v)
 | .lda n ag x,K=>aPb ρ (g x)/\ey K ρ n ag (g x)
 | .stv n x v,K=>vPv ρ (g x)/\dN K ρ n (g x) (g v)
 | .fdv av off x,K=>vPt av ρ (g x)/\mz K ρ off (g x)
 | .bsm n ps,K=>(∀r∈aM (ps.map g),yB (ρ r))/\ρ d=none/\(∀p∈ps,(g p).width=n)/\(aM (ps.map g)).Nodup/\
  K (.sl d 0 ps.length) (bW (aM (ps.map g))++[(d,.arr n ((ps.map g).map (lift ρ 2)))])
 | .app n bytes mv x y,K=>qt K ρ d n bytes mv (g x) (g y)
 | .nilc x,K=>rU K ρ (g x)
 | .mn x y,K=>eMn K (g x) (g y)
 | .mx x y,K=>eMx K (g x) (g y)
 | .bad,_=>False
def eZ(σ:St)(s:Nat)(w:Bool)(x:AV)(A B:St->Prop):Prop:=match x with
 | .sc (.bool t)=>(t=w->A (σ.know s w))/\(t=!w->B (σ.know s (!w)))
 | .tup []=>B σ
 |_=>False
def Py(d:Option Nat)(R:St->Prop)(σ:St)(v:AV)(u:List (Nat×Row)):Prop:=R (σ.app d v u)
def xX(d:Option Nat)(o:AOp)(R:St->Prop)(σ:St):Prop:=eff ok σ.gx σ.row (d.getD 0) o (Py d R σ)
def Hx(d:Option Nat)(R:St->Prop)(σ:St):Prop:=R (σ.app d (.tup []) [])
def Xc(o:aY)(σ:St)(R:St->Prop):Prop:=
 match o.gd with
 |none=>xX ok o.d o.op R σ
 |some (s,w)=>eZ σ s w (σ.get s) (xX ok o.d o.op R) (Hx o.d R)
def dF:List aY->(St->Prop)->St->Prop
 |[],K,σ=>K σ
 |o::os,K,σ=>Xc ok o σ (dF os K)
mutual
def AV.fz:AV->Bool
 | .sc _=>true
 | .lst f _ xs=>(match f with| .o=>fzL xs|_=>false)
 | .agg cs=>fzL cs
 | .tup cs=>fzL cs
 | .fn _ cs=>fzL cs
 | .bp f x _=>(match f with| .o=>x.fz|_=>false)
 | .sl _ _ _=>true
 | .pt _ _ _=>true
 | .top=>true
 | .ub=>true
 |_=>false
def fzL:List AV->Bool
 |[]=>true
 |c::cs=>c.fz&&fzL cs
end
mutual
def AV.ouB:AV->Bool
 | .sc _=>true
 | .lst f _ xs=>(match f with| .o=>fzL xs| .u=>dB xs|_=>false)
 | .agg cs=>dB cs
 | .top=>true
 |_=>false
def dB:List AV->Bool
 |[]=>true
 |c::cs=>c.ouB&&dB cs
end
def Row.fz:Row->Bool
 | .var x=>x.fz
 | .arr _ es=>dB es
 | .dead=>true
def St.fz(σ:St):Bool:=σ.env.all (fun p=>p.2.fz)&&σ.rows.all (fun p=>p.2.fz)
def qh:List (Nat×X)->St->St
 |[],σ=>σ
 |(d,x)::ms,σ=>qh ms (σ.app (some d) (σ.gx x) [])
def sn(τ:St)(t len:Nat):X->AV
 | .t j=>if j=t then .sl 1000000000 0 len else τ.get j
 | .c a=>a
def ua(τ:St)(t:Nat):X->Prop
 | .t j=>j=t\/(τ.get j).ments=[]
 | .c a=>a.ments=[]
def Wy(K:St->Prop)(τ:St)(t n k d f:Nat)(xs:List X)(r i off:Nat)(es:List AV)(y:AV)(ys:List AV):Prop:=
 ys.all AV.flat=true/\τ.fz=true/\(∀x∈xs,ua τ t x)/\
 ∃ v ys', ok.m f (xs.map (sn τ t ys.length)) [(1000000000, .arr k ys)] (.sc v) [(1000000000, .arr k ys')] ∧ ys'.all AV.flat = true ∧
   opt (setPart y off (.lst .u k ys')) fun z=>K (τ.app (some d) (.sc v) [(r,.arr n (es.set i z))])
def JO(K:St->Prop)(τ:St)(t n k d f:Nat)(xs:List X)(r i off:Nat)(es:List AV)(y:AV):AV->Prop
 | .lst .u w ys=>w=k/\Wy ok K τ t n k d f xs r i off es y ys
 |_=>False
def IB(K:St->Prop)(τ:St)(t n k d f:Nat)(xs:List X)(r i off:Nat):Option Row->Prop
 |some (.arr w es)=>w=n/\opt es[i]? fun y=>opt (part y off 1 false) (JO ok K τ t n k d f xs r i off es y)
 |_=>False
def Ho(K:St->Prop)(σ τ:St)(t n k d f:Nat)(xs:List X):AV->Prop
 | .pt r i off=>IB ok K τ t n k d f xs r i off (σ.row r)
 |_=>False
def WF(d:Nat)(K:St->Prop)(σ:St)(v:AV)(u:List (Nat×Row)):Prop:=K (σ.app (some d) v u)
def stH(h:HOp)(K:St->Prop)(σ:St):Prop:=match h with
 | .inn t n k x mids d f xs=>Ho ok K σ (qh mids (σ.app (some t) .top [])) t n k d f xs (σ.gx x)
 | .har d f xs rs=>σ.fz=true/\callM ⟨ok.p,ok.h,ok.h⟩ σ.row d f (xs.map σ.gx) rs (WF d K σ)
def AV.hush(r:Nat)(a:AV):AV:=if r∈a.ments then .top else a
mutual
def AV.ren(r d:Nat):AV->AV
 | .sl q i n=>.sl (if q=r then d else q) i n
 | .pt q i o=>.pt (if q=r then d else q) i o
 | .agg cs=>.agg (jx r d cs)
 | .fn f cs=>.fn f (jx r d cs)
 | .tup cs=>.tup (jx r d cs)
 |x=>x
def jx(r d:Nat):List AV->List AV
 |[]=>[]
 |c::cs=>c.ren r d::jx r d cs
end
def Row.map(h:AV->AV):Row->Row
 | .var x=>.var (h x)
 |x=>x
def Row.hush(r:Nat):Row->Row
 | .var x=>if r∈x.ments then .dead else .var x
 |x=>x
def del{α:Type}(k:Nat):List (Nat×α)->List (Nat×α)
 |[]=>[]
 |(j,x)::l=>if j=k then del k l else(j,x)::del k l
def St.canSl (σ : St) (d r i n : Nat) : St :=
    if r=d\/1000000000<=r then σ
    else
     { env:=put d (.sl d i n) ((σ.env.map fun p=>(p.1,p.2.hush d)).map fun p=>(p.1,p.2.ren r d)),
       rows:=((del d σ.rows).map fun p=>(p.1,p.2.hush d)).map fun p=>(if p.1=r then d else p.1,p.2.map (·.ren r d))}
def St.canSr (σ : St) (d r i n : Nat) : St :=
    if r=d then σ
    else
     { env:=put d (.sl d i n) ((σ.env.map fun p=>(p.1,p.2.hush d)).map fun p=>(p.1,p.2.ren r d)),
       rows:=((del d σ.rows).map fun p=>(p.1,p.2.hush d)).map fun p=>(if p.1=r then d else p.1,p.2.map (·.ren r d))}
def St.canNil (σ : St) (d n : Nat) : St :=
    { env:=put d (.sl d 0 0) (σ.env.map fun p=>(p.1,p.2.hush d)),
      rows:=put d (.arr n []) ((del d σ.rows).map fun p=>(p.1,p.2.hush d))}
def St.canV(σ:St)(d:Nat)(x:AV):St:=match x with
 | .sl r i n=>σ.canSl d r i n
 | .lst .u n []=>σ.canNil d n
 |_=>σ
def St.canW(σ:St)(d:Nat)(x:AV):St:=match x with
 | .sl r i n=>σ.canSr d r i n
 | .lst .u n []=>σ.canNil d n
 |_=>σ
def St.canZr(σ:St)(d i m:Nat)(r:Nat):Option Row->St
 |some (.arr q es)=>⟨put d (.lst .m q (dM (sub es i m))) σ.env,put r .dead σ.rows⟩
 |_=>σ
def gZ:List AV->Nat->AV->List AV
 |[],_,_=>[]
 |_::xs,0,y=>y::xs
 |x::xs,j+1,y=>x::gZ xs j y
def St.canZcr(σ:St)(d:Nat)(all:List AV)(j r i m:Nat):Option Row->St
 |some (.arr q es)=>⟨put d (.agg (gZ all j (.lst .m q (dM (sub es i m))))) σ.env,put r .dead σ.rows⟩
 |_=>σ
def St.canZc(σ:St)(d:Nat)(all:List AV):Nat->List AV->St
 |_,[]=>σ
 |j,.sl r i m::_=>σ.canZcr d all j r i m (az r σ.rows)
 |j,_::cs=>σ.canZc d all (j+1) cs
def St.canZ(σ:St)(d:Nat)(x:AV):St:=match x with
 | .sl r i m=>σ.canZr d i m r (az r σ.rows)
 | .agg cs=>σ.canZc d cs 0 cs
 |_=>σ
def rZ:List AV->Nat->AV
 |[],_=>.top
 |x::_,0=>x
 |_::xs,j+1=>rZ xs j
def gO(j:Nat):Option Row->AV
 |some (.var (.agg cs))=>rZ cs j
 |some (.var (.sl q i m))=>if j=0 then .sl q i m else .top
 |some (.var (.lst f m xs))=>if j=0 then .lst f m xs else .top
 |_=>.top
def St.canFN(σ:St)(d r j m:Nat):Option Row->St
 |some (.var (.agg cs))=>⟨σ.env.map fun p=>(p.1,p.2.hush d),put d (.arr m []) (put r (.var (.agg (gZ cs j (.sl d 0 0)))) ((del d σ.rows).map fun p=>(p.1,p.2.hush d)))⟩
 |some (.var (.lst .u _ []))=>⟨σ.env.map fun p=>(p.1,p.2.hush d),put d (.arr m []) (put r (.var (.sl d 0 0)) ((del d σ.rows).map fun p=>(p.1,p.2.hush d)))⟩
 |_=>σ
def St.canG(σ:St)(far:Bool)(d r j:Nat):AV->St
 | .sl q _ _=>if q=d\/far=false/\1000000000<=q then σ else
  ⟨(σ.env.map fun p=>(p.1,p.2.hush d)).map fun p=>(p.1,p.2.ren q d),((del d σ.rows).map fun p=>(p.1,p.2.hush d)).map fun p=>(if p.1=q then d else p.1,p.2.map (·.ren q d))⟩
 | .lst .u m []=>σ.canFN d r j m (az r ((del d σ.rows).map fun p=>(p.1,p.2.hush d)))
 |_=>σ
def St.canEN(σ:St)(d k j m:Nat):Option AV->St
 |some (.agg cs)=>⟨put k (.agg (gZ cs j (.sl d 0 0))) (σ.env.map fun p=>(p.1,p.2.hush d)),put d (.arr m []) ((del d σ.rows).map fun p=>(p.1,p.2.hush d))⟩
 |_=>σ
def St.canE(σ:St)(far:Bool)(d k j:Nat):AV->St
 | .sl q _ _=>if q=d\/far=false/\1000000000<=q then σ else
  ⟨(σ.env.map fun p=>(p.1,p.2.hush d)).map fun p=>(p.1,p.2.ren q d),((del d σ.rows).map fun p=>(p.1,p.2.hush d)).map fun p=>(if p.1=q then d else p.1,p.2.map (·.ren q d))⟩
 | .lst .u m []=>σ.canEN d k j m (az k (σ.env.map fun p=>(p.1,p.2.hush d)))
 |_=>σ
def St.canXcr(σ:St)(r:Nat)(all:List AV)(j q i m:Nat):Option Row->St
 |some (.arr k es)=>⟨σ.env,put r (.var (.agg (gZ all j (.lst .m k (dM (sub es i m)))))) (put q .dead σ.rows)⟩
 |_=>σ
def St.canXc(σ:St)(r:Nat)(all:List AV):Nat->List AV->St
 |_,[]=>σ
 |j,.sl q i m::_=>σ.canXcr r all j q i m (az q σ.rows)
 |j,.lst .u n []::_=>⟨σ.env,put r (.var (.agg (gZ all j (.lst .m n [])))) σ.rows⟩
 |j,_::cs=>σ.canXc r all (j+1) cs
def St.canX(σ:St)(r:Nat):Option Row->St
 |some (.arr n es)=>⟨σ.env,put r (.arr n (dM es)) σ.rows⟩
 |some (.var (.agg cs))=>σ.canXc r cs 0 cs
 |_=>σ
def St.can1(σ:St):Can->St
 | .s d=>σ.canV d (σ.get d)
 | .f far d r j=>σ.canG far d r j (gO j (az r σ.rows))
 | .r d=>σ.canW d (σ.get d)
 | .z d=>σ.canZ d (σ.get d)
 | .e far d k j=>σ.canE far d k j (gO j (some (.var (σ.get k))))
 | .w r=>σ.canX r (az r σ.rows)
def St.can(σ:St):List Can->St
 |[]=>σ
 |d::ds=>(σ.can1 d).can ds
def Can.low(n:Nat):Can->Bool
 | .s d=>decide (d<n)
 | .f _ d _ _=>decide (d<1000000000)&&decide (n<=d)
 | .r d=>decide (d<n)
 | .z d=>decide (d<n)
 | .e _ d k _=>decide (d<1000000000)&&decide (n<=d)&&decide (k<n)
 | .w _=>true
def St.res(σ:St)(lv lr:List Nat):St:=
 {env:=lv.map fun k=>(k,σ.get k),rows:=lr.map fun r=>(r,(σ.row r).getD .dead)}
def Row.ments:Row->List Nat
 | .var x=>x.ments
 |_=>[]
def St.resOk(σ:St)(lv lr:List Nat):Prop:=
 (∀k∈lv,∀r∈(σ.get k).ments,r∈lr)/\(∀q∈lr,∀r∈((σ.row q).getD .dead).ments,r∈lr)/\lr.Nodup
inductive Ex where
 |nrm
 |ex (id:Nat)
 |ret
def thn(K:St->Prop)(Q:Ex->St->Prop):Ex->St->Prop
 | .nrm,σ=>K σ
 |e,σ=>Q e σ
def inb(id:Nat)(Q:Ex->St->Prop):Ex->St->Prop
 | .ex j,σ=>if j=id then Q .nrm σ else Q (.ex j) σ
 |e,σ=>Q e σ
def tst(x:AV)(A B:Prop):Prop:=match x with
 | .sc (.bool t)=>(t=true->A)/\(t=false->B)
 | .ub=>A/\B
 |_=>False
def zV(Q:Ex->St->Prop)(can:List Can)(σ:St):Prop:=Q .nrm (σ.can can)
def St.rb(σ:St)(lv:List Nat):St:=⟨lv.map fun k=>(k,snp σ.row 4 (σ.get k)),[]⟩
def AV.scal:AV->AV
 | .sc v=>.sc v
 |_=>.top
def St.scal(σ:St):St:=⟨σ.env.map fun p=>(p.1,p.2.scal),[]⟩
def rbQ(Q:Ex->St->Prop)(e:Ex)(τ:St):Prop:=Q e τ.scal
def AWP:aw->(Ex->St->Prop)->St->Prop
 | .skip,Q,σ=>Q .nrm σ
 | .reg ops can,Q,σ=>dF ok ops (zV Q can) σ
 | .drw ops can,Q,σ=>dF ok ops (zV Q can) σ
 | .regh pre h post can,Q,σ=>dF ok pre (stH ok h (dF ok post (zV Q can))) σ
 | .seq a b,Q,σ=>AWP a (thn (AWP b Q) Q) σ
 | .seqr a lv lr b,Q,σ=>AWP a (thn (fun τ=>τ.resOk lv lr/\AWP b Q (τ.res lv lr)) Q) σ
 | .seqa x a lv lr b,Q,σ=>AWP x (thn (AWP a (thn (fun τ=>τ.resOk lv lr/\AWP b Q (τ.res lv lr)) Q)) Q) σ
 | .seqb a lv b,Q,σ=>AWP a (thn (fun τ=>AWP b (rbQ Q) (τ.rb lv)) Q) σ
 | .cond x a b,Q,σ=>tst (σ.gx x) (AWP a Q σ) (AWP b Q σ)
 | .blk id a,Q,σ=>AWP a (inb id Q) σ
 | .loop a,Q,σ=>∃(lv lr:List Nat)(I:St->Prop)(μ:St->Nat),σ.resOk lv lr/\I (σ.res lv lr)/\
  ∀τ,I τ->AWP a (thn (fun τ'=>τ'.resOk lv lr/\I (τ'.res lv lr)/\μ (τ'.res lv lr)<μ τ) Q) τ
 | .exit id,Q,σ=>Q (.ex id) σ
 | .ret,Q,σ=>Q .ret σ
inductive RV where
 |t (n:Nat)
 |c (n k:Nat) (ag:Bool)
def RV.val(σ:St):RV->Option AV
 | .t n=>some (σ.get n)
 | .c n k ag => match σ.get n with
   | .pt r 0 0 => match σ.row r with
     |some (.var y)=>part y 0 k ag
     |_=>none
   |_=>none
def RVs.val(σ:St):List RV->Option (List AV)
 |[]=>some []
 | r :: rs => match r.val σ, RVs.val σ rs with
   |some x,some xs=>some (x::xs)
   |_,_=>none
def gN:List AV->AV
 |[x]=>x
 |xs=>.tup xs
def fin(rs:List RV)(res:AV):Ex->St->Prop
 | .nrm,σ| .ret,σ=>∃xs,RVs.val σ rs=some xs/\(aM xs).Nodup/\lift σ.row 3 (gN xs)=res
 |_,_=>False
def St.start(args:List AV):St:={env:=go 0 args,rows:=[]}
where go:Nat->List AV->List (Nat×AV)
 |_,[]=>[]
 |n,a::as=>(n,a)::go (n+1) as
def Wc(a:aw)(rs:List RV)(args:List AV)(res:AV):Prop:=AWP ok a (fin rs res) (St.start args)
end
end Vs

namespace Vs
open Go
theorem iI(xs:List AV):iw xs=xs.map AV.nrm:=by
 induction xs with
 |nil=>simp[iw]
 |cons x xs ih=>simp[iw,ih]
theorem iQ(xs:List AV):dM xs=xs.map AV.als:=by
 induction xs with
 |nil=>simp[dM]
 |cons x xs ih=>simp[dM,ih]
theorem ga(xs:List AV):gt xs=xs.map AV.fix:=by
 induction xs with
 |nil=>simp[gt]
 |cons x xs ih=>simp[gt,ih]
theorem mD(r d:Nat)(xs:List AV):jx r d xs=xs.map (AV.ren r d):=by
 induction xs with
 |nil=>simp[jx]
 |cons x xs ih=>simp[jx,ih]
theorem tj(xs:List AV):kO xs↔∀x∈xs,x.allU:=by
 induction xs with
 |nil=>simp[kO]
 |cons x xs ih=>simp[kO,ih]
theorem Vd(ρ:Nat->Option Row)(k:Nat)(v:Value):snp ρ (k+1) (.sc v)=.sc v:=by simp[snp,AV.nrm]
theorem SJ(ρ:Nat->Option Row)(k:Nat)(f:Fl)(n:Nat)(xs:List AV):snp ρ (k+1) (.lst f n xs)=.lst .o n (xs.map AV.nrm):=by simp[snp,AV.nrm,iI]
theorem Vl(ρ:Nat->Option Row)(k:Nat)(f:Fl)(n:Nat)(xs:List AV):snp ρ (k+1) (.tg f n xs)=.lst .o n (xs.map AV.nrm):=by simp[snp,AV.nrm,iI]
theorem QG(ρ:Nat->Option Row)(k:Nat)(cs:List AV):snp ρ (k+1) (.agg cs)=.agg (cs.map (snp ρ k)):=by simp[snp]
theorem VQ(ρ:Nat->Option Row)(k:Nat)(f:Nat)(cs:List AV):snp ρ (k+1) (.fn f cs)=.fn f (cs.map (snp ρ k)):=by simp[snp]
theorem Uy(ρ:Nat->Option Row)(k:Nat)(f:Fl)(x:AV)(off:Nat):snp ρ (k+1) (.bp f x off)=.bp .o x.nrm off:=by simp[snp,AV.nrm]
theorem Vw(ρ:Nat->Option Row)(k:Nat)(r i n:Nat):snp ρ (k+1) (.sl r i n)=ov (ρ r) i n:=by simp only[snp]
theorem Fa(w:Nat)(es:List AV)(i n:Nat):ov (some (.arr w es)) i n=.lst .o w ((sub es i n).map AV.nrm):=by simp[ov,iI]
theorem Xe(ρ:Nat->Option Row)(k:Nat)(r i off:Nat):snp ρ (k+1) (.pt r i off)=mJ (snp ρ k) (ρ r) i off:=by simp only[snp]
theorem Ga(h:AV->AV)(y:AV)(off:Nat):mJ h (some (.var y)) 0 off=.bp .o (h y) off:=by simp[mJ]
theorem Sa(ρ:Nat->Option Row)(k:Nat)(v:Value):lift ρ (k+1) (.sc v)=.sc v:=by simp[lift]
theorem HL(ρ:Nat->Option Row)(k:Nat)(f:Fl)(n:Nat)(xs:List AV):lift ρ (k+1) (.lst f n xs)=.lst f n xs:=by simp[lift]
theorem Oq(ρ:Nat->Option Row)(k:Nat)(cs:List AV):lift ρ (k+1) (.agg cs)=.agg (cs.map (lift ρ k)):=by simp[lift]
theorem KY(ρ:Nat->Option Row)(k:Nat)(cs:List AV):lift ρ (k+1) (.tup cs)=.tup (cs.map (lift ρ k)):=by simp[lift]
theorem QA(ρ:Nat->Option Row)(k:Nat)(r i n:Nat):lift ρ (k+1) (.sl r i n)=mA (ρ r) i n:=by simp only[lift]
theorem Af(w:Nat)(es:List AV)(i n:Nat):mA (some (.arr w es)) i n=.lst .u w (sub es i n):=rfl
theorem mQ(k c:Nat)(v:Value):adopt (k+1) c (.sc v)=(.sc v,[],c):=by simp[adopt,AV.fix]
theorem Br(k c n:Nat)(es:List AV):adopt (k+1) c (.lst .u n es)=(.sl c 0 es.length,[(c,.arr n (es.map AV.fix))],c+1000):=by simp[adopt,ga]
theorem AY(k c n:Nat)(es:List AV):adopt (k+1) c (.lst .o n es)=(.lst .s n (es.map AV.fix),[],c):=by simp[adopt,AV.fix,ga,Fl.fix]
theorem BX(k c n:Nat)(es:List AV):adopt (k+1) c (.lst .m n es)=(.lst .m n (es.map AV.fix),[],c):=by simp[adopt,AV.fix,ga,Fl.fix]
theorem AB(k c n:Nat)(es:List AV):adopt (k+1) c (.lst .s n es)=(.lst .s n (es.map AV.fix),[],c):=by simp[adopt,AV.fix,ga,Fl.fix]
theorem sJ(k c:Nat)(xs:List AV):adopt (k+1) c (.tup xs)=(.tup (adopt.go k c xs).1,(adopt.go k c xs).2.1,(adopt.go k c xs).2.2):=by simp[adopt]
theorem sP(k c:Nat)(xs:List AV):adopt (k+1) c (.agg xs)=(.agg (adopt.go k c xs).1,(adopt.go k c xs).2.1,(adopt.go k c xs).2.2):=by simp[adopt]
theorem ta(k c:Nat):adopt.go k c []=([],[],c):=by simp[adopt.go]
theorem pw(k c:Nat)(x:AV)(xs:List AV):adopt.go k c (x::xs)=
 ((adopt k c x).1::(adopt.go k (adopt k c x).2.2 xs).1,(adopt k c x).2.1++(adopt.go k (adopt k c x).2.2 xs).2.1,(adopt.go k (adopt k c x).2.2 xs).2.2):=by simp[adopt.go]
theorem dV(v:Value):(AV.sc v).nrm=.sc v:=by simp[AV.nrm]
theorem gy(f:Fl)(n:Nat)(xs:List AV):(AV.lst f n xs).nrm=.lst .o n (xs.map AV.nrm):=by simp[AV.nrm,iI]
theorem gr(cs:List AV):(AV.agg cs).nrm=.agg (cs.map AV.nrm):=by simp[AV.nrm,iI]
theorem VX(f:Fl)(x:AV)(off:Nat):(AV.bp f x off).nrm=.bp .o x.nrm off:=by simp[AV.nrm]
theorem eQ(v:Value):(AV.sc v).als=.sc v:=by simp[AV.als]
theorem gv(f:Fl)(n:Nat)(xs:List AV):(AV.lst f n xs).als=.lst f.als n (xs.map AV.als):=by simp[AV.als,iQ]
theorem gD(cs:List AV):(AV.agg cs).als=.agg (cs.map AV.als):=by simp[AV.als,iQ]
theorem fH(v:Value):(AV.sc v).fix=.sc v:=by simp[AV.fix]
theorem fX(f:Fl)(n:Nat)(xs:List AV):(AV.lst f n xs).fix=.lst f.fix n (xs.map AV.fix):=by simp[AV.fix,ga]
theorem fW(cs:List AV):(AV.agg cs).fix=.agg (cs.map AV.fix):=by simp[AV.fix,ga]
theorem fO(xs:List Int):(xs.map AV.i).map AV.nrm=xs.map AV.i:=by simp[dV]
theorem fU(xs:List Int):(xs.map AV.i).map AV.als=xs.map AV.i:=by simp[eQ]
theorem ft(xs:List Int):(xs.map AV.i).map AV.fix=xs.map AV.i:=by simp[fH]
theorem EI(xs:List Bool):(xs.map AV.b).map AV.nrm=xs.map AV.b:=by simp[dV]
theorem FB(xs:List Bool):(xs.map AV.b).map AV.als=xs.map AV.b:=by simp[eQ]
theorem sM(xs:List Bool):(xs.map AV.b).map AV.fix=xs.map AV.b:=by simp[fH]
theorem iO(xs:List ByteArray):(xs.map AV.z).map AV.nrm=xs.map AV.z:=by simp[dV]
theorem iV(xs:List ByteArray):(xs.map AV.z).map AV.als=xs.map AV.z:=by simp[eQ]
theorem gF(xs:List ByteArray):(xs.map AV.z).map AV.fix=xs.map AV.z:=by simp[fH]
theorem An(xs:List Int):(xs.map AV.u8).map AV.nrm=xs.map AV.u8:=by simp[dV]
theorem CA:AV.als∘AV.i=AV.i:=by funext x;simp[eQ]
theorem EL:AV.als∘AV.b=AV.b:=by funext x;simp[eQ]
theorem CX:AV.als∘AV.z=AV.z:=by funext x;simp[eQ]
theorem yd(xs:List Int):(xs.map AV.u8).map AV.als=xs.map AV.u8:=by simp[eQ]
theorem rv(xs:List Int):(xs.map AV.u8).map AV.fix=xs.map AV.u8:=by simp[fH]
theorem Qg{α:Type}(a:α):(some a).isSome=true:=rfl
theorem c_eq{α:Type}(a:α):(a=a)=True:=eq_self a
theorem Xv(p:Prop):(True/\p)=p:=true_and p
theorem Vi(p:Prop):(p/\True)=p:=and_true p
theorem SQ(n:Nat)(xs:List AV):(∃es,some (Row.arr n xs)=some (Row.arr n es))=True:=by simp
theorem JG(n:Nat)(xs:List AV):(∃w es,some (Row.arr n xs)=some (Row.arr w es))=True:=by simp
theorem Wg(p:Prop):(False->p)=True:=by simp
theorem VB(p:Prop):(True->p)=p:=by simp
theorem RA{α:Type}(q:α->Prop):(∀p∈([]:List α),q p)=True:=by simp
theorem SM{α:Type}(x:α)(l:List α)(q:α->Prop):(∀p∈x::l,q p)=(q x/\∀p∈l,q p):=by simp
theorem Kh:sub [] 0 0=[]:=rfl
theorem Hk(n:Nat):0+n=n:=Nat.zero_add n
theorem MB(n:Nat):n+0=n:=Nat.add_zero n
theorem WK(n:Nat):n-0=n:=Nat.sub_zero n
theorem Vv(d:Nat):(d∈([]:List Nat))=False:=by simp
theorem Wk(d x:Nat)(l:List Nat):(d∈x::l)=(d=x\/d∈l):=by simp
theorem Xz(p:Prop):(p\/False)=p:=or_false p
theorem XQ(p:Prop):(False\/p)=p:=false_or p
theorem Xm(p:Prop):(p\/True)=True:=or_true p
theorem XO(p:Prop):(True\/p)=True:=true_or p
theorem WC:(¬False)=True:=not_false_eq_true
theorem Xa:(¬True)=False:=not_true_eq_false
theorem XI(n:Nat):(n<=n)=True:=by simp
theorem Xk(n:Nat):(0<=n)=True:=by simp
theorem Pu{α:Type}(f:α->AV)(l:List α):sub (l.map f) 0 l.length=l.map f:=by simp[sub]
theorem nq(h:Nat->Nat)(xs:List AV):rgL h xs=xs.map (AV.rg h):=by
 induction xs with
 |nil=>simp[rgL]
 |cons x xs ih=>simp[rgL,ih]
theorem TX(h:Nat->Nat)(v:Value):(AV.sc v).rg h=.sc v:=by simp[AV.rg]
theorem Ln(h:Nat->Nat)(f:Fl)(n:Nat)(xs:List AV):(AV.lst f n xs).rg h=.lst f n xs:=by simp[AV.rg]
theorem Tg(h:Nat->Nat)(f:Fl)(n:Nat)(xs:List AV):(AV.tg f n xs).rg h=.tg f n xs:=by simp[AV.rg]
theorem Tm(h:Nat->Nat)(f:Fl)(x:AV)(off:Nat):(AV.bp f x off).rg h=.bp f x off:=by simp[AV.rg]
theorem IQ(h:Nat->Nat):AV.top.rg h=.top:=by simp[AV.rg]
theorem LB(h:Nat->Nat)(cs:List AV):(AV.agg cs).rg h=.agg (cs.map (AV.rg h)):=by simp[AV.rg,nq]
theorem Tn(h:Nat->Nat)(f:Nat)(cs:List AV):(AV.fn f cs).rg h=.fn f (cs.map (AV.rg h)):=by simp[AV.rg,nq]
theorem GV(h:Nat->Nat)(cs:List AV):(AV.tup cs).rg h=.tup (cs.map (AV.rg h)):=by simp[AV.rg,nq]
theorem Uo(h:Nat->Nat)(q i n:Nat):(AV.sl q i n).rg h=.sl (h q) i n:=by simp[AV.rg]
theorem TJ(h:Nat->Nat)(q i n:Nat):(AV.pt q i n).rg h=.pt (h q) i n:=by simp[AV.rg]
theorem AF(h:Nat->Nat)(x:AV):(Row.var x).rg h=.var (x.rg h):=rfl
theorem Bo(h:Nat->Nat)(n:Nat)(xs:List AV):(Row.arr n xs).rg h=.arr n xs:=rfl
theorem ve(h:Nat->Nat):Row.dead.rg h=.dead:=rfl
theorem uY(r x:Nat)(xs:List Nat):pos r (x::xs)=if x=r then 0 else pos r xs+1:=rfl
theorem Nr(rs:List Nat)(r:Nat):cnm rs r=1000000000+pos r rs:=rfl
theorem IH(d:Nat)(rs:List Nat)(q:Nat):bkn d rs q=if 1000000000<=q then rs.getD (q-1000000000) 0 else q+100000*(d+1):=rfl
theorem HD(ρ:Nat->Option Row)(rs:List Nat)(r:Nat):hZ ρ rs r=(cnm rs r,((ρ r).getD .dead).rg (cnm rs)):=rfl
theorem xp(d:Nat)(rs:List Nat)(p:Nat×Row):dg d rs p=(bkn d rs p.1,p.2.rg (bkn d rs)):=rfl
theorem yg(x:AV):nF (some (.var x))=x.ments:=rfl
theorem zf(n:Nat)(xs:List AV):nF (some (.arr n xs))=[]:=rfl
theorem AM(x y:Nat)(l:List Nat):(x::l).getD 0 y=x:=rfl
theorem Bu(x y:Nat)(l:List Nat)(n:Nat):(x::l).getD (n+1) y=l.getD n y:=by simp
theorem Wv(r d:Nat)(v:Value):(AV.sc v).ren r d=.sc v:=by simp[AV.ren]
theorem Qw(r d:Nat)(f:Fl)(n:Nat)(xs:List AV):(AV.lst f n xs).ren r d=.lst f n xs:=by simp[AV.ren]
theorem We(r d:Nat)(f:Fl)(n:Nat)(xs:List AV):(AV.tg f n xs).ren r d=.tg f n xs:=by simp[AV.ren]
theorem WW(r d:Nat)(f:Fl)(x:AV)(off:Nat):(AV.bp f x off).ren r d=.bp f x off:=by simp[AV.ren]
theorem ST(r d:Nat):AV.top.ren r d=.top:=by simp[AV.ren]
theorem Rp(r d:Nat)(cs:List AV):(AV.agg cs).ren r d=.agg (cs.map (AV.ren r d)):=by simp[AV.ren,mD]
theorem VV(r d f:Nat)(cs:List AV):(AV.fn f cs).ren r d=.fn f (cs.map (AV.ren r d)):=by simp[AV.ren,mD]
theorem QJ(r d:Nat)(cs:List AV):(AV.tup cs).ren r d=.tup (cs.map (AV.ren r d)):=by simp[AV.ren,mD]
theorem UC(r d q i n:Nat):(AV.sl q i n).ren r d=.sl (if q=r then d else q) i n:=by simp[AV.ren]
theorem Wz(r d q i n:Nat):(AV.pt q i n).ren r d=.pt (if q=r then d else q) i n:=by simp[AV.ren]
theorem JZ(ok:Oks)(Q:Ex->St->Prop)(σ:St):AWP ok .skip Q σ=Q .nrm σ:=by simp only[AWP]
theorem PH(ok:Oks)(Q:Ex->St->Prop)(σ:St)(ops:List aY)(can:List Can):AWP ok (.reg ops can) Q σ=dF ok ops (zV Q can) σ:=by simp only[AWP]
theorem OW(ok:Oks)(Q:Ex->St->Prop)(σ:St)(ops:List aY)(can:List Can):AWP ok (.drw ops can) Q σ=dF ok ops (zV Q can) σ:=by simp only[AWP]
theorem KW(ok:Oks)(Q:Ex->St->Prop)(σ:St)(pre:List aY)(h:HOp)(post:List aY)(can:List Can):AWP ok (.regh pre h post can) Q σ=dF ok pre (stH ok h (dF ok post (zV Q can))) σ:=by simp only[AWP]
theorem Sf(ok:Oks)(Q:Ex->St->Prop)(σ:St)(a b:aw):AWP ok (.seq a b) Q σ=AWP ok a (thn (AWP ok b Q) Q) σ:=by simp only[AWP]
def tz(ok:Oks)(v:AV)(a b:aw)(Q:Ex->St->Prop)(σ:St):Prop:=tst v (AWP ok a Q σ) (AWP ok b Q σ)
theorem Ju(ok:Oks)(Q:Ex->St->Prop)(σ:St)(x:X)(a b:aw):AWP ok (.cond x a b) Q σ=tz ok (σ.gx x) a b Q σ:=by simp only[AWP,tz]
theorem Vj(ok:Oks)(Q:Ex->St->Prop)(σ:St)(a b:aw):tz ok (.sc (.bool true)) a b Q σ=AWP ok a Q σ:=by simp[tz,tst]
theorem WZ(ok:Oks)(Q:Ex->St->Prop)(σ:St)(a b:aw):tz ok .ub a b Q σ=(AWP ok a Q σ/\AWP ok b Q σ):=by simp[tz,tst]
theorem VU(ok:Oks)(Q:Ex->St->Prop)(σ:St)(a b:aw):tz ok (.sc (.bool false)) a b Q σ=AWP ok b Q σ:=by simp[tz,tst]
theorem LK(ok:Oks)(Q:Ex->St->Prop)(σ:St)(x a:aw)(lv lr:List Nat)(b:aw):AWP ok (.seqa x a lv lr b) Q σ=AWP ok x (thn (AWP ok (.seqr a lv lr b) Q) Q) σ:=by simp only[AWP]
theorem LO(ok:Oks)(Q:Ex->St->Prop)(σ:St)(a:aw)(lv:List Nat)(b:aw):AWP ok (.seqb a lv b) Q σ=AWP ok a (thn (fun τ=>AWP ok b (rbQ Q) (τ.rb lv)) Q) σ:=by simp only[AWP]
theorem XL(env:List (Nat×AV))(rows:List (Nat×Row))(lv:List Nat):St.rb ⟨env,rows⟩ lv=⟨lv.map fun k=>(k,snp (St.row ⟨env,rows⟩) 4 (St.get ⟨env,rows⟩ k)),[]⟩:=rfl
theorem VG(Q:Ex->St->Prop)(e:Ex)(env:List (Nat×AV))(rows:List (Nat×Row)):rbQ Q e ⟨env,rows⟩=Q e ⟨env.map fun p=>(p.1,p.2.scal),[]⟩:=rfl
theorem RX(v:Value):(AV.sc v).scal=.sc v:=rfl
theorem RG(ok:Oks)(Q:Ex->St->Prop)(σ:St)(id:Nat)(a:aw):AWP ok (.blk id a) Q σ=AWP ok a (inb id Q) σ:=by simp only[AWP]
theorem LT(ok:Oks)(Q:Ex->St->Prop)(σ:St)(id:Nat):AWP ok (.exit id) Q σ=Q (.ex id) σ:=by simp only[AWP]
theorem PI(ok:Oks)(Q:Ex->St->Prop)(σ:St):AWP ok .ret Q σ=Q .ret σ:=by simp only[AWP]
theorem Qk(K:St->Prop)(Q:Ex->St->Prop)(σ:St):thn K Q .nrm σ=K σ:=rfl
theorem UH(K:St->Prop)(Q:Ex->St->Prop)(i:Nat)(σ:St):thn K Q (.ex i) σ=Q (.ex i) σ:=rfl
theorem Rv(K:St->Prop)(Q:Ex->St->Prop)(σ:St):thn K Q .ret σ=Q .ret σ:=rfl
theorem Pa(i:Nat)(Q:Ex->St->Prop)(σ:St):inb i Q .nrm σ=Q .nrm σ:=rfl
theorem WN(i j:Nat)(Q:Ex->St->Prop)(σ:St):inb i Q (.ex j) σ=if j=i then Q .nrm σ else Q (.ex j) σ:=rfl
theorem PW(i:Nat)(Q:Ex->St->Prop)(σ:St):inb i Q .ret σ=Q .ret σ:=rfl
theorem Ve(ok:Oks)(g:X->AV)(ρ:Nat->Option Row)(d:Nat)(K:AV->List (Nat×Row)->Prop)(x:X):eff ok g ρ d (.mv x) K=K (g x) []:=rfl
theorem IE(ok:Oks)(g:X->AV)(ρ:Nat->Option Row)(d:Nat)(K:AV->List (Nat×Row)->Prop)(c a b:X):eff ok g ρ d (.pick c a b) K=lT K (g c) (g a) (g b):=rfl
theorem OZ(K:AV->List (Nat×Row)->Prop)(a b:AV):lT K (.sc (.bool true)) a b=K a []:=by simp[lT]
theorem RH(K:AV->List (Nat×Row)->Prop)(a b:AV):lT K (.sc (.bool false)) a b=K b []:=by simp[lT]
theorem Fd(ok:Oks)(g:X->AV)(ρ:Nat->Option Row)(d:Nat)(K:AV->List (Nat×Row)->Prop)(z:AV):eff ok g ρ d (.alloc z) K=(ρ d=none/\K (.pt d 0 0) [(d,.var z)]):=rfl
theorem Qo(ok:Oks)(g:X->AV)(ρ:Nat->Option Row)(d:Nat)(K:AV->List (Nat×Row)->Prop)(n:Nat)(x:X):eff ok g ρ d (.box n x) K=(ρ d=none/\(g x).width=n/\K (.pt d 0 0) [(d,.var (g x))]):=rfl
theorem DR(ok:Oks)(g:X->AV)(ρ:Nat->Option Row)(d:Nat)(K:AV->List (Nat×Row)->Prop)(z:List AV)(ps:List (Nat×Nat×X)):eff ok g ρ d (.build z ps) K=
 ((∀p∈ps,(g p.2.2).width=p.2.1/\p.1+p.2.1<=z.length)/\K (.agg (lU z (ps.map fun p=>(p.1,g p.2.2)))) []):=rfl
theorem SK(ok:Oks)(g:X->AV)(ρ:Nat->Option Row)(d:Nat)(K:AV->List (Nat×Row)->Prop)(n:Nat)(fr:Bool)(ps:List X):eff ok g ρ d (.bsl n fr ps) K=((fr=true->aM (ps.map g)=[])/\ρ d=none/\(∀p∈ps,(g p).width=n)/\(aM (ps.map g)).Nodup/\
 K (.sl d 0 ps.length) (bW (aM (ps.map g))++[(d,.arr n ((ps.map g).map (lift ρ 2)))])):=rfl
theorem xF(x:AV):cA (some (.var x))=True:=rfl
theorem zB(n:Nat)(x:List AV):cA (some (.arr n x))=True:=rfl
theorem BV(rs:List Nat):bW rs=rs.map fun r=>(r,.dead):=rfl
theorem XC(K:AV->List (Nat×Row)->Prop)(v:AV):k1 K v=K v []:=rfl
theorem Ku(ok:Oks)(g:X->AV)(ρ:Nat->Option Row)(d:Nat)(K:AV->List (Nat×Row)->Prop)(n:Nat)(ag:Bool)(x:X):eff ok g ρ d (.load n ag x) K=ey K ρ n ag (g x):=rfl
theorem Jj(ρ:Nat->Option Row)(K:AV->List (Nat×Row)->Prop)(n:Nat)(ag:Bool)(f:Fl)(y:AV)(off:Nat):ey K ρ n ag (.bp f y off)=opt (part y off n ag) (k1 K):=rfl
theorem HU(ρ:Nat->Option Row)(K:AV->List (Nat×Row)->Prop)(n:Nat)(ag:Bool)(r i off:Nat):ey K ρ n ag (.pt r i off)=eH K (ρ r) i off n ag:=rfl
theorem wr(K:AV->List (Nat×Row)->Prop)(y:AV)(i off n:Nat)(ag:Bool):eH K (some (.var y)) i off n ag=(i=0/\opt (part y off n ag) (k1 K)):=rfl
theorem wb(K:AV->List (Nat×Row)->Prop)(w:Nat)(es:List AV)(i off n:Nat)(ag:Bool):eH K (some (.arr w es)) i off n ag=opt es[i]? (Mx K off n ag):=rfl
theorem GP(K:AV->List (Nat×Row)->Prop)(off n:Nat)(ag:Bool)(y:AV):Mx K off n ag y=opt (part y.als off n ag) (k1 K):=rfl
theorem CO(ok:Oks)(g:X->AV)(ρ:Nat->Option Row)(d:Nat)(K:AV->List (Nat×Row)->Prop)(n:Nat)(x v:X):eff ok g ρ d (.store n x v) K=dN K ρ n (g x) (g v):=rfl
theorem Fs(ρ:Nat->Option Row)(K:AV->List (Nat×Row)->Prop)(n r i off:Nat)(v:AV):dN K ρ n (.pt r i off) v=(v.width=n/\ef K ρ (ρ r) r i off v):=rfl
theorem uo(ρ:Nat->Option Row)(K:AV->List (Nat×Row)->Prop)(y:AV)(r i off:Nat)(v:AV):ef K ρ (some (.var y)) r i off v=(i=0/\opt (setPart y off v) (Gj K r)):=rfl
theorem GR(K:AV->List (Nat×Row)->Prop)(r:Nat)(y:AV):Gj K r y=K .top [(r,.var y)]:=rfl
theorem tH(ρ:Nat->Option Row)(K:AV->List (Nat×Row)->Prop)(w:Nat)(es:List AV)(r i off:Nat)(v:AV):ef K ρ (some (.arr w es)) r i off v=opt es[i]? (qF K ρ r w i off es v):=rfl
theorem Gr(ρ:Nat->Option Row)(K:AV->List (Nat×Row)->Prop)(w:Nat)(es:List AV)(r i off:Nat)(v y:AV):qF K ρ r w i off es v y=
 (r∉v.ments/\v.ments.Nodup/\(lift ρ 2 v).width=v.width/\opt (setPart y off (lift ρ 2 v)) (xY K (bW v.ments) r w i es)):=rfl
theorem Ei(K:AV->List (Nat×Row)->Prop)(u:List (Nat×Row))(r w i:Nat)(es:List AV)(y:AV):xY K u r w i es y=K .top (u++[(r,.arr w (es.set i y))]):=rfl
theorem Pd(ok:Oks)(g:X->AV)(ρ:Nat->Option Row)(d:Nat)(K:AV->List (Nat×Row)->Prop)(n:Nat)(ps:List X):eff ok g ρ d (.bsm n ps) K=((∀r∈aM (ps.map g),yB (ρ r))/\ρ d=none/\(∀p∈ps,(g p).width=n)/\(aM (ps.map g)).Nodup/\
 K (.sl d 0 ps.length) (bW (aM (ps.map g))++[(d,.arr n ((ps.map g).map (lift ρ 2)))])):=rfl
theorem Pi(ok:Oks)(g:X->AV)(ρ:Nat->Option Row)(d:Nat)(K:AV->List (Nat×Row)->Prop)(n:Nat)(x v:X):eff ok g ρ d (.stv n x v) K=(vPv ρ (g x)/\dN K ρ n (g x) (g v)):=rfl
theorem Rd(ok:Oks)(g:X->AV)(ρ:Nat->Option Row)(d:Nat)(K:AV->List (Nat×Row)->Prop)(n:Nat)(ag:Bool)(x:X):eff ok g ρ d (.lda n ag x) K=(aPb ρ (g x)/\ey K ρ n ag (g x)):=rfl
theorem PN(ok:Oks)(g:X->AV)(ρ:Nat->Option Row)(d:Nat)(K:AV->List (Nat×Row)->Prop)(av:List Nat)(off:Nat)(x:X):eff ok g ρ d (.fdv av off x) K=(vPt av ρ (g x)/\mz K ρ off (g x)):=rfl
theorem WV(ρ:Nat->Option Row)(r i off:Nat):aPb ρ (.pt r i off)=yB (ρ r):=rfl
theorem Vh(ρ:Nat->Option Row)(f:Fl)(y:AV)(off:Nat):aPb ρ (.bp f y off)=True:=rfl
theorem Wp(ρ:Nat->Option Row)(r i off:Nat):vPv ρ (.pt r i off)=yK (ρ r):=rfl
theorem Rn(ok:Oks)(g:X->AV)(ρ:Nat->Option Row)(d:Nat)(K:AV->List (Nat×Row)->Prop)(av:List Nat)(n:Nat)(ag:Bool)(x:X):eff ok g ρ d (.ldv av n ag x) K=(vPt av ρ (g x)/\ey K ρ n ag (g x)):=rfl
theorem Po(ok:Oks)(g:X->AV)(ρ:Nat->Option Row)(d:Nat)(K:AV->List (Nat×Row)->Prop)(n:Nat)(x v:X):eff ok g ρ d (.str n x v) K=(aPt ρ (g x)/\(g v).ments=[]/\dN K ρ n (g x) (g v)):=rfl
theorem Pf(ok:Oks)(g:X->AV)(ρ:Nat->Option Row)(d:Nat)(K:AV->List (Nat×Row)->Prop)(av:List Nat)(n:Nat)(ag:Bool)(x:X):eff ok g ρ d (.lde av n ag x) K=(lPt av (g x)/\ey K ρ n ag (g x)):=rfl
theorem Vg(ρ:Nat->Option Row)(av:List Nat)(r i off:Nat):vPt av ρ (.pt r i off)=(r∉av/\yK (ρ r)):=rfl
theorem WD(ρ:Nat->Option Row)(av:List Nat)(f:Fl)(y:AV)(off:Nat):vPt av ρ (.bp f y off)=True:=rfl
theorem UT(ρ:Nat->Option Row)(r i off:Nat):aPt ρ (.pt r i off)=yB (ρ r):=rfl
theorem Mo(x:AV):yK (some (.var x))=True:=rfl
theorem GQ(n:Nat)(x:List AV):yB (some (.arr n x))=True:=rfl
theorem Pe(ok:Oks)(g:X->AV)(ρ:Nat->Option Row)(d:Nat)(K:AV->List (Nat×Row)->Prop)(op:BinOp)(x y:X):eff ok g ρ d (.bin op x y) K=dz op (g x) (g y) (k1 K):=rfl
theorem PF(ok:Oks)(g:X->AV)(ρ:Nat->Option Row)(d:Nat)(K:AV->List (Nat×Row)->Prop)(neg:Bool)(x y:X):eff ok g ρ d (.beq neg x y) K=vF K neg (g x) (g y):=rfl
theorem VW(K:AV->List (Nat×Row)->Prop)(a b:Bool):vF K false (.sc (.bool a)) (.sc (.bool b))=K (.sc (.bool (a==b))) []:=rfl
theorem Wd(K:AV->List (Nat×Row)->Prop)(a b:Bool):vF K true (.sc (.bool a)) (.sc (.bool b))=K (.sc (.bool (!(a==b)))) []:=rfl
theorem Vp(K:AV->List (Nat×Row)->Prop)(a b c e:Int):OH K false (.agg [.sc (.int .i64 a),.sc (.int .i64 b)]) (.agg [.sc (.int .i64 c),.sc (.int .i64 e)])=K (.sc (.bool (a==c&&b==e))) []:=rfl
theorem VI(K:AV->List (Nat×Row)->Prop)(a b c e:Int):OH K true (.agg [.sc (.int .i64 a),.sc (.int .i64 b)]) (.agg [.sc (.int .i64 c),.sc (.int .i64 e)])=K (.sc (.bool (!(a==c&&b==e)))) []:=rfl
theorem VS(ok:Oks)(g:X->AV)(ρ:Nat->Option Row)(d:Nat)(K:AV->List (Nat×Row)->Prop)(op:UnOp)(x:X):eff ok g ρ d (.un op x) K=unV op (g x) (k1 K):=rfl
theorem Nn(ok:Oks)(g:X->AV)(ρ:Nat->Option Row)(d:Nat)(K:AV->List (Nat×Row)->Prop)(q:IntKind)(x:X):eff ok g ρ d (.conv q x) K=qT K q (g x):=rfl
theorem PM(K:AV->List (Nat×Row)->Prop)(q q':IntKind)(n:Int):qT K q (.sc (.int q' n))=K (.sc (.int q (q.wrap n))) []:=rfl
theorem Sz(ok:Oks)(g:X->AV)(ρ:Nat->Option Row)(d:Nat)(K:AV->List (Nat×Row)->Prop)(f:Nat)(cs:List X):eff ok g ρ d (.mkf f cs) K=K (.fn f (cs.map g)) []:=rfl
theorem Pr(ok:Oks)(g:X->AV)(ρ:Nat->Option Row)(d:Nat)(K:AV->List (Nat×Row)->Prop)(n:Nat)(z:AV)(bytes:Nat)(l c:X):eff ok g ρ d (.mks n z bytes l c) K=rQ K (ρ d) d n z bytes (g l) (g c):=rfl
theorem Ut(d:Nat)(K:AV->List (Nat×Row)->Prop)(o:Option Row)(n:Nat)(z:AV)(bytes:Nat)(l c:Int):rQ K o d n z bytes (.sc (.int .i64 l)) (.sc (.int .i64 c))=
 (o=none/\z.width=n/\0<=l/\l<=c/\c*bytes<=140737488355328/\c<=9223372036854775807/\K (.sl d 0 l.toNat) [(d,.arr n (List.replicate l.toNat z))]):=rfl
theorem PC(ok:Oks)(g:X->AV)(ρ:Nat->Option Row)(d:Nat)(K:AV->List (Nat×Row)->Prop)(n:Nat)(x:X)(lo hi mx:Option X):eff ok g ρ d (.slc n x lo hi mx) K=qZ K ρ n (g x) (lo.map g) (hi.map g) (mx.map g):=rfl
theorem JV(ρ:Nat->Option Row)(K:AV->List (Nat×Row)->Prop)(f:Fl)(n w:Nat)(xs:List AV)(lo hi:Option AV):qZ K ρ n (.lst f w xs) lo hi none=
 (w=n/\bOk lo/\bOk hi/\bV lo 0<=bV hi xs.length/\bV hi xs.length<=xs.length/\K (.lst f n (sub xs (bV lo 0) (bV hi xs.length-bV lo 0))) []):=rfl
theorem FJ(ρ:Nat->Option Row)(K:AV->List (Nat×Row)->Prop)(f:Fl)(n w:Nat)(xs:List AV)(lo hi:Option AV)(m:AV):qZ K ρ n (.lst f w xs) lo hi (some m)=
 (w=n/\bOk lo/\bOk hi/\bV lo 0<=bV hi xs.length/\bV hi xs.length<=xs.length/\hi.isSome/\bOk (some m)/\bV (some m) 0=bV hi xs.length/\K (.tg f n (sub xs (bV lo 0) (bV hi xs.length-bV lo 0))) []):=rfl
theorem QS(ρ:Nat->Option Row)(K:AV->List (Nat×Row)->Prop)(n r i m:Nat)(lo hi mx:Option AV):qZ K ρ n (.sl r i m) lo hi mx=
 ((∃es,ρ r=some (.arr n es))/\bOk lo/\bOk hi/\bV lo 0<=bV hi m/\bV hi m<=m/\mx=none/\K (.sl r (i+bV lo 0) (bV hi m-bV lo 0)) []):=rfl
theorem VK(K:AV->List (Nat×Row)->Prop)(s:ByteArray)(lo hi:Option AV):Qh K (.sc (.string s)) lo hi=
 (bOk lo/\bOk hi/\bV lo 0<=bV hi s.size/\bV hi s.size<=s.size/\K (.sc (.string (s.extract (bV lo 0) (bV hi s.size)))) []):=rfl
theorem Hi:bOk none=True:=rfl
theorem Xn(q:IntKind)(j:Int):bOk (some (.sc (.int q j)))=(0<=j):=rfl
theorem PE(n:Nat):bV none n=n:=rfl
theorem bV_i(n:Nat)(q:IntKind)(j:Int):bV (some (.sc (.int q j))) n=j.toNat:=rfl
theorem PT(ok:Oks)(g:X->AV)(ρ:Nat->Option Row)(d:Nat)(K:AV->List (Nat×Row)->Prop)(off:Nat)(x:X):eff ok g ρ d (.fad off x) K=mz K ρ off (g x):=rfl
theorem QL(ρ:Nat->Option Row)(K:AV->List (Nat×Row)->Prop)(off o:Nat)(f:Fl)(y:AV):mz K ρ off (.bp f y o)=K (.bp f y (o+off)) []:=rfl
theorem SH(ρ:Nat->Option Row)(K:AV->List (Nat×Row)->Prop)(off r i o:Nat):mz K ρ off (.pt r i o)=(cA (ρ r)/\K (.pt r i (o+off)) []):=rfl
theorem Sj(ok:Oks)(g:X->AV)(ρ:Nat->Option Row)(d:Nat)(K:AV->List (Nat×Row)->Prop)(n:Nat)(x i:X):eff ok g ρ d (.idx n x i) K=kI K ρ n (g x) (g i):=rfl
theorem RT(ok:Oks)(g:X->AV)(ρ:Nat->Option Row)(d:Nat)(K:AV->List (Nat×Row)->Prop)(av:List Nat)(n:Nat)(x i:X):eff ok g ρ d (.idv av n x i) K=(iPt av (g x)/\kI K ρ n (g x) (g i)):=rfl
theorem Uv(av:List Nat)(r i n:Nat):iPt av (.sl r i n)=(r∉av):=rfl
theorem RD(av:List Nat)(f:Fl)(n:Nat)(xs:List AV):iPt av (.lst f n xs)=True:=rfl
theorem VY(av:List Nat)(r i off:Nat):lPt av (.pt r i off)=(r∉av):=rfl
theorem VN(av:List Nat)(f:Fl)(y:AV)(off:Nat):lPt av (.bp f y off)=True:=rfl
theorem Pp(ok:Oks)(g:X->AV)(ρ:Nat->Option Row)(d:Nat)(K:AV->List (Nat×Row)->Prop)(av:List Nat)(x:X):eff ok g ρ d (.lnv av x) K=(iPt av (g x)/\lK K ρ (g x)):=rfl
theorem RQ(ok:Oks)(g:X->AV)(ρ:Nat->Option Row)(d:Nat)(K:AV->List (Nat×Row)->Prop)(r n:Nat)(x v:X):eff ok g ρ d (.stw r n x v) K=(wPt r ρ (g x)/\dN K ρ n (g x) (g v)):=rfl
theorem VO(ρ:Nat->Option Row)(r q i off:Nat):wPt r ρ (.pt q i off)=(q=r/\yK (ρ q)):=rfl
theorem JL(ρ:Nat->Option Row)(K:AV->List (Nat×Row)->Prop)(n w:Nat)(f:Fl)(xs:List AV)(q:IntKind)(j:Int):kI K ρ n (.lst f w xs) (.sc (.int q j))=(w=n/\0<=j/\opt xs[j.toNat]? (VP K f.als)):=rfl
theorem SF(K:AV->List (Nat×Row)->Prop)(f:Fl)(y:AV):VP K f y=K (.bp f y 0) []:=rfl
theorem XH:Fl.als .o=.o:=rfl
theorem Xy:Fl.als .s=.s:=rfl
theorem XE:Fl.als .m=.m:=rfl
theorem Xs:Fl.als .u=.m:=rfl
theorem Rf(ρ:Nat->Option Row)(K:AV->List (Nat×Row)->Prop)(n r a m:Nat)(q:IntKind)(j:Int):kI K ρ n (.sl r a m) (.sc (.int q j))=((∃es,ρ r=some (.arr n es))/\0<=j/\j<m/\K (.pt r (a+j.toNat) 0) []):=rfl
theorem OT(ok:Oks)(g:X->AV)(ρ:Nat->Option Row)(d:Nat)(K:AV->List (Nat×Row)->Prop)(off n:Nat)(ag:Bool)(x:X):eff ok g ρ d (.fld off n ag x) K=zu K off n ag (g x):=rfl
theorem ME(K:AV->List (Nat×Row)->Prop)(off n:Nat)(ag:Bool)(cs:List AV):zu K off n ag (.agg cs)=opt (part (.agg cs) off n ag) (k1 K):=by simp[zu,AV.isAgg]
theorem KF(ok:Oks)(g:X->AV)(ρ:Nat->Option Row)(d:Nat)(K:AV->List (Nat×Row)->Prop)(x i:X):eff ok g ρ d (.stri x i) K=pO K (g x) (g i):=rfl
theorem Rh(K:AV->List (Nat×Row)->Prop)(s:ByteArray)(q:IntKind)(j:Int):pO K (.sc (.string s)) (.sc (.int q j))=(0<=j/\opt s[j.toNat]? (Wn K)):=rfl
theorem PP(K:AV->List (Nat×Row)->Prop)(c:UInt8):Wn K c=K (.sc (.int .u8 c.toNat)) []:=rfl
theorem RS(ok:Oks)(g:X->AV)(ρ:Nat->Option Row)(d:Nat)(K:AV->List (Nat×Row)->Prop)(x:X)(j:Nat):eff ok g ρ d (.ext x j) K=yA K (g x) j:=rfl
theorem Ig(K:AV->List (Nat×Row)->Prop)(vs:List AV)(j:Nat):yA K (.tup vs) j=opt vs[j]? (k1 K):=rfl
theorem LL(ok:Oks)(g:X->AV)(ρ:Nat->Option Row)(d:Nat)(K:AV->List (Nat×Row)->Prop)(f:Nat)(xs:List X):eff ok g ρ d (.call f xs) K=gi ok ρ d f (xs.map g) K:=rfl
theorem OV(ok:Oks)(g:X->AV)(ρ:Nat->Option Row)(d:Nat)(K:AV->List (Nat×Row)->Prop)(x:X)(xs:List X):eff ok g ρ d (.dyn x xs) K=vQ ok ρ d (g x) (xs.map g) K:=rfl
theorem Cs(ok:Oks)(g:X->AV)(ρ:Nat->Option Row)(d:Nat)(K:AV->List (Nat×Row)->Prop)(f:Nat)(xs:List X)(rs:List Nat):eff ok g ρ d (.callM f xs rs) K=callM ok ρ d f (xs.map g) rs K:=rfl
theorem Me(ok:Oks)(g:X->AV)(ρ:Nat->Option Row)(d:Nat)(K:AV->List (Nat×Row)->Prop)(x:X)(xs:List X)(rs:List Nat):eff ok g ρ d (.dynM x xs rs) K=pU ok ρ d (g x) (xs.map g) rs K:=rfl
theorem Ow(ok:Oks)(ρ:Nat->Option Row)(d:Nat)(K:AV->List (Nat×Row)->Prop)(f:Nat)(cs xs:List AV)(rs:List Nat):pU ok ρ d (.fn f cs) xs rs K=callM ok ρ d f (xs++cs) rs K:=rfl
theorem Sw(ok:Oks)(ρ:Nat->Option Row)(d:Nat)(K:AV->List (Nat×Row)->Prop)(f:Nat)(cs xs:List AV):vQ ok ρ d (.fn f cs) xs K=gi ok ρ d f (xs++cs) K:=rfl
theorem SU(ok:Oks)(g:X->AV)(ρ:Nat->Option Row)(d:Nat)(K:AV->List (Nat×Row)->Prop)(x:X):eff ok g ρ d (.len x) K=lK K ρ (g x):=rfl
theorem Lc(ρ:Nat->Option Row)(K:AV->List (Nat×Row)->Prop)(f:Fl)(n:Nat)(xs:List AV):lK K ρ (.lst f n xs)=K (.sc (.int .i64 xs.length)) []:=rfl
theorem OU(ρ:Nat->Option Row)(K:AV->List (Nat×Row)->Prop)(f:Fl)(n:Nat)(xs:List AV):lK K ρ (.tg f n xs)=K (.sc (.int .i64 xs.length)) []:=rfl
theorem SY(ρ:Nat->Option Row)(K:AV->List (Nat×Row)->Prop)(r i n:Nat):lK K ρ (.sl r i n)=((∃w es,ρ r=some (.arr w es))/\K (.sc (.int .i64 n)) []):=rfl
theorem Jy(ok:Oks)(g:X->AV)(ρ:Nat->Option Row)(d:Nat)(K:AV->List (Nat×Row)->Prop)(x:X):eff ok g ρ d (.lenz x) K=rm K (g x):=rfl
theorem NG(ok:Oks)(g:X->AV)(ρ:Nat->Option Row)(d:Nat)(K:AV->List (Nat×Row)->Prop)(x:X):eff ok g ρ d (.capn x) K=qa K (g x):=rfl
theorem PY(K:AV->List (Nat×Row)->Prop)(n:Nat):qa K (.lst .u n [])=K (.i 0) []:=rfl
theorem SC(ok:Oks)(g:X->AV)(ρ:Nat->Option Row)(d:Nat)(K:AV->List (Nat×Row)->Prop)(n:Nat)(x hi:X):eff ok g ρ d (.slg n x hi) K=zm K n (g x) (g hi):=rfl
theorem Uw(K:AV->List (Nat×Row)->Prop)(n w:Nat)(k:IntKind)(h:Int):zm K n (.lst .u w []) (.sc (.int k h))=(w=n/\h=0/\K (.lst .u n []) []):=rfl
theorem QC(ok:Oks)(g:X->AV)(ρ:Nat->Option Row)(d:Nat)(K:AV->List (Nat×Row)->Prop)(n:Nat)(z:AV)(bytes:Nat)(x l:X):eff ok g ρ d (.apz n z bytes x l) K=DU K (ρ d) d n z bytes (g x) (g l):=rfl
theorem UI(K:AV->List (Nat×Row)->Prop)(o:Option Row)(d n w:Nat)(z:AV)(bytes:Nat)(l:Int):DU K o d n z bytes (.lst .u w []) (.sc (.int .i64 l))=(o=none/\w=n/\z.width=n/\n=1/\0<l/\l*bytes<=140737488355328/\K (.sl d 0 l.toNat) [(d,.arr n (List.replicate l.toNat z))]):=rfl
theorem Ry(K:AV->List (Nat×Row)->Prop)(s:ByteArray):rm K (.sc (.string s))=K (.sc (.int .i64 s.size)) []:=rfl
theorem SL(ok:Oks)(g:X->AV)(ρ:Nat->Option Row)(d:Nat)(K:AV->List (Nat×Row)->Prop)(x:X):eff ok g ρ d (.b2s x) K=zD K ρ (g x):=rfl
theorem Gw(ρ:Nat->Option Row)(K:AV->List (Nat×Row)->Prop)(f:Fl)(n:Nat)(xs:List AV):zD K ρ (.lst f n xs)=(n=1/\opt (u8s xs) (HV K)):=rfl
theorem RJ(ρ:Nat->Option Row)(K:AV->List (Nat×Row)->Prop)(r i n:Nat):zD K ρ (.sl r i n)=ww K (ρ r) i n:=rfl
theorem FZ(K:AV->List (Nat×Row)->Prop)(w:Nat)(es:List AV)(i m:Nat):ww K (some (.arr w es)) i m=(w=1/\opt (u8s (sub es i m)) (HV K)):=rfl
theorem Re(K:AV->List (Nat×Row)->Prop)(ns:List Int):HV K ns=K (.sc (.string (b2s ns))) []:=rfl
theorem Qe(ok:Oks)(g:X->AV)(ρ:Nat->Option Row)(d:Nat)(K:AV->List (Nat×Row)->Prop)(neg:Bool)(x:X):eff ok g ρ d (.isn neg x) K=vj K ρ neg (g x):=rfl
theorem Hj(ρ:Nat->Option Row)(K:AV->List (Nat×Row)->Prop)(neg:Bool)(f:Fl)(n:Nat)(xs:List AV):vj K ρ neg (.lst f n xs)=sf K neg xs.isEmpty:=rfl
theorem Sg(ρ:Nat->Option Row)(K:AV->List (Nat×Row)->Prop)(neg:Bool)(f:Fl)(n:Nat)(xs:List AV):vj K ρ neg (.tg f n xs)=sf K neg xs.isEmpty:=rfl
theorem So(ρ:Nat->Option Row)(K:AV->List (Nat×Row)->Prop)(neg:Bool)(r i n:Nat):vj K ρ neg (.sl r i n)=((∃w es,ρ r=some (.arr w es))/\sf K neg (n==0)):=rfl
theorem Qq(K:AV->List (Nat×Row)->Prop)(neg e:Bool):sf K neg e=K (cond e .ub (.sc (.bool neg))) []:=rfl
theorem Vu(x:AV):cond true AV.ub x=AV.ub:=rfl
theorem Wm(x:AV):cond false AV.ub x=x:=rfl
theorem Ef{α β:Type}(f:α->β)(xs:List α):(xs.map f).isEmpty=xs.isEmpty:=List.isEmpty_map
theorem SZ(ρ:Nat->Option Row)(K:AV->List (Nat×Row)->Prop)(n r i m:Nat)(y:AV):UQ K ρ n (.sl r i m) y=opt (cX n ρ y) (Qu K (ρ r) r n i m):=rfl
theorem Gp(K:AV->List (Nat×Row)->Prop)(w n r i m:Nat)(es ys:List AV):Qu K (some (.arr w es)) r n i m ys=(w=n/\i+m+ys.length<=es.length/\K (.sl r i (m+ys.length)) [(r,.arr w (ec es (i+m) ys))]):=rfl
theorem Ru(ρ:Nat->Option Row)(K:AV->List (Nat×Row)->Prop)(n r i m:Nat)(lo hi mx:AV):Wr K ρ n (.sl r i m) lo hi mx=BK K (ρ r) n m lo hi mx:=rfl
theorem Cx(K:AV->List (Nat×Row)->Prop)(w n m:Nat)(es:List AV)(k1 k2 k3:IntKind)(l h q:Int):BK K (some (.arr w es)) n m (.sc (.int k1 l)) (.sc (.int k2 h)) (.sc (.int k3 q))=(w=n/\0<=l/\l<=h/\h<=q/\q<=(m:Int)/\K .top []):=rfl
theorem QH(ρ:Nat->Option Row)(K:AV->List (Nat×Row)->Prop)(n r i m:Nat)(lo hi:Option AV):Nk K ρ n (.sl r i m) lo hi=vg K (ρ r) r n i m lo hi:=rfl
theorem Eo(K:AV->List (Nat×Row)->Prop)(w n r i m:Nat)(es:List AV)(lo hi:Option AV):vg K (some (.arr w es)) r n i m lo hi=
 (w=n/\bOk lo/\bOk hi/\bV lo 0<=bV hi m/\i+bV hi m<=es.length/\K (.sl r (i+bV lo 0) (bV hi m-bV lo 0)) []):=rfl
theorem Rx(ok:Oks)(g:X->AV)(ρ:Nat->Option Row)(d:Nat)(K:AV->List (Nat×Row)->Prop)(n:Nat)(z:AV)(x:X):eff ok g ρ d (.clr n z x) K=Cf K ρ n z (g x):=rfl
theorem RE(ρ:Nat->Option Row)(K:AV->List (Nat×Row)->Prop)(n r i m:Nat)(z:AV):Cf K ρ n z (.sl r i m)=uZ K (ρ r) r n z i m:=rfl
theorem CT(K:AV->List (Nat×Row)->Prop)(w n r i m:Nat)(es:List AV)(z:AV):uZ K (some (.arr w es)) r n z i m=(w=n/\z.width=n/\K (.tup []) [(r,.arr w (ec es i (List.replicate m z)))]):=rfl
theorem Qv(ok:Oks)(g:X->AV)(ρ:Nat->Option Row)(d:Nat)(K:AV->List (Nat×Row)->Prop)(n:Nat)(x y:X):eff ok g ρ d (.cpy n x y) K=Fz K ρ n (g x) (g y):=rfl
theorem SW(ρ:Nat->Option Row)(K:AV->List (Nat×Row)->Prop)(n r i m:Nat)(y:AV):Fz K ρ n (.sl r i m) y=opt (cX n ρ y) (vt K (ρ r) r n i m):=rfl
theorem DV(K:AV->List (Nat×Row)->Prop)(w n r i m:Nat)(es ys:List AV):vt K (some (.arr w es)) r n i m ys=(w=n/\K (.sc (.int .i64 (min ys.length m:Nat))) [(r,.arr w (ec es i (ys.take (min ys.length m))))]):=rfl
theorem Qj(ok:Oks)(g:X->AV)(ρ:Nat->Option Row)(d:Nat)(K:AV->List (Nat×Row)->Prop)(n bytes:Nat)(mv:Bool)(x y:X):eff ok g ρ d (.app n bytes mv x y) K=qt K ρ d n bytes mv (g x) (g y):=rfl
theorem Sk(ρ:Nat->Option Row)(d:Nat)(K:AV->List (Nat×Row)->Prop)(n bytes:Nat)(mv:Bool)(r i m:Nat)(y:AV):qt K ρ d n bytes mv (.sl r i m) y=(ρ d=none/\opt (jg ρ n mv y) (nt K (ρ r) d n bytes r i m)):=rfl
theorem SA(ρ:Nat->Option Row)(d:Nat)(K:AV->List (Nat×Row)->Prop)(n bytes:Nat)(mv:Bool)(f:Fl)(w:Nat)(es:List AV)(y:AV):qt K ρ d n bytes mv (.tg f w es) y=(ρ d=none/\opt (jg ρ n mv y) (vB K d n bytes w es)):=rfl
theorem GE(d:Nat)(K:AV->List (Nat×Row)->Prop)(n bytes w:Nat)(es ys:List AV)(u:List (Nat×Row)):vB K d n bytes w es (ys,u)=
 (w=n/\0<ys.length/\(es.length+ys.length)*bytes<=140737488355328/\K (.sl d 0 (es.length+ys.length)) (u++[(d,.arr n (es.map AV.als++ys))])):=by simp[vB,iQ]
theorem PR(ρ:Nat->Option Row)(n r m:Nat):jg ρ n true (.sl r 0 m)=vo n r m (ρ r):=rfl
theorem Er(n m r w:Nat)(ys:List AV):vo n r m (some (.arr w ys))=if w=n/\m=ys.length then some (ys,[(r,.dead)]) else none:=rfl
theorem SP(ρ:Nat->Option Row)(n:Nat)(y:AV):jg ρ n false y=ia (cX n ρ y):=rfl
theorem yu(ys:List AV):ia (some ys)=some (ys,[]):=rfl
theorem CD(ρ:Nat->Option Row)(n w:Nat)(f:Fl)(xs:List AV):cX n ρ (.lst f w xs)=if w=n then some xs else none:=rfl
theorem Mg(ρ:Nat->Option Row)(n w:Nat)(f:Fl)(xs:List AV):cX n ρ (.tg f w xs)=if w=n then some xs else none:=rfl
theorem Iy(ρ:Nat->Option Row)(n r i k:Nat):cX n ρ (.sl r i k)=nf n (ρ r) i k:=rfl
theorem wL(n w i k:Nat)(es:List AV):nf n (some (.arr w es)) i k=if w=n then some ((sub es i k).map AV.als) else none:=by simp[nf,iQ]
theorem Es(d:Nat)(K:AV->List (Nat×Row)->Prop)(n bytes r i m w:Nat)(es ys:List AV)(u:List (Nat×Row)):nt K (some (.arr w es)) d n bytes r i m (ys,u)=
 (w=n/\r∉u.map (·.1)/\(m+ys.length)*bytes<=140737488355328/\K (.sl d 0 (m+ys.length)) ((r,.dead)::u++[(d,.arr n (sub es i m++ys))])):=rfl
theorem Jd(ok:Oks)(g:X->AV)(ρ:Nat->Option Row)(d:Nat)(K:AV->List (Nat×Row)->Prop)(x:X):eff ok g ρ d (.nilc x) K=rU K ρ (g x):=rfl
theorem OY(ρ:Nat->Option Row)(K:AV->List (Nat×Row)->Prop)(f:Fl)(y:AV)(o:Nat):rU K ρ (.bp f y o)=K (.bp f y o) []:=rfl
theorem Pg(ρ:Nat->Option Row)(K:AV->List (Nat×Row)->Prop)(r i o:Nat):rU K ρ (.pt r i o)=(cA (ρ r)/\K (.pt r i o) []):=rfl
theorem UG(ok:Oks)(g:X->AV)(ρ:Nat->Option Row)(d:Nat)(K:AV->List (Nat×Row)->Prop)(x y:X):eff ok g ρ d (.mn x y) K=eMn K (g x) (g y):=rfl
theorem XR(K:AV->List (Nat×Row)->Prop)(a b:Int):eMn K (.sc (.int .i64 a)) (.sc (.int .i64 b))=K (.sc (.int .i64 (if b<a then b else a))) []:=by simp[eMn]
theorem VT(ok:Oks)(g:X->AV)(ρ:Nat->Option Row)(d:Nat)(K:AV->List (Nat×Row)->Prop)(x y:X):eff ok g ρ d (.mx x y) K=eMx K (g x) (g y):=rfl
theorem Xj(K:AV->List (Nat×Row)->Prop)(a b:Int):eMx K (.sc (.int .i64 a)) (.sc (.int .i64 b))=K (.sc (.int .i64 (if a<b then b else a))) []:=by simp[eMx]
theorem QY(K:AV->Prop)(k:IntKind)(a b:Int):dz .add (.sc (.int k a)) (.sc (.int k b)) K=K (.sc (.int k (k.wrap (a+b)))):=by simp[dz,dS,ofI]
theorem Te(K:AV->Prop)(k:IntKind)(a b:Int):dz .sub (.sc (.int k a)) (.sc (.int k b)) K=K (.sc (.int k (k.wrap (a-b)))):=by simp[dz,dS,ofI]
theorem QB(K:AV->Prop)(k:IntKind)(a b:Int):dz .mul (.sc (.int k a)) (.sc (.int k b)) K=K (.sc (.int k (k.wrap (a*b)))):=by simp[dz,dS,ofI]
theorem RM(K:AV->Prop)(k:IntKind)(a b:Int):dz .quo (.sc (.int k a)) (.sc (.int k b)) K=(b≠0/\K (.sc (.int k (k.wrap (a.tdiv b))))):=by simp[dz,dS,ofI]
theorem Ps(K:AV->Prop)(k:IntKind)(a b:Int):dz .rem (.sc (.int k a)) (.sc (.int k b)) K=(b≠0/\K (.sc (.int k (a.tmod b)))):=by simp[dz,dS]
theorem Sl(K:AV->Prop)(k:IntKind)(a b:Int):dz .and (.sc (.int k a)) (.sc (.int k b)) K=K (.sc (.int k (bits .and k a b))):=by simp[dz,dS]
theorem VR(K:AV->Prop)(k:IntKind)(a b:Int):dz .or (.sc (.int k a)) (.sc (.int k b)) K=K (.sc (.int k (bits .or k a b))):=by simp[dz,dS]
theorem Td(K:AV->Prop)(k:IntKind)(a b:Int):dz .xor (.sc (.int k a)) (.sc (.int k b)) K=K (.sc (.int k (bits .xor k a b))):=by simp[dz,dS]
theorem yv(K:AV->Prop)(k:IntKind)(a b:Int):dz .andNot (.sc (.int k a)) (.sc (.int k b)) K=K (.sc (.int k (bits .andNot k a b))):=by simp[dz,dS]
theorem PD(K:AV->Prop)(k:IntKind)(a b:Int):dz .eql (.sc (.int k a)) (.sc (.int k b)) K=K (.sc (.bool (a==b))):=by simp[dz,dS]
theorem QP(K:AV->Prop)(k:IntKind)(a b:Int):dz .neq (.sc (.int k a)) (.sc (.int k b)) K=K (.sc (.bool (a !=b))):=by simp[dz,dS]
theorem Qn(K:AV->Prop)(k:IntKind)(a b:Int):dz .lss (.sc (.int k a)) (.sc (.int k b)) K=K (.sc (.bool (decide (a<b)))):=by simp[dz,dS]
theorem QN(K:AV->Prop)(k:IntKind)(a b:Int):dz .leq (.sc (.int k a)) (.sc (.int k b)) K=K (.sc (.bool (decide (a<=b)))):=by simp[dz,dS]
theorem Rl(K:AV->Prop)(k:IntKind)(a b:Int):dz .gtr (.sc (.int k a)) (.sc (.int k b)) K=K (.sc (.bool (decide (b<a)))):=by simp[dz,dS]
theorem Pq(K:AV->Prop)(k:IntKind)(a b:Int):dz .geq (.sc (.int k a)) (.sc (.int k b)) K=K (.sc (.bool (decide (b<=a)))):=by simp[dz,dS]
theorem Pv(K:AV->Prop)(k k':IntKind)(a b:Int):dz .shl (.sc (.int k a)) (.sc (.int k' b)) K=eR .shl k a b K:=by simp[dz]
theorem PU(K:AV->Prop)(k k':IntKind)(a b:Int):dz .shr (.sc (.int k a)) (.sc (.int k' b)) K=eR .shr k a b K:=by simp[dz]
theorem Xl(K:AV->Prop)(k:IntKind)(a b:Int):eR .shl k a b K=(0<=b/\K (.sc (.int k (k.wrap (a*2^(min b.toNat k.bits)))))):=by simp[eR,ofI]
theorem Xw(K:AV->Prop)(k:IntKind)(a b:Int):eR .shr k a b K=(0<=b/\K (.sc (.int k (a.fdiv (2^(min b.toNat k.bits)))))):=by simp[eR]
theorem Kr(K:AV->Prop)(a b:ByteArray):dz .add (.sc (.string a)) (.sc (.string b)) K=(a.size+b.size<=9223372036854775807/\K (.sc (.string (a++b)))):=rfl
theorem Mh(K:AV->Prop)(a b:ByteArray):dz .eql (.sc (.string a)) (.sc (.string b)) K=K (.sc (.bool (a.toList==b.toList))):=rfl
theorem Ms(K:AV->Prop)(a b:ByteArray):dz .neq (.sc (.string a)) (.sc (.string b)) K=K (.sc (.bool (!(a.toList==b.toList)))):=rfl
theorem Xf(K:AV->Prop)(k:IntKind)(a:Int):unV .neg (.sc (.int k a)) K=K (.sc (.int k (k.wrap (0-a)))):=by simp[unV,ofI]
theorem Wj(K:AV->Prop)(a:Bool):unV .not (.sc (.bool a)) K=K (.sc (.bool (!a))):=rfl
theorem GC{α:Type}(x:α)(K:α->Prop):opt (some x) K=K x:=rfl
theorem EU(ok:Oks)(σ:St)(K:St->Prop):dF ok [] K σ=K σ:=rfl
theorem xA(ok:Oks)(σ:St)(K:St->Prop)(d:Option Nat)(o:AOp)(os:List aY):dF ok (⟨d,o,none⟩::os) K σ=eff ok σ.gx σ.row (d.getD 0) o (Py d (dF ok os K) σ):=rfl
theorem Ah(ok:Oks)(σ:St)(K:St->Prop)(d:Option Nat)(o:AOp)(s:Nat)(w:Bool)(os:List aY):dF ok (⟨d,o,some (s,w)⟩::os) K σ=
 eZ σ s w (σ.get s) (xX ok d o (dF ok os K)) (Hx d (dF ok os K)):=rfl
theorem Rq(ok:Oks)(σ:St)(K:St->Prop)(t n k:Nat)(x:X)(mids:List (Nat×X))(d f:Nat)(xs:List X):stH ok (.inn t n k x mids d f xs) K σ=Ho ok K σ (qh mids (σ.app (some t) .top [])) t n k d f xs (σ.gx x):=rfl
theorem Sp(ok:Oks)(σ:St)(K:St->Prop)(d f:Nat)(xs:List X)(rs:List Nat):stH ok (.har d f xs rs) K σ=(σ.fz=true/\callM ⟨ok.p,ok.h,ok.h⟩ σ.row d f (xs.map σ.gx) rs (WF d K σ)):=rfl
theorem RL(σ:St)(K:St->Prop)(d:Nat)(v:AV)(u:List (Nat×Row)):WF d K σ v u=K (σ.app (some d) v u):=rfl
theorem NW(σ:St):qh [] σ=σ:=rfl
theorem Du(σ:St)(d:Nat)(x:X)(ms:List (Nat×X)):qh ((d,x)::ms) σ=qh ms (σ.app (some d) (σ.gx x) []):=rfl
theorem Rk(ok:Oks)(σ:St)(K:St->Prop)(t n k d f:Nat)(xs:List X)(r i off:Nat)(τ:St):Ho ok K σ τ t n k d f xs (.pt r i off)=IB ok K τ t n k d f xs r i off (σ.row r):=rfl
theorem OP(ok:Oks)(σ:St)(K:St->Prop)(t n k d f:Nat)(xs:List X)(r i off w:Nat)(es:List AV):IB ok K σ t n k d f xs r i off (some (.arr w es))=(w=n/\opt es[i]? fun y=>opt (part y off 1 false) (JO ok K σ t n k d f xs r i off es y)):=rfl
theorem HK(ok:Oks)(σ:St)(K:St->Prop)(t n k d f:Nat)(xs:List X)(r i off w:Nat)(es ys:List AV)(y:AV):JO ok K σ t n k d f xs r i off es y (.lst .u w ys)=(w=k/\Wy ok K σ t n k d f xs r i off es y ys):=rfl
theorem Xb(σ:St)(t len j:Nat):sn σ t len (.t j)=if j=t then .sl 1000000000 0 len else σ.get j:=rfl
theorem UD(σ:St)(t len:Nat)(a:AV):sn σ t len (.c a)=a:=rfl
theorem Ik(σ:St)(t j:Nat):ua σ t (.t j)=(j=t\/(σ.get j).ments=[]):=rfl
theorem OM(σ:St)(t:Nat)(a:AV):ua σ t (.c a)=(a.ments=[]):=rfl
theorem Rg(ok:Oks)(σ:St)(K:St->Prop)(d:Option Nat)(o:AOp):xX ok d o K σ=eff ok σ.gx σ.row (d.getD 0) o (Py d K σ):=rfl
theorem QI(σ:St)(K:St->Prop)(d:Option Nat):Hx d K σ=K (σ.app d (.tup []) []):=rfl
theorem AG(σ:St)(K:St->Prop)(d:Option Nat)(v:AV)(u:List (Nat×Row)):Py d K σ v u=K (σ.app d v u):=rfl
theorem RU(σ:St)(Q:Ex->St->Prop)(can:List Can):zV Q can σ=Q .nrm (σ.can can):=rfl
theorem DJ(σ:St)(s:Nat)(A B:St->Prop):eZ σ s true (.sc (.bool true)) A B=A (σ.know s true):=by simp[eZ]
theorem Dp(σ:St)(s:Nat)(A B:St->Prop):eZ σ s true (.sc (.bool false)) A B=B (σ.know s false):=by simp[eZ]
theorem EZ(σ:St)(s:Nat)(A B:St->Prop):eZ σ s false (.sc (.bool true)) A B=B (σ.know s true):=by simp[eZ]
theorem Cu(σ:St)(s:Nat)(A B:St->Prop):eZ σ s false (.sc (.bool false)) A B=A (σ.know s false):=by simp[eZ]
theorem Lr(σ:St)(s:Nat)(w:Bool)(A B:St->Prop):eZ σ s w (.tup []) A B=B σ:=rfl
theorem Pn(σ:St):σ.can []=σ:=rfl
theorem Gk(σ:St)(d:Nat)(ds:List Can):σ.can (.s d::ds)=(σ.canV d (σ.get d)).can ds:=rfl
theorem EP(σ:St)(far:Bool)(d r j:Nat)(ds:List Can):σ.can (.f far d r j::ds)=(σ.canG far d r j (gO j (az r σ.rows))).can ds:=rfl
theorem CZ(σ:St)(d:Nat)(ds:List Can):σ.can (.r d::ds)=(σ.canW d (σ.get d)).can ds:=rfl
theorem Rb(σ:St)(d r i n:Nat):σ.canW d (.sl r i n)=σ.canSr d r i n:=rfl
theorem Mn(σ:St)(d n:Nat):σ.canW d (.lst .u n [])=σ.canNil d n:=rfl
theorem Vt(σ:St)(d n:Nat)(xs:List AV):σ.canW d (.lst .o n xs)=σ:=rfl
theorem WM(σ:St)(d n:Nat)(xs:List AV):σ.canW d (.lst .m n xs)=σ:=rfl
theorem Vx(σ:St)(d n:Nat)(xs:List AV):σ.canW d (.lst .s n xs)=σ:=rfl
theorem UX(σ:St)(far:Bool)(d r j n:Nat)(xs:List AV):σ.canG far d r j (.lst .o n xs)=σ:=rfl
theorem WU(σ:St)(far:Bool)(d r j n:Nat)(xs:List AV):σ.canG far d r j (.lst .m n xs)=σ:=rfl
theorem UU(σ:St)(far:Bool)(d r j n:Nat)(xs:List AV):σ.canG far d r j (.lst .s n xs)=σ:=rfl
theorem EF(σ:St)(d:Nat)(ds:List Can):σ.can (.z d::ds)=(σ.canZ d (σ.get d)).can ds:=rfl
theorem RO(σ:St)(d r i m:Nat):σ.canZ d (.sl r i m)=σ.canZr d i m r (az r σ.rows):=rfl
theorem Ii(σ:St)(d n:Nat)(f:Fl)(xs:List AV):σ.canZ d (.lst f n xs)=σ:=rfl
theorem Oo(σ:St)(d:Nat)(cs:List AV):σ.canZ d (.agg cs)=σ.canZc d cs 0 cs:=rfl
theorem CL(σ:St)(d j:Nat)(all:List AV):σ.canZc d all j []=σ:=by unfold St.canZc;rfl
theorem Og(σ:St)(d j:Nat)(all cs:List AV)(r i m:Nat):σ.canZc d all j (.sl r i m::cs)=σ.canZcr d all j r i m (az r σ.rows):=by rw[St.canZc]
theorem Cj(σ:St)(d j:Nat)(all cs:List AV)(f:Fl)(n:Nat)(xs:List AV):σ.canZc d all j (.lst f n xs::cs)=σ.canZc d all (j+1) cs:=by rw[St.canZc];intros;contradiction
theorem MX(σ:St)(d j:Nat)(all cs:List AV)(v:Value):σ.canZc d all j (.sc v::cs)=σ.canZc d all (j+1) cs:=by rw[St.canZc];intros;contradiction
theorem DN(env:List (Nat×AV))(rows:List (Nat×Row))(d j:Nat)(all:List AV)(r i m q:Nat)(es:List AV):St.canZcr ⟨env,rows⟩ d all j r i m (some (.arr q es))=⟨put d (.agg (gZ all j (.lst .m q (dM (sub es i m))))) env,put r .dead rows⟩:=rfl
theorem FO(σ:St)(far:Bool)(d k j:Nat)(ds:List Can):σ.can (.e far d k j::ds)=(σ.canE far d k j (gO j (some (.var (σ.get k))))).can ds:=rfl
theorem Rm(env:List (Nat×AV))(rows:List (Nat×Row))(far:Bool)(d k j q i m:Nat):St.canE ⟨env,rows⟩ far d k j (.sl q i m)=if q=d\/far=false/\1000000000<=q then⟨env,rows⟩ else⟨(env.map fun p=>(p.1,p.2.hush d)).map fun p=>(p.1,p.2.ren q d),((del d rows).map fun p=>(p.1,p.2.hush d)).map fun p=>(if p.1=q then d else p.1,p.2.map (·.ren q d))⟩:=rfl
theorem Mz(env:List (Nat×AV))(rows:List (Nat×Row))(far:Bool)(d k j m:Nat):St.canE ⟨env,rows⟩ far d k j (.lst .u m [])=St.canEN ⟨env,rows⟩ d k j m (az k (env.map fun p=>(p.1,p.2.hush d))):=rfl
theorem WG(σ:St)(far:Bool)(d r j n:Nat)(xs:List AV):σ.canE far d r j (.lst .o n xs)=σ:=rfl
theorem Ww(σ:St)(far:Bool)(d r j n:Nat)(xs:List AV):σ.canE far d r j (.lst .m n xs)=σ:=rfl
theorem Vo(σ:St)(far:Bool)(d r j n:Nat)(xs:List AV):σ.canE far d r j (.lst .s n xs)=σ:=rfl
theorem JP(env:List (Nat×AV))(rows:List (Nat×Row))(d k j m:Nat)(cs:List AV):St.canEN ⟨env,rows⟩ d k j m (some (.agg cs))=⟨put k (.agg (gZ cs j (.sl d 0 0))) (env.map fun p=>(p.1,p.2.hush d)),put d (.arr m []) ((del d rows).map fun p=>(p.1,p.2.hush d))⟩:=rfl
theorem DC(σ:St)(r:Nat)(ds:List Can):σ.can (.w r::ds)=(σ.canX r (az r σ.rows)).can ds:=rfl
theorem HZ(env:List (Nat×AV))(rows:List (Nat×Row))(r n:Nat)(es:List AV):St.canX ⟨env,rows⟩ r (some (.arr n es))=⟨env,put r (.arr n (es.map AV.als)) rows⟩:=by simp[St.canX,iQ]
theorem FV(σ:St)(r:Nat):σ.canX r none=σ:=rfl
theorem Gq(σ:St)(r:Nat)(cs:List AV):σ.canX r (some (.var (.agg cs)))=σ.canXc r cs 0 cs:=rfl
theorem FT(σ:St)(r j:Nat)(all:List AV):σ.canXc r all j []=σ:=by unfold St.canXc;rfl
theorem JH(σ:St)(r j:Nat)(all cs:List AV)(q i m:Nat):σ.canXc r all j (.sl q i m::cs)=σ.canXcr r all j q i m (az q σ.rows):=by rw[St.canXc]
theorem zh(σ:St)(r j:Nat)(all cs:List AV)(n:Nat)(xs:List AV):σ.canXc r all j (.lst .o n xs::cs)=σ.canXc r all (j+1) cs:=by rw[St.canXc]<;>(intros;simp_all)
theorem xB(σ:St)(r j:Nat)(all cs:List AV)(n:Nat)(xs:List AV):σ.canXc r all j (.lst .m n xs::cs)=σ.canXc r all (j+1) cs:=by rw[St.canXc]<;>(intros;simp_all)
theorem zY(σ:St)(r j:Nat)(all cs:List AV)(n:Nat)(xs:List AV):σ.canXc r all j (.lst .s n xs::cs)=σ.canXc r all (j+1) cs:=by rw[St.canXc]<;>(intros;simp_all)
theorem xD(σ:St)(r j:Nat)(all cs:List AV)(n:Nat):σ.canXc r all j (.lst .u n []::cs)=⟨σ.env,put r (.var (.agg (gZ all j (.lst .m n [])))) σ.rows⟩:=by rw[St.canXc]
theorem Np(σ:St)(r j:Nat)(all cs:List AV)(v:Value):σ.canXc r all j (.sc v::cs)=σ.canXc r all (j+1) cs:=by rw[St.canXc]<;>(intros;contradiction)
theorem Dx(env:List (Nat×AV))(rows:List (Nat×Row))(r j:Nat)(all:List AV)(q i m k:Nat)(es:List AV):St.canXcr ⟨env,rows⟩ r all j q i m (some (.arr k es))=⟨env,put r (.var (.agg (gZ all j (.lst .m k (dM (sub es i m)))))) (put q .dead rows)⟩:=rfl
theorem CS(σ:St)(r:Nat):σ.canX r (some .dead)=σ:=rfl
theorem xH(j:Nat)(cs:List AV):gO j (some (.var (.agg cs)))=rZ cs j:=rfl
theorem DG(q i m:Nat):gO 0 (some (.var (.sl q i m)))=.sl q i m:=rfl
theorem yV(f:Fl)(m:Nat)(xs:List AV):gO 0 (some (.var (.lst f m xs)))=.lst f m xs:=rfl
theorem Vn(x:AV)(xs:List AV):rZ (x::xs) 0=x:=rfl
theorem WJ(x:AV)(xs:List AV)(j:Nat):rZ (x::xs) (j+1)=rZ xs j:=rfl
theorem WL(x y:AV)(xs:List AV):gZ (x::xs) 0 y=y::xs:=rfl
theorem Vr(x y:AV)(xs:List AV)(j:Nat):gZ (x::xs) (j+1) y=x::gZ xs j y:=rfl
theorem PZ(env:List (Nat×AV))(rows:List (Nat×Row))(far:Bool)(d r j q i m:Nat):St.canG ⟨env,rows⟩ far d r j (.sl q i m)=if q=d\/far=false/\1000000000<=q then⟨env,rows⟩ else⟨(env.map fun p=>(p.1,p.2.hush d)).map fun p=>(p.1,p.2.ren q d),((del d rows).map fun p=>(p.1,p.2.hush d)).map fun p=>(if p.1=q then d else p.1,p.2.map (·.ren q d))⟩:=rfl
theorem Hr(env:List (Nat×AV))(rows:List (Nat×Row))(far:Bool)(d r j m:Nat):St.canG ⟨env,rows⟩ far d r j (.lst .u m [])=St.canFN ⟨env,rows⟩ d r j m (az r ((del d rows).map fun p=>(p.1,p.2.hush d))):=rfl
theorem GU(env:List (Nat×AV))(rows:List (Nat×Row))(d r j m k:Nat):St.canFN ⟨env,rows⟩ d r j m (some (.var (.lst .u k [])))=⟨env.map fun p=>(p.1,p.2.hush d),put d (.arr m []) (put r (.var (.sl d 0 0)) ((del d rows).map fun p=>(p.1,p.2.hush d)))⟩:=rfl
theorem Jm(env:List (Nat×AV))(rows:List (Nat×Row))(d r j m:Nat)(cs:List AV):St.canFN ⟨env,rows⟩ d r j m (some (.var (.agg cs)))=⟨env.map fun p=>(p.1,p.2.hush d),put d (.arr m []) (put r (.var (.agg (gZ cs j (.sl d 0 0)))) ((del d rows).map fun p=>(p.1,p.2.hush d)))⟩:=rfl
theorem Pm(σ:St)(d r i n:Nat):σ.canV d (.sl r i n)=σ.canSl d r i n:=rfl
theorem Oy(σ:St)(d n:Nat):σ.canV d (.lst .u n [])=σ.canNil d n:=rfl
theorem Xg(σ:St)(d n:Nat)(xs:List AV):σ.canV d (.lst .o n xs)=σ:=rfl
theorem VH(σ:St)(d n:Nat)(xs:List AV):σ.canV d (.lst .m n xs)=σ:=rfl
theorem UA(σ:St)(d n:Nat)(xs:List AV):σ.canV d (.lst .s n xs)=σ:=rfl
theorem Wa(env:List (Nat×AV))(rows:List (Nat×Row))(k:Nat):St.get ⟨env,rows⟩ k=(az k env).getD .top:=rfl
theorem Vq(env:List (Nat×AV))(rows:List (Nat×Row))(k:Nat):St.row ⟨env,rows⟩ k=az k rows:=rfl
theorem gx_t(σ:St)(n:Nat):σ.gx (.t n)=σ.get n:=rfl
theorem gx_c(σ:St)(a:AV):σ.gx (.c a)=a:=rfl
theorem wT(env:List (Nat×AV))(rows:List (Nat×Row))(d:Nat)(v:AV)(u:List (Nat×Row)):St.app ⟨env,rows⟩ (some d) v u=⟨put d v env,bi u rows⟩:=rfl
theorem vR(env:List (Nat×AV))(rows:List (Nat×Row))(v:AV)(u:List (Nat×Row)):St.app ⟨env,rows⟩ none v u=⟨env,bi u rows⟩:=rfl
theorem qe(rows:List (Nat×Row)):bi [] rows=rows:=rfl
theorem oy(p:Nat×Row)(u rows:List (Nat×Row)):bi (p::u) rows=bi u (put p.1 p.2 rows):=rfl
theorem Tc(env:List (Nat×AV))(rows:List (Nat×Row))(s:Nat)(b:Bool):St.know ⟨env,rows⟩ s b=⟨put s (.sc (.bool b)) env,rows⟩:=rfl
theorem JC{α:Type}(k:Nat):az k ([]:List (Nat×α))=none:=rfl
theorem Cz{α:Type}(k j:Nat)(x:α)(l:List (Nat×α)):az k ((j,x)::l)=if j=k then some x else az k l:=rfl
theorem BP{α:Type}(k:Nat)(x:α):put k x []=[(k,x)]:=rfl
theorem vM{α:Type}(k j:Nat)(x y:α)(l:List (Nat×α)):put k x ((j,y)::l)=if j=k then(k,x)::l else(j,y)::put k x l:=rfl
theorem QM{α:Type}(k:Nat):del k ([]:List (Nat×α))=[]:=rfl
theorem Kl{α:Type}(k j:Nat)(x:α)(l:List (Nat×α)):del k ((j,x)::l)=if j=k then del k l else(j,x)::del k l:=rfl
theorem getD_some{α:Type}(x y:α):(some x).getD y=x:=rfl
theorem DA{α:Type}(y:α):(none:Option α).getD y=y:=rfl
theorem Ka(env:List (Nat×AV))(rows:List (Nat×Row))(d r i n:Nat):St.canSr ⟨env,rows⟩ d r i n=if r=d then⟨env,rows⟩ else
 ⟨put d (.sl d i n) ((env.map fun p=>(p.1,p.2.hush d)).map fun p=>(p.1,p.2.ren r d)),
  ((del d rows).map fun p=>(p.1,p.2.hush d)).map fun p=>(if p.1=r then d else p.1,p.2.map (·.ren r d))⟩:=rfl
theorem Oh(env:List (Nat×AV))(rows:List (Nat×Row))(d i m r q:Nat)(es:List AV):St.canZr ⟨env,rows⟩ d i m r (some (.arr q es))=⟨put d (.lst .m q (dM (sub es i m))) env,put r .dead rows⟩:=rfl
theorem Kv(env:List (Nat×AV))(rows:List (Nat×Row))(d r i n:Nat):St.canSl ⟨env,rows⟩ d r i n=if r=d\/1000000000<=r then⟨env,rows⟩ else
 ⟨put d (.sl d i n) ((env.map fun p=>(p.1,p.2.hush d)).map fun p=>(p.1,p.2.ren r d)),
  ((del d rows).map fun p=>(p.1,p.2.hush d)).map fun p=>(if p.1=r then d else p.1,p.2.map (·.ren r d))⟩:=rfl
theorem Ca(env:List (Nat×AV))(rows:List (Nat×Row))(d n:Nat):St.canNil ⟨env,rows⟩ d n=
 ⟨put d (.sl d 0 0) (env.map fun p=>(p.1,p.2.hush d)),put d (.arr n []) ((del d rows).map fun p=>(p.1,p.2.hush d))⟩:=rfl
theorem UN(σ:St)(lv lr:List Nat):σ.res lv lr=⟨lv.map fun k=>(k,σ.get k),lr.map fun r=>(r,(σ.row r).getD .dead)⟩:=rfl
theorem KU(σ:St)(lv lr:List Nat):σ.resOk lv lr=((∀k∈lv,∀r∈(σ.get k).ments,r∈lr)/\(∀q∈lr,∀r∈((σ.row q).getD .dead).ments,r∈lr)/\lr.Nodup):=rfl
theorem FY(r:Nat)(x:AV):Row.hush r (.var x)=if r∈x.ments then .dead else .var x:=rfl
theorem FF(r:Nat)(n:Nat)(x:List AV):Row.hush r (.arr n x)=.arr n x:=rfl
theorem zI(r:Nat):Row.hush r .dead=.dead:=rfl
theorem GB(h:AV->AV)(x:AV):Row.map h (.var x)=.var (h x):=rfl
theorem IP(h:AV->AV)(n:Nat)(x:List AV):Row.map h (.arr n x)=.arr n x:=rfl
theorem Eb(h:AV->AV):Row.map h .dead=.dead:=rfl
theorem yc(x:AV):Row.ments (.var x)=x.ments:=rfl
theorem yY(n:Nat)(x:List AV):Row.ments (.arr n x)=[]:=rfl
theorem uX:Row.ments .dead=[]:=rfl
theorem RP(r:Nat)(a:AV):a.hush r=if r∈a.ments then .top else a:=rfl
theorem Ij(v:Value):(AV.sc v).ments=[]:=by simp[AV.ments]
theorem DY(f:Fl)(n:Nat)(x:List AV):(AV.lst f n x).ments=[]:=by simp[AV.ments]
theorem Jc(f:Fl)(n:Nat)(x:List AV):(AV.tg f n x).ments=[]:=by simp[AV.ments]
theorem Nl(f:Fl)(x:AV)(n:Nat):(AV.bp f x n).ments=[]:=by simp[AV.ments]
theorem Ek:AV.top.ments=[]:=by simp[AV.ments]
theorem Gl(r i n:Nat):(AV.sl r i n).ments=[r]:=by simp[AV.ments]
theorem Gc(r i n:Nat):(AV.pt r i n).ments=[r]:=by simp[AV.ments]
theorem DH(cs:List AV):(AV.agg cs).ments=aM cs:=by simp[AV.ments]
theorem KS(f:Nat)(cs:List AV):(AV.fn f cs).ments=aM cs:=by simp[AV.ments]
theorem Fu(cs:List AV):(AV.tup cs).ments=aM cs:=by simp[AV.ments]
theorem zO:aM []=[]:=by simp[aM]
theorem uU(c:AV)(cs:List AV):aM (c::cs)=c.ments++aM cs:=by simp[aM]
theorem ti(env:List (Nat×AV))(rows:List (Nat×Row)):St.fz ⟨env,rows⟩=(env.all (fun p=>p.2.fz)&&rows.all (fun p=>p.2.fz)):=rfl
theorem eO(v:Value):(AV.sc v).fz=true:=by simp[AV.fz]
theorem cJ(n:Nat)(xs:List AV):(AV.lst .o n xs).fz=fzL xs:=by simp[AV.fz]
theorem nO(x:AV)(n:Nat):(AV.bp .o x n).fz=x.fz:=by simp[AV.fz]
theorem dj(cs:List AV):(AV.agg cs).fz=fzL cs:=by simp[AV.fz]
theorem nI(cs:List AV):(AV.tup cs).fz=fzL cs:=by simp[AV.fz]
theorem sK(f:Nat)(cs:List AV):(AV.fn f cs).fz=fzL cs:=by simp[AV.fz]
theorem sW(r i n:Nat):(AV.sl r i n).fz=true:=by simp[AV.fz]
theorem sS(r i n:Nat):(AV.pt r i n).fz=true:=by simp[AV.fz]
theorem nL:AV.top.fz=true:=by simp[AV.fz]
theorem cF:fzL []=true:=by simp[fzL]
theorem cd(c:AV)(cs:List AV):fzL (c::cs)=(c.fz&&fzL cs):=by simp[fzL]
theorem eN(v:Value):(AV.sc v).ouB=true:=by simp[AV.ouB]
theorem cI(n:Nat)(xs:List AV):(AV.lst .u n xs).ouB=dB xs:=by simp[AV.ouB]
theorem kR(n:Nat)(xs:List AV):(AV.lst .o n xs).ouB=fzL xs:=by simp[AV.ouB]
theorem dh(cs:List AV):(AV.agg cs).ouB=dB cs:=by simp[AV.ouB]
theorem cH:dB []=true:=by simp[dB]
theorem cg(c:AV)(cs:List AV):dB (c::cs)=(c.ouB&&dB cs):=by simp[dB]
theorem kS(x:AV):(Row.var x).fz=x.fz:=rfl
theorem kQ(n:Nat)(xs:List AV):(Row.arr n xs).fz=dB xs:=rfl
theorem iG:Row.dead.fz=true:=rfl
theorem dr(xs:List Int):fzL (xs.map AV.i)=true:=by induction xs<;>simp_all [fzL,AV.fz]
theorem dq(xs:List Bool):fzL (xs.map AV.b)=true:=by induction xs<;>simp_all [fzL,AV.fz]
theorem dl(xs:List ByteArray):fzL (xs.map AV.z)=true:=by induction xs<;>simp_all [fzL,AV.fz]
theorem du(xs:List Int):fzL (xs.map AV.u8)=true:=by induction xs<;>simp_all [fzL,AV.fz]
theorem cG(xs:List Int):fzL (xs.map AV.u64)=true:=by induction xs<;>simp_all [fzL,AV.fz]
theorem di(xs:List Int):dB (xs.map AV.u8)=true:=by induction xs<;>simp_all [dB,AV.ouB]
theorem cE(xs:List Int):dB (xs.map AV.u64)=true:=by induction xs<;>simp_all [dB,AV.ouB]
theorem dm(xs:List Int):dB (xs.map AV.i)=true:=by induction xs<;>simp_all [dB,AV.ouB]
theorem dp(xs:List Bool):dB (xs.map AV.b)=true:=by induction xs<;>simp_all [dB,AV.ouB]
theorem dt(xs:List ByteArray):dB (xs.map AV.z)=true:=by induction xs<;>simp_all [dB,AV.ouB]
theorem yr(x:AV)(off n:Nat):part x off n false=x.cells[off]?:=rfl
theorem FD(cs:List AV)(off n:Nat):part (.agg cs) off n true=if off+n<=cs.length then some (if off=0/\n=cs.length then .agg cs else .agg ((cs.drop off).take n)) else none:=by
 unfold part;by_cases h:off+n<=cs.length
 ·rw[if_pos rfl,if_pos ⟨rfl,h⟩,if_pos h];rfl
 ·rw[if_pos rfl,if_neg (fun e=>h e.2),if_neg h]
theorem tN(cs:List AV)(off:Nat)(v:Value):setPart (.agg cs) off (.sc v)=if off+1<=cs.length then some (.agg (fill cs off (.sc v))) else none:=rfl
theorem xm(cs:List AV)(off r i n:Nat):setPart (.agg cs) off (.sl r i n)=if off+1<=cs.length then some (.agg (fill cs off (.sl r i n))) else none:=rfl
theorem tE(cs:List AV)(off n:Nat)(f:Fl)(xs:List AV):setPart (.agg cs) off (.lst f n xs)=if off+1<=cs.length then some (.agg (fill cs off (.lst f n xs))) else none:=rfl
theorem uc(cs vs:List AV)(off:Nat):setPart (.agg cs) off (.agg vs)=if off=0/\vs.length=cs.length then some (.agg vs) else if off+vs.length<=cs.length then some (.agg (fill cs off (.agg vs))) else none:=rfl
theorem yD(x v:Value):setPart (.sc x) 0 (.sc v)=some (.sc v):=by simp[setPart,AV.isAgg,AV.width]
theorem vV(f:Fl)(n:Nat)(xs:List AV)(f':Fl)(n':Nat)(xs':List AV):setPart (.lst f n xs) 0 (.lst f' n' xs')=some (.lst f' n' xs'):=by simp[setPart,AV.isAgg,AV.width]
theorem sg(f:Fl)(n:Nat)(xs:List AV)(r i k:Nat):setPart (.lst f n xs) 0 (.sl r i k)=some (.sl r i k):=by simp[setPart,AV.isAgg,AV.width]
theorem ud(r' i' k' r i k:Nat):setPart (.sl r' i' k') 0 (.sl r i k)=some (.sl r i k):=by simp[setPart,AV.isAgg,AV.width]
theorem EY(cs:List AV):(AV.agg cs).cells=cs:=rfl
theorem Jb(v:Value):(AV.sc v).cells=[.sc v]:=rfl
theorem FW(f:Fl)(n:Nat)(xs:List AV):(AV.lst f n xs).cells=[.lst f n xs]:=rfl
theorem MA(r i n:Nat):(AV.sl r i n).cells=[.sl r i n]:=rfl
theorem Nj(f:Nat)(cs:List AV):(AV.fn f cs).cells=[.fn f cs]:=rfl
theorem Ck(cs:List AV):(AV.agg cs).width=cs.length:=rfl
theorem GA(v:Value):(AV.sc v).width=1:=rfl
theorem Ds(f:Fl)(n:Nat)(xs:List AV):(AV.lst f n xs).width=1:=rfl
theorem NR(r i n:Nat):(AV.sl r i n).width=1:=rfl
theorem Jr(f:Nat)(cs:List AV):(AV.fn f cs).width=1:=rfl
theorem SG(cs:List AV)(off:Nat)(v:AV):fill cs off v=cs.take off++v.cells++cs.drop (off+v.cells.length):=rfl
theorem Ct(cs:List AV):lU cs []=cs:=rfl
theorem Aa(cs:List AV)(off:Nat)(v:AV)(l:List (Nat×AV)):lU cs ((off,v)::l)=lU (fill cs off v) l:=rfl
theorem Rr(rs:List RV)(res:AV)(σ:St):fin rs res .ret σ=opt (RVs.val σ rs) fun xs=>(aM xs).Nodup/\lift σ.row 3 (gN xs)=res:=by
 simp only[fin,opt];cases RVs.val σ rs<;>simp
theorem Qs(rs:List RV)(res:AV)(σ:St):fin rs res .nrm σ=opt (RVs.val σ rs) fun xs=>(aM xs).Nodup/\lift σ.row 3 (gN xs)=res:=by
 simp only[fin,opt];cases RVs.val σ rs<;>simp
def Vc(o:Option Row)(k:Nat)(ag:Bool):Option AV:=match o with
 |some (.var y)=>part y 0 k ag
 |_=>none
def rvC(σ:St)(a:AV)(k:Nat)(ag:Bool):Option AV:=match a with
 | .pt r 0 0=>Vc (σ.row r) k ag
 |_=>none
theorem rv_t(σ:St)(n:Nat):RV.val σ (.t n)=some (σ.get n):=rfl
theorem rv_c(σ:St)(n k:Nat)(ag:Bool):RV.val σ (.c n k ag)=rvC σ (σ.get n) k ag:=by simp only[RV.val];rfl
theorem VL(σ:St)(r k:Nat)(ag:Bool):rvC σ (.pt r 0 0) k ag=Vc (σ.row r) k ag:=rfl
theorem Mr(y:AV)(k:Nat)(ag:Bool):Vc (some (.var y)) k ag=part y 0 k ag:=rfl
def Tt(x:Option AV)(xs:Option (List AV)):Option (List AV):=match x,xs with
 |some x,some xs=>some (x::xs)
 |_,_=>none
theorem Qx(σ:St):RVs.val σ []=some []:=rfl
theorem Hy(σ:St)(r:RV)(rs:List RV):RVs.val σ (r::rs)=Tt (r.val σ) (RVs.val σ rs):=by simp only[RVs.val];rfl
theorem yo(x:AV)(xs:List AV):Tt (some x) (some xs)=some (x::xs):=rfl
theorem Lo(x:AV):gN [x]=x:=rfl
theorem Kb(x y:AV)(l:List AV):gN (x::y::l)=.tup (x::y::l):=rfl
theorem II(args:List AV):St.start args=⟨St.start.go 0 args,[]⟩:=rfl
theorem Cp(n:Nat):St.start.go n []=[]:=rfl
theorem yt(n:Nat)(a:AV)(l:List AV):St.start.go n (a::l)=(n,a)::St.start.go (n+1) l:=rfl
theorem aB(ok:Oks)(a:aw)(rs:List RV)(args:List AV)(res:AV):Wc ok a rs args res=AWP ok a (fin rs res) (St.start args):=rfl
theorem fl1:Fl.als .u=.m:=rfl
theorem fl2:Fl.als .o=.o:=rfl
theorem fl3:Fl.als .s=.s:=rfl
theorem fl4:Fl.als .m=.m:=rfl
theorem fl5:Fl.fix .u=.u:=rfl
theorem fl6:Fl.fix .o=.s:=rfl
theorem fl7:Fl.fix .s=.s:=rfl
theorem fl8:Fl.fix .m=.m:=rfl
theorem pG{α β:Type}(f:α->β)(x:α)(l:List α):(x::l).map f=f x::l.map f:=rfl
theorem sI{α β:Type}(f:α->β):[].map f=[]:=rfl
theorem Fr{α:Type}(l:List α):l++[]=l:=List.append_nil l
theorem sQ{α:Type}(l:List α):[]++l=l:=rfl
theorem qG{α:Type}(x:α)(k l:List α):(x::k)++l=x::(k++l):=rfl
theorem yx{α:Type}(x:α)(l:List α):(x::l).length=l.length+1:=rfl
theorem Fi{α:Type}:([]:List α).length=0:=rfl
theorem sD{α β:Type}(f:α->β)(l:List α):(l.map f).length=l.length:=List.length_map ..
theorem WR{α:Type}(x:α)(l:List α):(x::l)[0]?=some x:=rfl
theorem Ws{α:Type}(x:α)(l:List α)(n:Nat):(x::l)[n+1]?=l[n]?:=rfl
theorem Iv{α β:Type}(f:α->β)(l:List α)(n:Nat):(l.map f)[n]?=(l[n]?).map f:=List.getElem?_map ..
theorem zg{α β:Type}(f:α->β)(x:α):(some x).map f=some (f x):=rfl
theorem xN{α β:Type}(f:α->β):(none:Option α).map f=none:=rfl
theorem Kc{α:Type}(l:List α):l.take 0=[]:=rfl
theorem MG{α:Type}(x:α)(l:List α)(n:Nat):(x::l).take (n+1)=x::l.take n:=rfl
theorem JR{α:Type}(l:List α):l.drop 0=l:=rfl
theorem GF{α:Type}(x:α)(l:List α)(n:Nat):(x::l).drop (n+1)=l.drop n:=rfl
theorem LF{α:Type}(n:Nat):([]:List α).drop n=[]:=List.drop_nil
theorem Kn{α:Type}(n:Nat):([]:List α).take n=[]:=List.take_nil
theorem Px(l:List Int):u8s (l.map AV.u8)=some l:=by induction l<;>simp_all [u8s]
theorem xP(n:Nat):((n:Int)).toNat=n:=rfl
theorem Ir{ok:Oks}{a:aw}{Q:Ex->St->Prop}{σ:St}(lv lr:List Nat)(I:St->Prop)(μ:St->Nat)(h0:σ.resOk lv lr)(h1:I (σ.res lv lr))(h2:∀τ,I τ->AWP ok a (thn (fun τ'=>τ'.resOk lv lr/\I (τ'.res lv lr)/\μ (τ'.res lv lr)<μ τ) Q) τ):AWP ok (.loop a) Q σ:=by
 simp only[AWP];exact⟨lv,lr,I,μ,h0,h1,h2⟩
theorem MN{ok:Oks}{ρ:Nat->Option Row}{d f:Nat}{args:List AV}{K:AV->List (Nat×Row)->Prop}{res:AV}(h:ok.p f (args.map (snp ρ 4)) res)(hu:res.allU)(hn:∀p∈(adopt 4 d res).2.1,ρ p.1=none/\p.1<1000000000)(hk:K (adopt 4 d res).1 (adopt 4 d res).2.1):gi ok ρ d f args K:=⟨res,h,.inl hu,hn,hk⟩
theorem Ki{ok:Oks}{ρ:Nat->Option Row}{d f:Nat}{args:List AV}{K:AV->List (Nat×Row)->Prop}{v:Value}(h:ok.p f (args.map (snp ρ 4)) (.sc v))(hk:K (.sc v) []):gi ok ρ d f args K:=⟨.sc v,h,.inl (by simp[AV.allU]),by simp[mQ],by simpa[mQ] using hk⟩
theorem jl{ok:Oks}{ρ:Nat->Option Row}{d f:Nat}{args:List AV}{rs:List Nat}{K:AV->List (Nat×Row)->Prop}{res:AV}{outs:List (Nat×Row)}(h:ok.m f (args.map (AV.rg (cnm rs))) (rs.map (hZ ρ rs)) res outs)(h1:rs.Nodup/\(∀r∈rs,cA (ρ r))/\(∀r∈rs,∀q∈nF (ρ r),q∈rs)/\(∀r∈aM args,r∈rs))(h2:(outs.map fun p=>bkn d rs p.1).Nodup/\(∀p∈outs,1000000000<=p.1->p.1-1000000000<rs.length)/\(∀p∈outs,p.1<1000000000->ρ (bkn d rs p.1)=none/\bkn d rs p.1<1000000000))(hk:K (res.rg (bkn d rs)) (bW rs++outs.map (dg d rs))):callM ok ρ d f args rs K:=⟨res,outs,h,h1,h2,hk⟩
theorem jP{α:Type}{e:α->AV}(h:∀x,(e x).fz=true)(xs:List α):fzL (xs.map e)=true:=by induction xs<;>simp_all [fzL]
theorem kn{α:Type}{e:α->AV}(h:∀x,(e x).ouB=true)(xs:List α):dB (xs.map e)=true:=by induction xs<;>simp_all [dB]
theorem Xr{ok:Oks}{K:St->Prop}{τ:St}{t n k d f:Nat}{xs:List X}{r i off:Nat}{es:List AV}{y:AV}{ys:List AV}{v:Value}{ys':List AV}{z:AV}(h:ok.m f (xs.map (sn τ t ys.length)) [(1000000000,.arr k ys)] (.sc v) [(1000000000,.arr k ys')])(hfl:ys.all AV.flat=true)(hfz:τ.fz=true)(harg:∀x∈xs,ua τ t x)(hfl':ys'.all AV.flat=true)(hz:setPart y off (.lst .u k ys')=some z)(hk:K (τ.app (some d) (.sc v) [(r,.arr n (es.set i z))])):Wy ok K τ t n k d f xs r i off es y ys:=⟨hfl,hfz,harg,v,ys',h,hfl',by rw[hz];exact hk⟩
theorem ZI{A B:Prop}(a:A)(b:B):A/\B:=⟨a,b⟩
def VS1:=ZI @iI (ZI @iQ (ZI @ga (ZI @Vd (ZI @SJ (ZI @Vl (ZI @QG (ZI @VQ (ZI @Uy (ZI @Vw (ZI @Fa (ZI @Xe (ZI @Ga (ZI @Sa (ZI @HL (ZI @Oq (ZI @KY (ZI @QA (ZI @Af (ZI @mQ (ZI @Br (ZI @AY (ZI @BX (ZI @AB (ZI @sJ (ZI @sP (ZI @ta (ZI @pw (ZI @dV (ZI @gy (ZI @gr (ZI @VX (ZI @eQ (ZI @gv (ZI @gD (ZI @fH (ZI @fX (ZI @fW (ZI @fO (ZI @fU (ZI @ft (ZI @EI (ZI @FB (ZI @sM (ZI @iO (ZI @iV (ZI @gF (ZI @An (ZI @CA (ZI @EL (ZI @CX (ZI @yd (ZI @rv (ZI @Qg (ZI @c_eq (ZI @Xv (ZI @Vi (ZI @SQ (ZI @JG (ZI @Wg (ZI @VB (ZI @RA (ZI @SM (ZI @Kh (ZI @Hk (ZI @MB (ZI @WK (ZI @Vv (ZI @Wk (ZI @Xz (ZI @XQ (ZI @Xm (ZI @XO (ZI @WC (ZI @Xa (ZI @XI (ZI @Xk (ZI @Pu (ZI @nq (ZI @TX (ZI @Ln (ZI @Tg (ZI @Tm (ZI @IQ @LB)))))))))))))))))))))))))))))))))))))))))))))))))))))))))))))))))))))))))))))))))))
def VS2:=ZI @Tn (ZI @GV (ZI @Uo (ZI @TJ (ZI @AF (ZI @Bo (ZI @ve (ZI @uY (ZI @Nr (ZI @IH (ZI @HD (ZI @xp (ZI @yg (ZI @zf (ZI @AM (ZI @Bu (ZI @Wv (ZI @Qw (ZI @We (ZI @WW (ZI @ST (ZI @Rp (ZI @VV (ZI @QJ (ZI @UC (ZI @Wz (ZI @JZ (ZI @PH (ZI @OW (ZI @KW (ZI @Sf (ZI @Ju (ZI @Vj (ZI @WZ (ZI @VU (ZI @LK (ZI @LO (ZI @XL (ZI @VG (ZI @RX (ZI @RG (ZI @LT (ZI @PI (ZI @Qk (ZI @UH (ZI @Rv (ZI @Pa (ZI @WN (ZI @PW (ZI @Ve (ZI @IE (ZI @OZ (ZI @RH (ZI @Fd (ZI @Qo (ZI @DR (ZI @SK (ZI @xF (ZI @zB (ZI @BV (ZI @XC (ZI @Ku (ZI @Jj (ZI @HU (ZI @wr (ZI @wb (ZI @GP (ZI @CO (ZI @Fs (ZI @uo (ZI @GR (ZI @tH (ZI @Gr (ZI @Ei (ZI @Pd (ZI @Pi (ZI @Rd (ZI @PN (ZI @WV (ZI @Vh (ZI @Wp (ZI @Rn (ZI @Po (ZI @Pf @Vg)))))))))))))))))))))))))))))))))))))))))))))))))))))))))))))))))))))))))))))))))))
def VS3:=ZI @WD (ZI @UT (ZI @Mo (ZI @GQ (ZI @Pe (ZI @PF (ZI @VW (ZI @Wd (ZI @Vp (ZI @VI (ZI @VS (ZI @Nn (ZI @PM (ZI @Sz (ZI @Pr (ZI @Ut (ZI @PC (ZI @JV (ZI @FJ (ZI @QS (ZI @VK (ZI @Hi (ZI @Xn (ZI @PE (ZI @bV_i (ZI @PT (ZI @QL (ZI @SH (ZI @Sj (ZI @RT (ZI @Uv (ZI @RD (ZI @VY (ZI @VN (ZI @Pp (ZI @RQ (ZI @VO (ZI @JL (ZI @SF (ZI @XH (ZI @Xy (ZI @XE (ZI @Xs (ZI @Rf (ZI @OT (ZI @ME (ZI @KF (ZI @Rh (ZI @PP (ZI @RS (ZI @Ig (ZI @LL (ZI @OV (ZI @Cs (ZI @Me (ZI @Ow (ZI @Sw (ZI @SU (ZI @Lc (ZI @OU (ZI @SY (ZI @Jy (ZI @NG (ZI @PY (ZI @SC (ZI @Uw (ZI @QC (ZI @UI (ZI @Ry (ZI @SL (ZI @Gw (ZI @RJ (ZI @FZ (ZI @Re (ZI @Qe (ZI @Hj (ZI @Sg (ZI @So (ZI @Qq (ZI @Vu (ZI @Wm @Ef))))))))))))))))))))))))))))))))))))))))))))))))))))))))))))))))))))))))))))))))
def VS4:=ZI @SZ (ZI @Gp (ZI @Ru (ZI @Cx (ZI @QH (ZI @Eo (ZI @Rx (ZI @RE (ZI @CT (ZI @Qv (ZI @SW (ZI @DV (ZI @Qj (ZI @Sk (ZI @SA (ZI @GE (ZI @PR (ZI @Er (ZI @SP (ZI @yu (ZI @CD (ZI @Mg (ZI @Iy (ZI @wL (ZI @Es (ZI @Jd (ZI @OY (ZI @Pg (ZI @UG (ZI @XR (ZI @VT (ZI @Xj (ZI @QY (ZI @Te (ZI @QB (ZI @RM (ZI @Ps (ZI @Sl (ZI @VR (ZI @Td (ZI @yv (ZI @PD (ZI @QP (ZI @Qn (ZI @QN (ZI @Rl (ZI @Pq (ZI @Pv (ZI @PU (ZI @Xl (ZI @Xw (ZI @Kr (ZI @Mh (ZI @Ms (ZI @Xf (ZI @Wj (ZI @GC (ZI @EU (ZI @xA (ZI @Ah (ZI @Rq (ZI @Sp (ZI @RL (ZI @NW (ZI @Du (ZI @Rk (ZI @OP (ZI @HK (ZI @Xb (ZI @UD (ZI @Ik (ZI @OM (ZI @Rg (ZI @QI (ZI @AG (ZI @RU (ZI @DJ (ZI @Dp (ZI @EZ (ZI @Cu (ZI @Lr (ZI @Pn @Gk)))))))))))))))))))))))))))))))))))))))))))))))))))))))))))))))))))))))))))))))))
def VS5:=ZI @EP (ZI @CZ (ZI @Rb (ZI @Mn (ZI @Vt (ZI @WM (ZI @Vx (ZI @UX (ZI @WU (ZI @UU (ZI @EF (ZI @RO (ZI @Ii (ZI @Oo (ZI @CL (ZI @Og (ZI @Cj (ZI @MX (ZI @DN (ZI @FO (ZI @Rm (ZI @Mz (ZI @WG (ZI @Ww (ZI @Vo (ZI @JP (ZI @DC (ZI @HZ (ZI @FV (ZI @Gq (ZI @FT (ZI @JH (ZI @zh (ZI @xB (ZI @zY (ZI @xD (ZI @Np (ZI @Dx (ZI @CS (ZI @xH (ZI @DG (ZI @yV (ZI @Vn (ZI @WJ (ZI @WL (ZI @Vr (ZI @PZ (ZI @Hr (ZI @GU (ZI @Jm (ZI @Pm (ZI @Oy (ZI @Xg (ZI @VH (ZI @UA (ZI @Wa (ZI @Vq (ZI @gx_t (ZI @gx_c (ZI @wT (ZI @vR (ZI @qe (ZI @oy (ZI @Tc (ZI @JC (ZI @Cz (ZI @BP (ZI @vM (ZI @QM (ZI @Kl (ZI @getD_some (ZI @DA (ZI @Ka (ZI @Oh (ZI @Kv (ZI @Ca (ZI @UN (ZI @KU (ZI @FY (ZI @FF (ZI @zI (ZI @GB (ZI @IP (ZI @Eb @yc)))))))))))))))))))))))))))))))))))))))))))))))))))))))))))))))))))))))))))))))))))
def VS6:=ZI @yY (ZI @uX (ZI @RP (ZI @Ij (ZI @DY (ZI @Jc (ZI @Nl (ZI @Ek (ZI @Gl (ZI @Gc (ZI @DH (ZI @KS (ZI @Fu (ZI @zO (ZI @uU (ZI @yr (ZI @FD (ZI @tN (ZI @xm (ZI @tE (ZI @uc (ZI @yD (ZI @vV (ZI @sg (ZI @ud (ZI @EY (ZI @Jb (ZI @FW (ZI @MA (ZI @Nj (ZI @Ck (ZI @GA (ZI @Ds (ZI @NR (ZI @Jr (ZI @SG (ZI @Ct (ZI @Aa (ZI @Rr (ZI @Qs (ZI @rv_t (ZI @rv_c (ZI @VL (ZI @Mr (ZI @Qx (ZI @Hy (ZI @yo (ZI @Lo (ZI @Kb (ZI @II (ZI @Cp (ZI @yt (ZI @aB (ZI @fl1 (ZI @fl2 (ZI @fl3 (ZI @fl4 (ZI @fl5 (ZI @fl6 (ZI @fl7 (ZI @fl8 (ZI @pG (ZI @sI (ZI @Fr (ZI @sQ (ZI @qG (ZI @yx (ZI @Fi (ZI @sD (ZI @WR (ZI @Ws (ZI @Iv (ZI @zg (ZI @xN (ZI @Kc (ZI @MG (ZI @JR (ZI @GF (ZI @LF (ZI @Kn (ZI @Px @xP))))))))))))))))))))))))))))))))))))))))))))))))))))))))))))))))))))))))))))))))
def VA:=ZI @ga (ZI @mQ (ZI @Br (ZI @AY (ZI @BX (ZI @AB (ZI @sJ (ZI @sP (ZI @ta (ZI @pw (ZI @fH (ZI @fX (ZI @fW (ZI @ft (ZI @sM (ZI @gF (ZI @rv (ZI @Hk (ZI @MB (ZI @nq (ZI @TX (ZI @Ln (ZI @Tg (ZI @Tm (ZI @IQ (ZI @LB (ZI @Tn (ZI @GV (ZI @Uo (ZI @TJ (ZI @AF (ZI @Bo (ZI @ve (ZI @uY (ZI @Nr (ZI @IH (ZI @xp (ZI @AM (ZI @Bu (ZI @BV (ZI @AG (ZI @wT (ZI @vR (ZI @qe (ZI @oy (ZI @BP (ZI @vM (ZI @fl5 (ZI @fl6 (ZI @fl7 (ZI @fl8 (ZI @pG (ZI @sI (ZI @sQ (ZI @qG (@sD)))))))))))))))))))))))))))))))))))))))))))))))))))))))
end Vs

