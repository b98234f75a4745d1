/-
  Part of the proof that FnExactCheapestPair returns true at every input.
-/
import Derived.Calls
import Derived.Below
set_option linter.defProp false
set_option linter.unusedSimpArgs false
set_option linter.unusedVariables false
namespace Vs
open Go
inductive Fl where|o|s|m|u
 deriving DecidableEq
def Fl.als:Fl->Fl
 | .u=>.m
 |f=>f
def Fl.fix:Fl->Fl
 | .o=>.s
 |f=>f
inductive AV where
 |sc (v:Value)
 |lst (f:Fl) (n:Nat) (xs:List AV)
 |tg (f:Fl) (n:Nat) (xs:List AV)
 |agg (cs:List AV)
 |bp (f:Fl) (x:AV) (off:Nat)
 |sl (r i n:Nat)
 |pt (r i off:Nat)
 |fn (f:Nat) (cs:List AV)
 |tup (vs:List AV)
 |ub
 |top
instance:Inhabited AV:=⟨.top⟩
abbrev AV.i(n:Int):AV:=.sc (.int .i64 n)
abbrev AV.u8(n:Int):AV:=.sc (.int .u8 n)
abbrev AV.u64(n:Int):AV:=.sc (.int .u64 n)
abbrev AV.b(b:Bool):AV:=.sc (.bool b)
abbrev AV.z(s:ByteArray):AV:=.sc (.string s)
def AV.width:AV->Nat
 | .agg cs=>cs.length
 | .top=>0
 | .tup _=>0
 |_=>1
def AV.isAgg:AV->Bool
 | .agg _=>true
 |_=>false
def AV.cells:AV->List AV
 | .agg cs=>cs
 | .top=>[]
 | .tup _=>[]
 |x=>[x]
mutual
def AV.nrm:AV->AV
 | .sc v=>.sc v
 | .lst _ n xs=>.lst .o n (fQ xs)
 | .tg _ n xs=>.lst .o n (fQ xs)
 | .agg cs=>.agg (fQ cs)
 | .bp _ x off=>.bp .o x.nrm off
 | .fn f cs=>.fn f (fQ cs)
 |_=>.top
def fQ:List AV->List AV
 |[]=>[]
 |c::cs=>c.nrm::fQ cs
end
mutual
def AV.als:AV->AV
 | .sc v=>.sc v
 | .lst f n xs=>.lst f.als n (da xs)
 | .agg cs=>.agg (da cs)
 |_=>.top
def da:List AV->List AV
 |[]=>[]
 |c::cs=>c.als::da cs
end
mutual
def AV.fix:AV->AV
 | .sc v=>.sc v
 | .lst f n xs=>.lst f.fix n (fJ xs)
 | .agg cs=>.agg (fJ cs)
 | .tup cs=>.tup (fJ cs)
 | .fn f cs=>.fn f (fJ cs)
 |_=>.top
def fJ:List AV->List AV
 |[]=>[]
 |c::cs=>c.fix::fJ cs
end
mutual
def AV.ments:AV->List Nat
 | .sl r _ _=>[r]
 | .pt r _ _=>[r]
 | .agg cs=>aF cs
 | .fn _ cs=>aF cs
 | .tup cs=>aF cs
 |_=>[]
def aF:List AV->List Nat
 |[]=>[]
 |c::cs=>c.ments++aF cs
end
mutual
def AV.allU:AV->Prop
 | .sc _=>True
 | .lst f _ xs=>f=.u/\jt xs
 | .agg cs=>jt cs
 | .tup cs=>jt cs
 |_=>False
def jt:List AV->Prop
 |[]=>True
 |c::cs=>c.allU/\jt cs
end
mutual
def AV.allO:AV->Prop
 | .sc _=>True
 | .lst f _ xs=>f=.o/\mZ xs
 | .agg cs=>mZ cs
 | .tup cs=>mZ cs
 |_=>False
def mZ:List AV->Prop
 |[]=>True
 |c::cs=>c.allO/\mZ cs
end
mutual
def AV.ou:AV->Prop
 | .sc _=>True
 | .lst f _ xs=>(f=.u/\ouL xs)\/(f=.o/\mZ xs)
 | .agg cs=>ouL cs
 | .tup cs=>ouL cs
 |_=>False
def ouL:List AV->Prop
 |[]=>True
 |c::cs=>c.ou/\ouL cs
end
mutual
def AV.noU:AV->Prop
 | .sc _=>True
 | .lst f _ xs=>f≠.u/\xi xs
 | .agg cs=>xi cs
 | .tup cs=>xi cs
 |_=>False
def xi:List AV->Prop
 |[]=>True
 |c::cs=>c.noU/\xi cs
end
def sub(es:List AV)(i n:Nat):List AV:=if i=0/\n=es.length then es else(es.drop i).take n
def dA{α:Type}(es:List α)(i:Nat)(ys:List α):List α:=if i+ys.length<=es.length then es.take i++ys++es.drop (i+ys.length) else es
inductive Row where
 |var (x:AV)
 |arr (n:Nat) (es:List AV)
 |dead
def cD:Option Row->Prop
 |some (.var _)=>True
 |some (.arr _ _)=>True
 |_=>False
def look{α:Type}(k:Nat):List (Nat×α)->Option α
 |[]=>none
 |(j,x)::l=>if j=k then some x else look k l
def put{α:Type}(k:Nat)(x:α):List (Nat×α)->List (Nat×α)
 |[]=>[(k,x)]
 |(j,y)::l=>if j=k then(k,x)::l else(j,y)::put k x l
def mV(o:Option Row)(i n:Nat):AV:=match o with
 |some (.arr w es)=>.lst .o w (fQ (sub es i n))
 |_=>.top
def lZ(h:AV->AV)(o:Option Row)(i off:Nat):AV:=match o with
 |some (.var y)=>if i=0 then .bp .o (h y) off else .top
 | some (.arr _ es) => match es[i]? with
   |some y=>.bp .o y.nrm off
   |none=>.top
 |_=>.top
def snp(ρ:Nat->Option Row):Nat->AV->AV
 |0,_=>.top
 | k + 1, x => match x with
   | .sl r i n=>mV (ρ r) i n
   | .pt r i off=>lZ (snp ρ k) (ρ r) i off
   | .agg cs=>.agg (cs.map (snp ρ k))
   | .fn f cs=>.fn f (cs.map (snp ρ k))
   |x=>x.nrm
def kY(o:Option Row)(i n:Nat):AV:=match o with
 |some (.arr w es)=>.lst .u w (sub es i n)
 |_=>.top
def lift(ρ:Nat->Option Row):Nat->AV->AV
 |0,_=>.top
 | k + 1, x => match x with
   | .sl r i n=>kY (ρ r) i n
   | .agg cs=>.agg (cs.map (lift ρ k))
   | .tup cs=>.tup (cs.map (lift ρ k))
   | .sc v=>.sc v
   | .lst f n xs=>.lst f n xs
   |_=>.top
def adopt:Nat->Nat->AV->AV×List (Nat×Row)×Nat
 |0,c,_=>(.top,[],c)
 | k + 1, c, x => match x with
   | .lst .u n es=>(.sl c 0 es.length,[(c,.arr n (fJ es))],c+1000)
   | .agg cs=>let(l,u,c):=go k c cs;(.agg l,u,c)
   | .tup cs=>let(l,u,c):=go k c cs;(.tup l,u,c)
   |x=>(x.fix,[],c)
where
 go (k:Nat):Nat->List AV->List AV×List (Nat×Row)×Nat
  |c,[]=>([],[],c)
  | c, x :: xs =>
    let(y,u,c):=adopt k c x;let(ys,us,c):=go k c xs
    (y::ys,u++us,c)
inductive X where
 |t (n:Nat)
 |c (a:AV)
inductive AOp where
 |mv (x:X)
 |pick (c a b:X)
 |alloc (z:AV)
 |box (n:Nat) (x:X)
 |build (z:List AV) (ps:List (Nat×Nat×X))
 |bsl (n:Nat) (fr:Bool) (ps:List X)
 |load (n:Nat) (ag:Bool) (x:X)
 |store (n:Nat) (x v:X)
 |bin (op:BinOp) (x y:X)
 |beq (neg:Bool) (x y:X)
 |un (op:UnOp) (x:X)
 |conv (k:IntKind) (x:X)
 |mkf (f:Nat) (cs:List X)
 |mks (n:Nat) (z:AV) (bytes:Nat) (l c:X)
 |slc (n:Nat) (x:X) (lo hi mx:Option X)
 |slz (x:X) (lo hi:Option X)
 |fad (off:Nat) (x:X)
 |idx (n:Nat) (x i:X)
 |fld (off n:Nat) (ag:Bool) (x:X)
 |stri (x i:X)
 |ext (x:X) (j:Nat)
 |call (f:Nat) (xs:List X)
 |dyn (x:X) (xs:List X)
 |callM (f:Nat) (xs:List X) (rs:List Nat)
 |dynM (x:X) (xs:List X) (rs:List Nat)
 |len (x:X)
 |lenz (x:X)
 |capn (x:X)
 |slg (n:Nat) (x hi:X)
 |apz (n:Nat) (z:AV) (bytes:Nat) (x l:X)
 |b2s (x:X)
 |isn (neg:Bool) (x:X)
 |aeq (neg:Bool) (x y:X)
 |apq (n:Nat) (x y:X)
 |slx (n:Nat) (x:X) (lo hi:Option X)
 |slm (n:Nat) (x lo hi mx:X)
 |clr (n:Nat) (z:AV) (x:X)
 |cpy (n:Nat) (x y:X)
 |ldv (av:List Nat) (n:Nat) (ag:Bool) (x:X)
 |lde (av:List Nat) (n:Nat) (ag:Bool) (x:X)
 |str (n:Nat) (x v:X)
 |lda (n:Nat) (ag:Bool) (x:X)
 |stv (n:Nat) (x v:X)
 |fdv (av:List Nat) (off:Nat) (x:X)
 |idv (av:List Nat) (n:Nat) (x i:X)
 |lnv (av:List Nat) (x:X)
 |stw (r n:Nat) (x v:X)
 |bsm (n:Nat) (ps:List X)
 |app (n bytes:Nat) (mv:Bool) (x y:X)
 |nilc (x:X)
 |mn (x y:X)
 |mx (x y:X)
 |bad
structure aV where
 d:Option Nat
 op:AOp
 gd:Option (Nat×Bool)
inductive HOp where
 |inn (t n k:Nat) (x:X) (mids:List (Nat×X)) (d f:Nat) (xs:List X)
 |har (d f:Nat) (xs:List X) (rs:List Nat)
inductive Can where
 |s (d:Nat)
 |f (far:Bool) (d r j:Nat)
 |r (d:Nat)
 |z (d:Nat)
 |e (far:Bool) (d k j:Nat)
 |w (r:Nat)
inductive aq where
 |skip
 |reg (ops:List aV) (can:List Can)
 |drw (ops:List aV) (can:List Can)
 |seq (a b:aq)
 |seqr (a:aq) (lv lr:List Nat) (b:aq)
 |seqa (x a:aq) (lv lr:List Nat) (b:aq)
 |seqb (a:aq) (lv:List Nat) (b:aq)
 |cond (x:X) (a b:aq)
 |blk (id:Nat) (a:aq)
 |loop (a:aq)
 |exit (id:Nat)
 |ret
structure St where
 env:List (Nat×AV)
 rows:List (Nat×Row)
def St.get(σ:St)(k:Nat):AV:=(look k σ.env).getD .top
def St.row(σ:St)(r:Nat):Option Row:=look r σ.rows
def St.gx(σ:St):X->AV
 | .t n=>σ.get n
 | .c a=>a
def bc(l:List (Nat×Row))(rows:List (Nat×Row)):List (Nat×Row):=l.foldl (fun rs p=>put p.1 p.2 rs) rows
def St.app(σ:St)(d:Option Nat)(v:AV)(u:List (Nat×Row)):St:=
 {env:=match d with|some d=>put d v σ.env|none=>σ.env,rows:=bc u σ.rows}
def St.know(σ:St)(s:Nat)(b:Bool):St:={σ with env:=put s (.b b) σ.env}
def I64(n:Int):Prop:=-9223372036854775808<=n/\n<=9223372036854775807
def fill(cs:List AV)(off:Nat)(v:AV):List AV:=cs.take off++v.cells++cs.drop (off+v.cells.length)
def kH:List AV->List (Nat×AV)->List AV
 |cs,[]=>cs
 |cs,(off,v)::l=>kH (fill cs off v) l
def fO(x:AV)(off n:Nat)(ag:Bool):Option AV:=
 if ag then(if x.isAgg=true/\off+n<=x.width then some (if off=0/\n=x.width then .agg x.cells else .agg ((x.cells.drop off).take n)) else none)
 else x.cells[off]?
def setPart(x:AV)(off:Nat)(v:AV):Option AV:=
 if x.isAgg=true then
  (if v.isAgg=true then(if off=0/\v.width=x.width then some v else if off+v.width<=x.width then some (.agg (fill x.cells off v)) else none)
   else if off+1<=x.width then some (.agg (fill x.cells off v)) else none)
 else if off=0/\v.isAgg=false/\x.width=1 then some v else none
def bits(op:BinOp)(k:IntKind)(x y:Int):Int:=
 let a:=BitVec.ofInt k.bits x;let b:=BitVec.ofInt k.bits y
 k.wrap (match op with| .and=>(a &&& b).toNat| .or=>(a ||| b).toNat| .xor=>(a ^^^ b).toNat|_=>(a &&& ~~~b).toNat)
def ofI(k:IntKind)(n:Int)(K:AV->Prop):Prop:=K (.sc (.int k (k.wrap n)))
def dw(op:BinOp)(k:IntKind)(a b:Int)(K:AV->Prop):Prop:=
 match op with
 | .add=>ofI k (a+b) K
 | .sub=>ofI k (a-b) K
 | .mul=>ofI k (a*b) K
 | .quo=>b≠0/\ofI k (a.tdiv b) K
 | .rem=>b≠0/\K (.sc (.int k (a.tmod b)))
 | .and=>K (.sc (.int k (bits .and k a b)))
 | .or=>K (.sc (.int k (bits .or k a b)))
 | .xor=>K (.sc (.int k (bits .xor k a b)))
 | .andNot=>K (.sc (.int k (bits .andNot k a b)))
 | .eql=>K (.b (a==b))
 | .neq=>K (.b (a !=b))
 | .lss=>K (.b (decide (a<b)))
 | .leq=>K (.b (decide (a<=b)))
 | .gtr=>K (.b (decide (a>b)))
 | .geq=>K (.b (decide (a>=b)))
 |_=>False
def el(op:BinOp)(k:IntKind)(a y:Int)(K:AV->Prop):Prop:=
 0<=y/\match op with
 | .shl=>ofI k (a*2^(min y.toNat k.bits)) K
 | .shr=>K (.sc (.int k (a.fdiv (2^(min y.toNat k.bits)))))
 |_=>False
def cV(op:BinOp)(x y:AV)(K:AV->Prop):Prop:=
 match x,y with
 | .sc (.int k a), .sc (.int k' b) =>
   match op with
   | .shl=>el .shl k a b K
   | .shr=>el .shr k a b K
   |op=>k=k'/\dw op k a b K
 | .sc (.string a), .sc (.string b) =>
   match op with
   | .add=>a.size+b.size<=9223372036854775807/\K (.z (a++b))
   | .eql=>K (.b (a.toList==b.toList))
   | .neq=>K (.b (!(a.toList==b.toList)))
   |_=>False
 |_,_=>False
def unV(op:UnOp)(x:AV)(K:AV->Prop):Prop:=
 match op,x with
 | .neg,.sc (.int k n)=>ofI k (0-n) K
 | .not,.sc (.bool b)=>K (.b (!b))
 |_,_=>False
def bX(rs:List Nat):List (Nat×Row):=rs.map fun r=>(r,.dead)
def lk(n:Nat)(o:Option Row)(i k:Nat):Option (List AV):=match o with
 |some (.arr w es)=>if w=n then some (da (sub es i k)) else none
 |_=>none
def dC(n:Nat)(ρ:Nat->Option Row):AV->Option (List AV)
 | .lst _ w xs=>if w=n then some xs else none
 | .tg _ w xs=>if w=n then some xs else none
 | .sl r i k=>lk n (ρ r) i k
 |_=>none
def tf(n r m:Nat)(o:Option Row):Option (List AV×List (Nat×Row)):=match o with
 |some (.arr w ys)=>if w=n/\m=ys.length then some (ys,[(r,.dead)]) else none
 |_=>none
def kI(o:Option (List AV)):Option (List AV×List (Nat×Row)):=match o with
 |some ys=>some (ys,[])
 |none=>none
def lB(ρ:Nat->Option Row)(n:Nat)(mv:Bool)(y:AV):Option (List AV×List (Nat×Row)):=match mv,y with
 |true,.sl r 0 m=>tf n r m (ρ r)
 |_,y=>kI (dC n ρ y)
def bOk(o:Option AV):Prop:=match o with
 |none=>True
 |some (.sc (.int _ n))=>0<=n
 |_=>False
def bV(o:Option AV)(dflt:Nat):Nat:=match o with
 |some (.sc (.int _ n))=>n.toNat
 |_=>dflt
def u8s:List AV->Option (List Int)
 |[]=>some []
 | .sc (.int .u8 n) :: xs => match u8s xs with
   |some ns=>some (n::ns)
   |none=>none
 |_=>none
def b2s(ns:List Int):ByteArray:=ns.foldl (fun r n=>r.push (UInt8.ofNat n.toNat)) ByteArray.empty
def opt{α:Type}(o:Option α)(K:α->Prop):Prop:=match o with
 |some v=>K v
 |none=>False
section
variable(K:AV->List (Nat×Row)->Prop)
def k1(v:AV):Prop:=K v []
def ku(c a b:AV):Prop:=match c with
 | .sc (.bool t)=>(t=true->K a [])/\(t=false->K b [])
 |_=>False
def Dz(off n:Nat)(ag:Bool)(y:AV):Prop:=opt (fO y.als off n ag) (k1 K)
def dy(o:Option Row)(i off n:Nat)(ag:Bool):Prop:=match o with
 |some (.var y)=>i=0/\opt (fO y off n ag) (k1 K)
 |some (.arr _ es)=>opt es[i]? (Dz K off n ag)
 |_=>False
def du(ρ:Nat->Option Row)(n:Nat)(ag:Bool)(x:AV):Prop:=match x with
 | .bp _ y off=>opt (fO y off n ag) (k1 K)
 | .pt r i off=>dy K (ρ r) i off n ag
 |_=>False
def EM(r:Nat)(y:AV):Prop:=K .top [(r,.var y)]
def vo(u:List (Nat×Row))(r w i:Nat)(es:List AV)(y:AV):Prop:=K .top (u++[(r,.arr w (es.set i y))])
def oY(ρ:Nat->Option Row)(r w i off:Nat)(es:List AV)(v y:AV):Prop:=
 r∉v.ments/\v.ments.Nodup/\(lift ρ 2 v).width=v.width/\opt (setPart y off (lift ρ 2 v)) (vo K (bX v.ments) r w i es)
def cU(ρ:Nat->Option Row)(o:Option Row)(r i off:Nat)(v:AV):Prop:=match o with
 |some (.var y)=>i=0/\opt (setPart y off v) (EM K r)
 |some (.arr w es)=>opt es[i]? (oY K ρ r w i off es v)
 |_=>False
def cO(ρ:Nat->Option Row)(n:Nat)(x v:AV):Prop:=match x with
 | .pt r i off=>v.width=n/\cU K ρ (ρ r) r i off v
 |_=>False
def iPt(av:List Nat):AV->Prop
 | .sl r _ _=>r∉av
 | .lst _ _ _=>True
 |_=>False
def wT:Option Row->Prop
 |some (.var _)=>True
 |_=>False
def wt:Option Row->Prop
 |some (.arr _ _)=>True
 |_=>False
def lPt(av:List Nat):AV->Prop
 | .pt r _ _=>r∉av
 | .bp _ _ _=>True
 |_=>False
def vPt(av:List Nat)(ρ:Nat->Option Row):AV->Prop
 | .pt r _ _=>r∉av/\wT (ρ r)
 | .bp _ _ _=>True
 |_=>False
def aPt(ρ:Nat->Option Row):AV->Prop
 | .pt r _ _=>wt (ρ r)
 |_=>False
def aPb(ρ:Nat->Option Row):AV->Prop
 | .pt r _ _=>wt (ρ r)
 | .bp _ _ _=>True
 |_=>False
def wPt(r:Nat)(ρ:Nat->Option Row):AV->Prop
 | .pt q _ _=>q=r/\wT (ρ q)
 |_=>False
def vPv(ρ:Nat->Option Row):AV->Prop
 | .pt r _ _=>wT (ρ r)
 |_=>False
def tZ(neg:Bool)(x y:AV):Prop:=match x,y with
 | .sc (.bool a),.sc (.bool b)=>K (.sc (.bool (if neg then !(a==b) else(a==b)))) []
 |_,_=>False
def IV(neg:Bool)(x y:AV):Prop:=match x,y with
 | .agg [.sc (.int .i64 a),.sc (.int .i64 b)],.agg [.sc (.int .i64 c),.sc (.int .i64 e)]=>K (.sc (.bool (if neg then !(a==c&&b==e) else(a==c&&b==e)))) []
 |_,_=>False
def oz(k:IntKind)(x:AV):Prop:=match x with
 | .sc (.int _ n)=>K (.sc (.int k (k.wrap n))) []
 |_=>False
def qC(o:Option Row)(d n:Nat)(z:AV)(bytes:Nat)(l c:AV):Prop:=match l,c with
 | .sc (.int .i64 l),.sc (.int .i64 c)=>o=none/\z.width=n/\0<=l/\l<=c/\c*bytes<=140737488355328/\c<=9223372036854775807/\K (.sl d 0 l.toNat) [(d,.arr n (List.replicate l.toNat z))]
 |_,_=>False
def pH(ρ:Nat->Option Row)(n:Nat)(x:AV)(lo hi mx:Option AV):Prop:=match x with
 | .lst f w xs=>w=n/\bOk lo/\bOk hi/\bV lo 0<=bV hi xs.length/\bV hi xs.length<=xs.length/\
  match mx with
  |none=>K (.lst f n (sub xs (bV lo 0) (bV hi xs.length-bV lo 0))) []
  |some m=>hi.isSome/\bOk (some m)/\bV (some m) 0=bV hi xs.length/\K (.tg f n (sub xs (bV lo 0) (bV hi xs.length-bV lo 0))) []
 | .sl r i m=>(∃es,ρ r=some (.arr n es))/\bOk lo/\bOk hi/\bV lo 0<=bV hi m/\bV hi m<=m/\mx=none/\K (.sl r (i+bV lo 0) (bV hi m-bV lo 0)) []
 |_=>False
def Nv(x:AV)(lo hi:Option AV):Prop:=match x with
 | .sc (.string s)=>bOk lo/\bOk hi/\bV lo 0<=bV hi s.size/\bV hi s.size<=s.size/\K (.sc (.string (s.extract (bV lo 0) (bV hi s.size)))) []
 |_=>False
def jz(ρ:Nat->Option Row)(off:Nat)(x:AV):Prop:=match x with
 | .bp f y o=>K (.bp f y (o+off)) []
 | .pt r i o=>cD (ρ r)/\K (.pt r i (o+off)) []
 |_=>False
def QW(f:Fl)(y:AV):Prop:=K (.bp f y 0) []
def iw(ρ:Nat->Option Row)(n:Nat)(x i:AV):Prop:=match x,i with
 | .lst f w xs,.sc (.int _ j)=>w=n/\0<=j/\opt xs[j.toNat]? (QW K f.als)
 | .sl r a m,.sc (.int _ j)=>(∃es,ρ r=some (.arr n es))/\0<=j/\j<m/\K (.pt r (a+j.toNat) 0) []
 |_,_=>False
def zy(off n:Nat)(ag:Bool)(x:AV):Prop:=x.isAgg=true/\opt (fO x off n ag) (k1 K)
def Pu(c:UInt8):Prop:=K (.sc (.int .u8 c.toNat)) []
def ov(x i:AV):Prop:=match x,i with
 | .sc (.string s),.sc (.int _ j)=>0<=j/\opt s[j.toNat]? (Pu K)
 |_,_=>False
def xp(x:AV)(j:Nat):Prop:=match x with
 | .tup vs=>opt vs[j]? (k1 K)
 |_=>False
def jf(ρ:Nat->Option Row)(x:AV):Prop:=match x with
 | .lst _ _ xs=>K (.i xs.length) []
 | .tg _ _ xs=>K (.i xs.length) []
 | .sl r _ n=>(∃w es,ρ r=some (.arr w es))/\K (.i n) []
 |_=>False
def pR(x:AV):Prop:=match x with
 | .lst .u _ []=>K (.i 0) []
 |_=>False
def wR(n:Nat)(x hi:AV):Prop:=match x,hi with
 | .lst .u w [],.sc (.int _ h)=>w=n/\h=0/\K (.lst .u n []) []
 |_,_=>False
def pO(x:AV):Prop:=match x with
 | .sc (.string s)=>K (.i s.size) []
 |_=>False
def JR(ns:List Int):Prop:=K (.sc (.string (b2s ns))) []
def tH(o:Option Row)(i m:Nat):Prop:=match o with
 |some (.arr w es)=>w=1/\opt (u8s (sub es i m)) (JR K)
 |_=>False
def wM(ρ:Nat->Option Row)(x:AV):Prop:=match x with
 | .lst _ w xs=>w=1/\opt (u8s xs) (JR K)
 | .sl r i m=>tH K (ρ r) i m
 |_=>False
def sK(o:Option Row)(r n:Nat)(z:AV)(i m:Nat):Prop:=match o with
 |some (.arr w es)=>w=n/\z.width=n/\K (.tup []) [(r,.arr w (dA es i (List.replicate m z)))]
 |_=>False
def Af(ρ:Nat->Option Row)(n:Nat)(z x:AV):Prop:=match x with
 | .sl r i m=>sK K (ρ r) r n z i m
 |_=>False
def uv(o:Option Row)(r n i m:Nat)(ys:List AV):Prop:=match o with
 |some (.arr w es)=>w=n/\K (.i (min ys.length m:Nat)) [(r,.arr w (dA es i (ys.take (min ys.length m))))]
 |_=>False
def BK(ρ:Nat->Option Row)(n:Nat)(x y:AV):Prop:=match x with
 | .sl r i m=>opt (dC n ρ y) (uv K (ρ r) r n i m)
 |_=>False
def qw(neg e:Bool):Prop:=K (cond e .ub (.b neg)) []
def tU(ρ:Nat->Option Row)(neg:Bool)(x:AV):Prop:=match x with
 | .lst _ _ xs=>qw K neg xs.isEmpty
 | .tg _ _ xs=>qw K neg xs.isEmpty
 | .sl r _ n=>(∃w es,ρ r=some (.arr w es))/\qw K neg (n==0)
 |_=>False
def MQ(o:Option Row)(r n i m:Nat)(ys:List AV):Prop:=match o with
 |some (.arr w es)=>w=n/\i+m+ys.length<=es.length/\K (.sl r i (m+ys.length)) [(r,.arr w (dA es (i+m) ys))]
 |_=>False
def PC(ρ:Nat->Option Row)(n:Nat)(x y:AV):Prop:=match x with
 | .sl r i m=>opt (dC n ρ y) (MQ K (ρ r) r n i m)
 |_=>False
def uA(o:Option Row)(r n i m:Nat)(lo hi:Option AV):Prop:=match o with
 |some (.arr w es)=>w=n/\bOk lo/\bOk hi/\bV lo 0<=bV hi m/\i+bV hi m<=es.length/\K (.sl r (i+bV lo 0) (bV hi m-bV lo 0)) []
 |_=>False
def IQ(ρ:Nat->Option Row)(n:Nat)(x:AV)(lo hi:Option AV):Prop:=match x with
 | .sl r i m=>uA K (ρ r) r n i m lo hi
 |_=>False
def yP(o:Option Row)(n m:Nat)(lo hi mx:AV):Prop:=match o,lo,hi,mx with
 |some (.arr w _),.sc (.int _ l),.sc (.int _ h),.sc (.int _ q)=>w=n/\0<=l/\l<=h/\h<=q/\q<=(m:Int)/\K .top []
 |_,_,_,_=>False
def Qb(ρ:Nat->Option Row)(n:Nat)(x lo hi mx:AV):Prop:=match x with
 | .sl r _ m=>yP K (ρ r) n m lo hi mx
 |_=>False
def pi(o:Option Row)(d n bytes r i m:Nat)(p:List AV×List (Nat×Row)):Prop:=match o with
 |some (.arr w es)=>w=n/\r∉p.2.map (·.1)/\(m+p.1.length)*bytes<=140737488355328/\K (.sl d 0 (m+p.1.length)) ((r,.dead)::p.2++[(d,.arr n (sub es i m++p.1))])
 |_=>False
def uI(d n bytes w:Nat)(es:List AV)(p:List AV×List (Nat×Row)):Prop:=
 w=n/\0<p.1.length/\(es.length+p.1.length)*bytes<=140737488355328/\K (.sl d 0 (es.length+p.1.length)) (p.2++[(d,.arr n (da es++p.1))])
def rX(ρ:Nat->Option Row)(d n bytes:Nat)(mv:Bool)(x y:AV):Prop:=match x with
 | .sl r i m=>ρ d=none/\opt (lB ρ n mv y) (pi K (ρ r) d n bytes r i m)
 | .tg _ w es=>ρ d=none/\opt (lB ρ n mv y) (uI K d n bytes w es)
 |_=>False
def zp(o:Option Row)(d n:Nat)(z:AV)(bytes:Nat)(x l:AV):Prop:=match x,l with
 | .lst .u w [],.sc (.int .i64 l)=>o=none/\w=n/\z.width=n/\n=1/\0<l/\l*bytes<=140737488355328/\K (.sl d 0 l.toNat) [(d,.arr n (List.replicate l.toNat z))]
 |_,_=>False
def qg(ρ:Nat->Option Row)(x:AV):Prop:=match x with
 | .bp f y o=>K (.bp f y o) []
 | .pt r i o=>cD (ρ r)/\K (.pt r i o) []
 |_=>False
def eMn(x y:AV):Prop:=match x,y with
 | .sc (.int k a),.sc (.int k' b)=>k=k'/\K (.sc (.int k (if b<a then b else a))) []
 |_,_=>False
def eMx(x y:AV):Prop:=match x,y with
 | .sc (.int k a),.sc (.int k' b)=>k=k'/\K (.sc (.int k (if a<b then b else a))) []
 |_,_=>False
end
structure Oks where
 p:Nat->List AV->AV->Prop
 m:Nat->List AV->List (Nat×Row)->AV->List (Nat×Row)->Prop
 h:Nat->List AV->List (Nat×Row)->AV->List (Nat×Row)->Prop
mutual
def AV.rg(h:Nat->Nat):AV->AV
 | .sl q i n=>.sl (h q) i n
 | .pt q i o=>.pt (h q) i o
 | .agg cs=>.agg (rgL h cs)
 | .fn f cs=>.fn f (rgL h cs)
 | .tup cs=>.tup (rgL h cs)
 |x=>x
def rgL(h:Nat->Nat):List AV->List AV
 |[]=>[]
 |c::cs=>c.rg h::rgL h cs
end
def Row.rg(h:Nat->Nat):Row->Row
 | .var x=>.var (x.rg h)
 |x=>x
def pos(r:Nat):List Nat->Nat
 |[]=>0
 |x::xs=>if x=r then 0 else pos r xs+1
def cnm(rs:List Nat)(r:Nat):Nat:=1000000000+pos r rs
def bkn(d:Nat)(rs:List Nat)(q:Nat):Nat:=if 1000000000<=q then rs.getD (q-1000000000) 0 else q+100000*(d+1)
def gM(ρ:Nat->Option Row)(rs:List Nat)(r:Nat):Nat×Row:=(cnm rs r,((ρ r).getD .dead).rg (cnm rs))
def fi(d:Nat)(rs:List Nat)(p:Nat×Row):Nat×Row:=(bkn d rs p.1,p.2.rg (bkn d rs))
def mz:Option Row->List Nat
 |some (.var x)=>x.ments
 |_=>[]
section
variable(ok:Oks)
def callM(ρ:Nat->Option Row)(d f:Nat)(args:List AV)(rs:List Nat)(K:AV->List (Nat×Row)->Prop):Prop:=
 ∃ res outs, ok.m f (args.map (AV.rg (cnm rs))) (rs.map (gM ρ rs)) res outs ∧
   (rs.Nodup/\(∀r∈rs,cD (ρ r))/\(∀r∈rs,∀q∈mz (ρ r),q∈rs)/\(∀r∈aF args,r∈rs))/\
   ((outs.map fun p => bkn d rs p.1).Nodup ∧ (∀ p ∈ outs, 1000000000 ≤ p.1 → p.1 - 1000000000 < rs.length) ∧
     (∀p∈outs,p.1<1000000000->ρ (bkn d rs p.1)=none/\bkn d rs p.1<1000000000))/\
   K (res.rg (bkn d rs)) (bX rs++outs.map (fi d rs))
def pp(ρ:Nat->Option Row)(d:Nat)(x:AV)(xs:List AV)(rs:List Nat)(K:AV->List (Nat×Row)->Prop):Prop:=match x with
 | .fn f cs=>callM ok ρ d f (xs++cs) rs K
 |_=>False
def fS(ρ:Nat->Option Row)(d f:Nat)(args:List AV)(K:AV->List (Nat×Row)->Prop):Prop:=
 ∃ res, ok.p f (args.map (snp ρ 4)) res ∧ (res.allU ∨ aF args = [] ∧ (res.ou ∨ res.noU)) ∧ (∀ p ∈ (adopt 4 d res).2.1, ρ p.1 = none ∧ p.1 < 1000000000) ∧
   K (adopt 4 d res).1 (adopt 4 d res).2.1
def tq(ρ:Nat->Option Row)(d:Nat)(x:AV)(xs:List AV)(K:AV->List (Nat×Row)->Prop):Prop:=match x with
 | .fn f cs=>fS ok ρ d f (xs++cs) K
 |_=>False
def eff(g:X->AV)(ρ:Nat->Option Row)(d:Nat):AOp->(AV->List (Nat×Row)->Prop)->Prop
 | .mv x,K=>K (g x) []
 | .pick c a b,K=>ku K (g c) (g a) (g b)
 | .alloc z,K=>ρ d=none/\K (.pt d 0 0) [(d,.var z)]
 | .box n x,K=>ρ d=none/\(g x).width=n/\K (.pt d 0 0) [(d,.var (g x))]
 | .build z ps,K=>(∀p∈ps,(g p.2.2).width=p.2.1/\p.1+p.2.1<=z.length)/\K (.agg (kH z (ps.map fun p=>(p.1,g p.2.2)))) []
 | .bsl n fr ps,K=>(fr=true->aF (ps.map g)=[])/\ρ d=none/\(∀p∈ps,(g p).width=n)/\(aF (ps.map g)).Nodup/\
  K (.sl d 0 ps.length) (bX (aF (ps.map g))++[(d,.arr n ((ps.map g).map (lift ρ 2)))])
 | .load n ag x,K=>du K ρ n ag (g x)
 | .store n x v,K=>cO K ρ n (g x) (g v)
 | .bin op x y,K=>cV op (g x) (g y) (k1 K)
 | .beq neg x y,K=>tZ K neg (g x) (g y)
 | .un op x,K=>unV op (g x) (k1 K)
 | .conv k x,K=>oz K k (g x)
 | .mkf f cs,K=>K (.fn f (cs.map g)) []
 | .mks n z bytes l c,K=>qC K (ρ d) d n z bytes (g l) (g c)
 | .slc n x lo hi mx,K=>pH K ρ n (g x) (lo.map g) (hi.map g) (mx.map g)
 | .slz x lo hi,K=>Nv K (g x) (lo.map g) (hi.map g)
 | .fad off x,K=>jz K ρ off (g x)
 | .idx n x i,K=>iw K ρ n (g x) (g i)
 | .idv av n x i,K=>iPt av (g x)/\iw K ρ n (g x) (g i)
 | .lnv av x,K=>iPt av (g x)/\jf K ρ (g x)
 | .stw r n x v,K=>wPt r ρ (g x)/\cO K ρ n (g x) (g v)
 | .fld off n ag x,K=>zy K off n ag (g x)
 | .stri x i,K=>ov K (g x) (g i)
 | .ext x j,K=>xp K (g x) j
 | .call f xs,K=>fS ok ρ d f (xs.map g) K
 | .dyn x xs,K=>tq ok ρ d (g x) (xs.map g) K
 | .callM f xs rs,K=>callM ok ρ d f (xs.map g) rs K
 | .dynM x xs rs,K=>pp ok ρ d (g x) (xs.map g) rs K
 | .len x,K=>jf K ρ (g x)
 | .lenz x,K=>pO K (g x)
 | .capn x,K=>pR K (g x)
 | .slg n x hi,K=>wR K n (g x) (g hi)
 | .apz n z bytes x l,K=>zp K (ρ d) d n z bytes (g x) (g l)
 | .b2s x,K=>wM K ρ (g x)
 | .isn neg x,K=>tU K ρ neg (g x)
 | .aeq neg x y,K=>IV K neg (g x) (g y)
 | .apq n x y,K=>PC K ρ n (g x) (g y)
 | .slx n x lo hi,K=>IQ K ρ n (g x) (lo.map g) (hi.map g)
 | .slm n x lo hi mx,K=>Qb K ρ n (g x) (g lo) (g hi) (g mx)
 | .clr n z x,K=>Af K ρ n z (g x)
 | .cpy n x y,K=>BK K ρ n (g x) (g y)
 | .ldv av n ag x,K=>vPt av ρ (g x)/\du K ρ n ag (g x)
 | .lde av n ag x,K=>lPt av (g x)/\du K ρ n ag (g x)
 | .str n x v,K=>aPt ρ (g x)/\(g v).ments=[]/\cO K ρ n (g x) (g v)
 | .lda n ag x,K=>aPb ρ (g x)/\du K ρ n ag (g x)
 | .stv n x v,K=>vPv ρ (g x)/\cO K ρ n (g x) (g v)
 | .fdv av off x,K=>vPt av ρ (g x)/\jz K ρ off (g x)
 | .bsm n ps,K=>(∀r∈aF (ps.map g),wt (ρ r))/\ρ d=none/\(∀p∈ps,(g p).width=n)/\(aF (ps.map g)).Nodup/\
  K (.sl d 0 ps.length) (bX (aF (ps.map g))++[(d,.arr n ((ps.map g).map (lift ρ 2)))])
 | .app n bytes mv x y,K=>rX K ρ d n bytes mv (g x) (g y)
 | .nilc x,K=>qg K ρ (g x)
 | .mn x y,K=>eMn K (g x) (g y)
 | .mx x y,K=>eMx K (g x) (g y)
 | .bad,_=>False
def eu(σ:St)(s:Nat)(w:Bool)(x:AV)(A B:St->Prop):Prop:=match x with
 | .sc (.bool t)=>(t=w->A (σ.know s w))/\(t=!w->B (σ.know s (!w)))
 | .tup []=>B σ
 |_=>False
def Ou(d:Option Nat)(R:St->Prop)(σ:St)(v:AV)(u:List (Nat×Row)):Prop:=R (σ.app d v u)
def wL(d:Option Nat)(o:AOp)(R:St->Prop)(σ:St):Prop:=eff ok σ.gx σ.row (d.getD 0) o (Ou d R σ)
def GW(d:Option Nat)(R:St->Prop)(σ:St):Prop:=R (σ.app d (.tup []) [])
def RP(o:aV)(σ:St)(R:St->Prop):Prop:=
 match o.gd with
 |none=>wL ok o.d o.op R σ
 |some (s,w)=>eu σ s w (σ.get s) (wL ok o.d o.op R) (GW o.d R)
def dU:List aV->(St->Prop)->St->Prop
 |[],K,σ=>K σ
 |o::os,K,σ=>RP ok o σ (dU os K)
mutual
def AV.fz:AV->Bool
 | .sc _=>true
 | .lst f _ xs=>(match f with| .o=>fzL xs|_=>false)
 | .agg cs=>fzL cs
 | .tup cs=>fzL cs
 | .fn _ cs=>fzL cs
 | .bp f x _=>(match f with| .o=>x.fz|_=>false)
 | .sl _ _ _=>true
 | .pt _ _ _=>true
 | .top=>true
 | .ub=>true
 |_=>false
def fzL:List AV->Bool
 |[]=>true
 |c::cs=>c.fz&&fzL cs
end
mutual
def AV.ouB:AV->Bool
 | .sc _=>true
 | .lst f _ xs=>(match f with| .o=>fzL xs| .u=>df xs|_=>false)
 | .agg cs=>df cs
 | .top=>true
 |_=>false
def df:List AV->Bool
 |[]=>true
 |c::cs=>c.ouB&&df cs
end
def Row.fz:Row->Bool
 | .var x=>x.fz
 | .arr _ es=>df es
 | .dead=>true
def St.fz(σ:St):Bool:=σ.env.all (fun p=>p.2.fz)&&σ.rows.all (fun p=>p.2.fz)
def argI(τ:St)(t len:Nat):X->AV
 | .t j=>if j=t then .sl 1000000000 0 len else τ.get j
 | .c a=>a
def Jn(τ:St)(t:Nat):X->Prop
 | .t j=>j=t\/(τ.get j).ments=[]
 | .c a=>a.ments=[]
def AV.hush(r:Nat)(a:AV):AV:=if r∈a.ments then .top else a
mutual
def AV.ren(r d:Nat):AV->AV
 | .sl q i n=>.sl (if q=r then d else q) i n
 | .pt q i o=>.pt (if q=r then d else q) i o
 | .agg cs=>.agg (iV r d cs)
 | .fn f cs=>.fn f (iV r d cs)
 | .tup cs=>.tup (iV r d cs)
 |x=>x
def iV(r d:Nat):List AV->List AV
 |[]=>[]
 |c::cs=>c.ren r d::iV r d cs
end
def Row.map(h:AV->AV):Row->Row
 | .var x=>.var (h x)
 |x=>x
def Row.hush(r:Nat):Row->Row
 | .var x=>if r∈x.ments then .dead else .var x
 |x=>x
def del{α:Type}(k:Nat):List (Nat×α)->List (Nat×α)
 |[]=>[]
 |(j,x)::l=>if j=k then del k l else(j,x)::del k l
def St.canSl (σ : St) (d r i n : Nat) : St :=
    if r=d\/1000000000<=r then σ
    else
     { env:=put d (.sl d i n) ((σ.env.map fun p=>(p.1,p.2.hush d)).map fun p=>(p.1,p.2.ren r d)),
       rows:=((del d σ.rows).map fun p=>(p.1,p.2.hush d)).map fun p=>(if p.1=r then d else p.1,p.2.map (·.ren r d))}
def St.canSr (σ : St) (d r i n : Nat) : St :=
    if r=d then σ
    else
     { env:=put d (.sl d i n) ((σ.env.map fun p=>(p.1,p.2.hush d)).map fun p=>(p.1,p.2.ren r d)),
       rows:=((del d σ.rows).map fun p=>(p.1,p.2.hush d)).map fun p=>(if p.1=r then d else p.1,p.2.map (·.ren r d))}
def St.canNil (σ : St) (d n : Nat) : St :=
    { env:=put d (.sl d 0 0) (σ.env.map fun p=>(p.1,p.2.hush d)),
      rows:=put d (.arr n []) ((del d σ.rows).map fun p=>(p.1,p.2.hush d))}
def St.canV(σ:St)(d:Nat)(x:AV):St:=match x with
 | .sl r i n=>σ.canSl d r i n
 | .lst .u n []=>σ.canNil d n
 |_=>σ
def St.canW(σ:St)(d:Nat)(x:AV):St:=match x with
 | .sl r i n=>σ.canSr d r i n
 | .lst .u n []=>σ.canNil d n
 |_=>σ
def St.canZr(σ:St)(d i m:Nat)(r:Nat):Option Row->St
 |some (.arr q es)=>⟨put d (.lst .m q (da (sub es i m))) σ.env,put r .dead σ.rows⟩
 |_=>σ
def gv:List AV->Nat->AV->List AV
 |[],_,_=>[]
 |_::xs,0,y=>y::xs
 |x::xs,j+1,y=>x::gv xs j y
def St.canZcr(σ:St)(d:Nat)(all:List AV)(j r i m:Nat):Option Row->St
 |some (.arr q es)=>⟨put d (.agg (gv all j (.lst .m q (da (sub es i m))))) σ.env,put r .dead σ.rows⟩
 |_=>σ
def St.canZc(σ:St)(d:Nat)(all:List AV):Nat->List AV->St
 |_,[]=>σ
 |j,.sl r i m::_=>σ.canZcr d all j r i m (look r σ.rows)
 |j,_::cs=>σ.canZc d all (j+1) cs
def St.canZ(σ:St)(d:Nat)(x:AV):St:=match x with
 | .sl r i m=>σ.canZr d i m r (look r σ.rows)
 | .agg cs=>σ.canZc d cs 0 cs
 |_=>σ
def qp:List AV->Nat->AV
 |[],_=>.top
 |x::_,0=>x
 |_::xs,j+1=>qp xs j
def gm(j:Nat):Option Row->AV
 |some (.var (.agg cs))=>qp cs j
 |some (.var (.sl q i m))=>if j=0 then .sl q i m else .top
 |some (.var (.lst f m xs))=>if j=0 then .lst f m xs else .top
 |_=>.top
def St.canFN(σ:St)(d r j m:Nat):Option Row->St
 |some (.var (.agg cs))=>⟨σ.env.map fun p=>(p.1,p.2.hush d),put d (.arr m []) (put r (.var (.agg (gv cs j (.sl d 0 0)))) ((del d σ.rows).map fun p=>(p.1,p.2.hush d)))⟩
 |some (.var (.lst .u _ []))=>⟨σ.env.map fun p=>(p.1,p.2.hush d),put d (.arr m []) (put r (.var (.sl d 0 0)) ((del d σ.rows).map fun p=>(p.1,p.2.hush d)))⟩
 |_=>σ
def St.canG(σ:St)(far:Bool)(d r j:Nat):AV->St
 | .sl q _ _=>if q=d\/far=false/\1000000000<=q then σ else
  ⟨(σ.env.map fun p=>(p.1,p.2.hush d)).map fun p=>(p.1,p.2.ren q d),((del d σ.rows).map fun p=>(p.1,p.2.hush d)).map fun p=>(if p.1=q then d else p.1,p.2.map (·.ren q d))⟩
 | .lst .u m []=>σ.canFN d r j m (look r ((del d σ.rows).map fun p=>(p.1,p.2.hush d)))
 |_=>σ
def St.canEN(σ:St)(d k j m:Nat):Option AV->St
 |some (.agg cs)=>⟨put k (.agg (gv cs j (.sl d 0 0))) (σ.env.map fun p=>(p.1,p.2.hush d)),put d (.arr m []) ((del d σ.rows).map fun p=>(p.1,p.2.hush d))⟩
 |_=>σ
def St.canE(σ:St)(far:Bool)(d k j:Nat):AV->St
 | .sl q _ _=>if q=d\/far=false/\1000000000<=q then σ else
  ⟨(σ.env.map fun p=>(p.1,p.2.hush d)).map fun p=>(p.1,p.2.ren q d),((del d σ.rows).map fun p=>(p.1,p.2.hush d)).map fun p=>(if p.1=q then d else p.1,p.2.map (·.ren q d))⟩
 | .lst .u m []=>σ.canEN d k j m (look k (σ.env.map fun p=>(p.1,p.2.hush d)))
 |_=>σ
def St.canXcr(σ:St)(r:Nat)(all:List AV)(j q i m:Nat):Option Row->St
 |some (.arr k es)=>⟨σ.env,put r (.var (.agg (gv all j (.lst .m k (da (sub es i m)))))) (put q .dead σ.rows)⟩
 |_=>σ
def St.canXc(σ:St)(r:Nat)(all:List AV):Nat->List AV->St
 |_,[]=>σ
 |j,.sl q i m::_=>σ.canXcr r all j q i m (look q σ.rows)
 |j,.lst .u n []::_=>⟨σ.env,put r (.var (.agg (gv all j (.lst .m n [])))) σ.rows⟩
 |j,_::cs=>σ.canXc r all (j+1) cs
def St.canX(σ:St)(r:Nat):Option Row->St
 |some (.arr n es)=>⟨σ.env,put r (.arr n (da es)) σ.rows⟩
 |some (.var (.agg cs))=>σ.canXc r cs 0 cs
 |_=>σ
def St.can1(σ:St):Can->St
 | .s d=>σ.canV d (σ.get d)
 | .f far d r j=>σ.canG far d r j (gm j (look r σ.rows))
 | .r d=>σ.canW d (σ.get d)
 | .z d=>σ.canZ d (σ.get d)
 | .e far d k j=>σ.canE far d k j (gm j (some (.var (σ.get k))))
 | .w r=>σ.canX r (look r σ.rows)
def St.can(σ:St):List Can->St
 |[]=>σ
 |d::ds=>(σ.can1 d).can ds
def Can.low(n:Nat):Can->Bool
 | .s d=>decide (d<n)
 | .f _ d _ _=>decide (d<1000000000)&&decide (n<=d)
 | .r d=>decide (d<n)
 | .z d=>decide (d<n)
 | .e _ d k _=>decide (d<1000000000)&&decide (n<=d)&&decide (k<n)
 | .w _=>true
def St.res(σ:St)(lv lr:List Nat):St:=
 {env:=lv.map fun k=>(k,σ.get k),rows:=lr.map fun r=>(r,(σ.row r).getD .dead)}
def Row.ments:Row->List Nat
 | .var x=>x.ments
 |_=>[]
def St.resOk(σ:St)(lv lr:List Nat):Prop:=
 (∀k∈lv,∀r∈(σ.get k).ments,r∈lr)/\(∀q∈lr,∀r∈((σ.row q).getD .dead).ments,r∈lr)/\lr.Nodup
inductive Ex where
 |nrm
 |ex (id:Nat)
 |ret
def thn(K:St->Prop)(Q:Ex->St->Prop):Ex->St->Prop
 | .nrm,σ=>K σ
 |e,σ=>Q e σ
def inb(id:Nat)(Q:Ex->St->Prop):Ex->St->Prop
 | .ex j,σ=>if j=id then Q .nrm σ else Q (.ex j) σ
 |e,σ=>Q e σ
def tst(x:AV)(A B:Prop):Prop:=match x with
 | .sc (.bool t)=>(t=true->A)/\(t=false->B)
 | .ub=>A/\B
 |_=>False
def Kq(Q:Ex->St->Prop)(can:List Can)(σ:St):Prop:=Q .nrm (σ.can can)
def St.rb(σ:St)(lv:List Nat):St:=⟨lv.map fun k=>(k,snp σ.row 4 (σ.get k)),[]⟩
def AV.scal:AV->AV
 | .sc v=>.sc v
 |_=>.top
def St.scal(σ:St):St:=⟨σ.env.map fun p=>(p.1,p.2.scal),[]⟩
def rbQ(Q:Ex->St->Prop)(e:Ex)(τ:St):Prop:=Q e τ.scal
def AWP:aq->(Ex->St->Prop)->St->Prop
 | .skip,Q,σ=>Q .nrm σ
 | .reg ops can,Q,σ=>dU ok ops (Kq Q can) σ
 | .drw ops can,Q,σ=>dU ok ops (Kq Q can) σ
 | .seq a b,Q,σ=>AWP a (thn (AWP b Q) Q) σ
 | .seqr a lv lr b,Q,σ=>AWP a (thn (fun τ=>τ.resOk lv lr/\AWP b Q (τ.res lv lr)) Q) σ
 | .seqa x a lv lr b,Q,σ=>AWP x (thn (AWP a (thn (fun τ=>τ.resOk lv lr/\AWP b Q (τ.res lv lr)) Q)) Q) σ
 | .seqb a lv b,Q,σ=>AWP a (thn (fun τ=>AWP b (rbQ Q) (τ.rb lv)) Q) σ
 | .cond x a b,Q,σ=>tst (σ.gx x) (AWP a Q σ) (AWP b Q σ)
 | .blk id a,Q,σ=>AWP a (inb id Q) σ
 | .loop a,Q,σ=>∃(lv lr:List Nat)(I:St->Prop)(μ:St->Nat),σ.resOk lv lr/\I (σ.res lv lr)/\
  ∀τ,I τ->AWP a (thn (fun τ'=>τ'.resOk lv lr/\I (τ'.res lv lr)/\μ (τ'.res lv lr)<μ τ) Q) τ
 | .exit id,Q,σ=>Q (.ex id) σ
 | .ret,Q,σ=>Q .ret σ
inductive RV where
 |t (n:Nat)
 |c (n k:Nat) (ag:Bool)
def RV.val(σ:St):RV->Option AV
 | .t n=>some (σ.get n)
 | .c n k ag => match σ.get n with
   | .pt r 0 0 => match σ.row r with
     |some (.var y)=>fO y 0 k ag
     |_=>none
   |_=>none
def RVs.val(σ:St):List RV->Option (List AV)
 |[]=>some []
 | r :: rs => match r.val σ, RVs.val σ rs with
   |some x,some xs=>some (x::xs)
   |_,_=>none
def dG:List AV->AV
 |[x]=>x
 |xs=>.tup xs
def fin(rs:List RV)(res:AV):Ex->St->Prop
 | .nrm,σ| .ret,σ=>∃xs,RVs.val σ rs=some xs/\(aF xs).Nodup/\lift σ.row 3 (dG xs)=res
 |_,_=>False
def St.start(args:List AV):St:={env:=go 0 args,rows:=[]}
where go:Nat->List AV->List (Nat×AV)
 |_,[]=>[]
 |n,a::as=>(n,a)::go (n+1) as
def Qg(a:aq)(rs:List RV)(args:List AV)(res:AV):Prop:=AWP ok a (fin rs res) (St.start args)
end
end Vs

namespace Vs
open Go
theorem ic(xs:List AV):fQ xs=xs.map AV.nrm:=by
 induction xs with
 |nil=>simp[fQ]
 |cons x xs ih=>simp[fQ,ih]
theorem ig(xs:List AV):da xs=xs.map AV.als:=by
 induction xs with
 |nil=>simp[da]
 |cons x xs ih=>simp[da,ih]
theorem fI(xs:List AV):fJ xs=xs.map AV.fix:=by
 induction xs with
 |nil=>simp[fJ]
 |cons x xs ih=>simp[fJ,ih]
theorem md(r d:Nat)(xs:List AV):iV r d xs=xs.map (AV.ren r d):=by
 induction xs with
 |nil=>simp[iV]
 |cons x xs ih=>simp[iV,ih]
theorem qE(xs:List AV):jt xs↔∀x∈xs,x.allU:=by
 induction xs with
 |nil=>simp[jt]
 |cons x xs ih=>simp[jt,ih]
theorem PJ(ρ:Nat->Option Row)(k:Nat)(v:Value):snp ρ (k+1) (.sc v)=.sc v:=by simp[snp,AV.nrm]
theorem KT(ρ:Nat->Option Row)(k:Nat)(f:Fl)(n:Nat)(xs:List AV):snp ρ (k+1) (.lst f n xs)=.lst .o n (xs.map AV.nrm):=by simp[snp,AV.nrm,ic]
theorem RB(ρ:Nat->Option Row)(k:Nat)(f:Fl)(n:Nat)(xs:List AV):snp ρ (k+1) (.tg f n xs)=.lst .o n (xs.map AV.nrm):=by simp[snp,AV.nrm,ic]
theorem MI(ρ:Nat->Option Row)(k:Nat)(cs:List AV):snp ρ (k+1) (.agg cs)=.agg (cs.map (snp ρ k)):=by simp[snp]
theorem PL(ρ:Nat->Option Row)(k:Nat)(f:Nat)(cs:List AV):snp ρ (k+1) (.fn f cs)=.fn f (cs.map (snp ρ k)):=by simp[snp]
theorem Rg(ρ:Nat->Option Row)(k:Nat)(f:Fl)(x:AV)(off:Nat):snp ρ (k+1) (.bp f x off)=.bp .o x.nrm off:=by simp[snp,AV.nrm]
theorem RF(ρ:Nat->Option Row)(k:Nat)(r i n:Nat):snp ρ (k+1) (.sl r i n)=mV (ρ r) i n:=by simp only[snp]
theorem Au(w:Nat)(es:List AV)(i n:Nat):mV (some (.arr w es)) i n=.lst .o w ((sub es i n).map AV.nrm):=by simp[mV,ic]
theorem Qr(ρ:Nat->Option Row)(k:Nat)(r i off:Nat):snp ρ (k+1) (.pt r i off)=lZ (snp ρ k) (ρ r) i off:=by simp only[snp]
theorem Cp(h:AV->AV)(y:AV)(off:Nat):lZ h (some (.var y)) 0 off=.bp .o (h y) off:=by simp[lZ]
theorem Mp(ρ:Nat->Option Row)(k:Nat)(v:Value):lift ρ (k+1) (.sc v)=.sc v:=by simp[lift]
theorem JH(ρ:Nat->Option Row)(k:Nat)(f:Fl)(n:Nat)(xs:List AV):lift ρ (k+1) (.lst f n xs)=.lst f n xs:=by simp[lift]
theorem IP(ρ:Nat->Option Row)(k:Nat)(cs:List AV):lift ρ (k+1) (.agg cs)=.agg (cs.map (lift ρ k)):=by simp[lift]
theorem DX(ρ:Nat->Option Row)(k:Nat)(cs:List AV):lift ρ (k+1) (.tup cs)=.tup (cs.map (lift ρ k)):=by simp[lift]
theorem Lq(ρ:Nat->Option Row)(k:Nat)(r i n:Nat):lift ρ (k+1) (.sl r i n)=kY (ρ r) i n:=by simp only[lift]
theorem vH(w:Nat)(es:List AV)(i n:Nat):kY (some (.arr w es)) i n=.lst .u w (sub es i n):=rfl
theorem lm(k c:Nat)(v:Value):adopt (k+1) c (.sc v)=(.sc v,[],c):=by simp[adopt,AV.fix]
theorem yR(k c n:Nat)(es:List AV):adopt (k+1) c (.lst .u n es)=(.sl c 0 es.length,[(c,.arr n (es.map AV.fix))],c+1000):=by simp[adopt,fI]
theorem yo(k c n:Nat)(es:List AV):adopt (k+1) c (.lst .o n es)=(.lst .s n (es.map AV.fix),[],c):=by simp[adopt,AV.fix,fI,Fl.fix]
theorem yO(k c n:Nat)(es:List AV):adopt (k+1) c (.lst .m n es)=(.lst .m n (es.map AV.fix),[],c):=by simp[adopt,AV.fix,fI,Fl.fix]
theorem yp(k c n:Nat)(es:List AV):adopt (k+1) c (.lst .s n es)=(.lst .s n (es.map AV.fix),[],c):=by simp[adopt,AV.fix,fI,Fl.fix]
theorem re(k c:Nat)(xs:List AV):adopt (k+1) c (.tup xs)=(.tup (adopt.go k c xs).1,(adopt.go k c xs).2.1,(adopt.go k c xs).2.2):=by simp[adopt]
theorem qW(k c:Nat)(xs:List AV):adopt (k+1) c (.agg xs)=(.agg (adopt.go k c xs).1,(adopt.go k c xs).2.1,(adopt.go k c xs).2.2):=by simp[adopt]
theorem rA(k c:Nat):adopt.go k c []=([],[],c):=by simp[adopt.go]
theorem od(k c:Nat)(x:AV)(xs:List AV):adopt.go k c (x::xs)=
 ((adopt k c x).1::(adopt.go k (adopt k c x).2.2 xs).1,(adopt k c x).2.1++(adopt.go k (adopt k c x).2.2 xs).2.1,(adopt.go k (adopt k c x).2.2 xs).2.2):=by simp[adopt.go]
theorem cP(v:Value):(AV.sc v).nrm=.sc v:=by simp[AV.nrm]
theorem fX(f:Fl)(n:Nat)(xs:List AV):(AV.lst f n xs).nrm=.lst .o n (xs.map AV.nrm):=by simp[AV.nrm,ic]
theorem fV(cs:List AV):(AV.agg cs).nrm=.agg (cs.map AV.nrm):=by simp[AV.nrm,ic]
theorem Rb(f:Fl)(x:AV)(off:Nat):(AV.bp f x off).nrm=.bp .o x.nrm off:=by simp[AV.nrm]
theorem ec(v:Value):(AV.sc v).als=.sc v:=by simp[AV.als]
theorem gf(f:Fl)(n:Nat)(xs:List AV):(AV.lst f n xs).als=.lst f.als n (xs.map AV.als):=by simp[AV.als,ig]
theorem gb(cs:List AV):(AV.agg cs).als=.agg (cs.map AV.als):=by simp[AV.als,ig]
theorem eT(v:Value):(AV.sc v).fix=.sc v:=by simp[AV.fix]
theorem fE(f:Fl)(n:Nat)(xs:List AV):(AV.lst f n xs).fix=.lst f.fix n (xs.map AV.fix):=by simp[AV.fix,fI]
theorem fF(cs:List AV):(AV.agg cs).fix=.agg (cs.map AV.fix):=by simp[AV.fix,fI]
theorem gi(xs:List Int):(xs.map AV.i).map AV.nrm=xs.map AV.i:=by simp[cP]
theorem gk(xs:List Int):(xs.map AV.i).map AV.als=xs.map AV.i:=by simp[ec]
theorem fD(xs:List Int):(xs.map AV.i).map AV.fix=xs.map AV.i:=by simp[eT]
theorem AG(xs:List Bool):(xs.map AV.b).map AV.nrm=xs.map AV.b:=by simp[cP]
theorem Ac(xs:List Bool):(xs.map AV.b).map AV.als=xs.map AV.b:=by simp[ec]
theorem qN(xs:List Bool):(xs.map AV.b).map AV.fix=xs.map AV.b:=by simp[eT]
theorem mj(xs:List ByteArray):(xs.map AV.z).map AV.nrm=xs.map AV.z:=by simp[cP]
theorem mG(xs:List ByteArray):(xs.map AV.z).map AV.als=xs.map AV.z:=by simp[ec]
theorem ka(xs:List ByteArray):(xs.map AV.z).map AV.fix=xs.map AV.z:=by simp[eT]
theorem xx(xs:List Int):(xs.map AV.u8).map AV.nrm=xs.map AV.u8:=by simp[cP]
theorem BI:AV.als∘AV.i=AV.i:=by funext x;simp[ec]
theorem CE:AV.als∘AV.b=AV.b:=by funext x;simp[ec]
theorem Cs:AV.als∘AV.z=AV.z:=by funext x;simp[ec]
theorem xy(xs:List Int):(xs.map AV.u8).map AV.als=xs.map AV.u8:=by simp[ec]
theorem oq(xs:List Int):(xs.map AV.u8).map AV.fix=xs.map AV.u8:=by simp[eT]
theorem Mm{α:Type}(a:α):(some a).isSome=true:=rfl
theorem c_eq{α:Type}(a:α):(a=a)=True:=eq_self a
theorem SH(p:Prop):(True/\p)=p:=true_and p
theorem Ps(p:Prop):(p/\True)=p:=and_true p
theorem Mt(n:Nat)(xs:List AV):(∃es,some (Row.arr n xs)=some (Row.arr n es))=True:=by simp
theorem Ij(n:Nat)(xs:List AV):(∃w es,some (Row.arr n xs)=some (Row.arr w es))=True:=by simp
theorem Qt(p:Prop):(False->p)=True:=by simp
theorem RE(p:Prop):(True->p)=p:=by simp
theorem Nz{α:Type}(q:α->Prop):(∀p∈([]:List α),q p)=True:=by simp
theorem MZ{α:Type}(x:α)(l:List α)(q:α->Prop):(∀p∈x::l,q p)=(q x/\∀p∈l,q p):=by simp
theorem GQ:sub [] 0 0=[]:=rfl
theorem GO(n:Nat):0+n=n:=Nat.zero_add n
theorem GG(n:Nat):n+0=n:=Nat.add_zero n
theorem QG(n:Nat):n-0=n:=Nat.sub_zero n
theorem PZ(d:Nat):(d∈([]:List Nat))=False:=by simp
theorem QY(d x:Nat)(l:List Nat):(d∈x::l)=(d=x\/d∈l):=by simp
theorem SP(p:Prop):(p\/False)=p:=or_false p
theorem SO(p:Prop):(False\/p)=p:=false_or p
theorem Sd(p:Prop):(p\/True)=True:=or_true p
theorem Su(p:Prop):(True\/p)=True:=true_or p
theorem Po:(¬False)=True:=not_false_eq_true
theorem RZ:(¬True)=False:=not_true_eq_false
theorem SC(n:Nat):(n<=n)=True:=by simp
theorem Sq(n:Nat):(0<=n)=True:=by simp
theorem NH{α:Type}(f:α->AV)(l:List α):sub (l.map f) 0 l.length=l.map f:=by simp[sub]
theorem lC(h:Nat->Nat)(xs:List AV):rgL h xs=xs.map (AV.rg h):=by
 induction xs with
 |nil=>simp[rgL]
 |cons x xs ih=>simp[rgL,ih]
theorem OC(h:Nat->Nat)(v:Value):(AV.sc v).rg h=.sc v:=by simp[AV.rg]
theorem Fe(h:Nat->Nat)(f:Fl)(n:Nat)(xs:List AV):(AV.lst f n xs).rg h=.lst f n xs:=by simp[AV.rg]
theorem OI(h:Nat->Nat)(f:Fl)(n:Nat)(xs:List AV):(AV.tg f n xs).rg h=.tg f n xs:=by simp[AV.rg]
theorem OJ(h:Nat->Nat)(f:Fl)(x:AV)(off:Nat):(AV.bp f x off).rg h=.bp f x off:=by simp[AV.rg]
theorem Gg(h:Nat->Nat):AV.top.rg h=.top:=by simp[AV.rg]
theorem Km(h:Nat->Nat)(cs:List AV):(AV.agg cs).rg h=.agg (cs.map (AV.rg h)):=by simp[AV.rg,lC]
theorem Pf(h:Nat->Nat)(f:Nat)(cs:List AV):(AV.fn f cs).rg h=.fn f (cs.map (AV.rg h)):=by simp[AV.rg,lC]
theorem GL(h:Nat->Nat)(cs:List AV):(AV.tup cs).rg h=.tup (cs.map (AV.rg h)):=by simp[AV.rg,lC]
theorem Pg(h:Nat->Nat)(q i n:Nat):(AV.sl q i n).rg h=.sl (h q) i n:=by simp[AV.rg]
theorem Pj(h:Nat->Nat)(q i n:Nat):(AV.pt q i n).rg h=.pt (h q) i n:=by simp[AV.rg]
theorem yh(h:Nat->Nat)(x:AV):(Row.var x).rg h=.var (x.rg h):=rfl
theorem yH(h:Nat->Nat)(n:Nat)(xs:List AV):(Row.arr n xs).rg h=.arr n xs:=rfl
theorem te(h:Nat->Nat):Row.dead.rg h=.dead:=rfl
theorem sW(r x:Nat)(xs:List Nat):pos r (x::xs)=if x=r then 0 else pos r xs+1:=rfl
theorem GT(rs:List Nat)(r:Nat):cnm rs r=1000000000+pos r rs:=rfl
theorem De(d:Nat)(rs:List Nat)(q:Nat):bkn d rs q=if 1000000000<=q then rs.getD (q-1000000000) 0 else q+100000*(d+1):=rfl
theorem Fi(ρ:Nat->Option Row)(rs:List Nat)(r:Nat):gM ρ rs r=(cnm rs r,((ρ r).getD .dead).rg (cnm rs)):=rfl
theorem uJ(d:Nat)(rs:List Nat)(p:Nat×Row):fi d rs p=(bkn d rs p.1,p.2.rg (bkn d rs)):=rfl
theorem wS(x:AV):mz (some (.var x))=x.ments:=rfl
theorem xr(n:Nat)(xs:List AV):mz (some (.arr n xs))=[]:=rfl
theorem yK(x y:Nat)(l:List Nat):(x::l).getD 0 y=x:=rfl
theorem yC(x y:Nat)(l:List Nat)(n:Nat):(x::l).getD (n+1) y=l.getD n y:=by simp
theorem PY(r d:Nat)(v:Value):(AV.sc v).ren r d=.sc v:=by simp[AV.ren]
theorem NN(r d:Nat)(f:Fl)(n:Nat)(xs:List AV):(AV.lst f n xs).ren r d=.lst f n xs:=by simp[AV.ren]
theorem Rl(r d:Nat)(f:Fl)(n:Nat)(xs:List AV):(AV.tg f n xs).ren r d=.tg f n xs:=by simp[AV.ren]
theorem RN(r d:Nat)(f:Fl)(x:AV)(off:Nat):(AV.bp f x off).ren r d=.bp f x off:=by simp[AV.ren]
theorem Lu(r d:Nat):AV.top.ren r d=.top:=by simp[AV.ren]
theorem Ld(r d:Nat)(cs:List AV):(AV.agg cs).ren r d=.agg (cs.map (AV.ren r d)):=by simp[AV.ren,md]
theorem PK(r d f:Nat)(cs:List AV):(AV.fn f cs).ren r d=.fn f (cs.map (AV.ren r d)):=by simp[AV.ren,md]
theorem Ow(r d:Nat)(cs:List AV):(AV.tup cs).ren r d=.tup (cs.map (AV.ren r d)):=by simp[AV.ren,md]
theorem Qz(r d q i n:Nat):(AV.sl q i n).ren r d=.sl (if q=r then d else q) i n:=by simp[AV.ren]
theorem Qo(r d q i n:Nat):(AV.pt q i n).ren r d=.pt (if q=r then d else q) i n:=by simp[AV.ren]
theorem DI(ok:Oks)(Q:Ex->St->Prop)(σ:St):AWP ok .skip Q σ=Q .nrm σ:=by simp only[AWP]
theorem KX(ok:Oks)(Q:Ex->St->Prop)(σ:St)(ops:List aV)(can:List Can):AWP ok (.reg ops can) Q σ=dU ok ops (Kq Q can) σ:=by simp only[AWP]
theorem NS(ok:Oks)(Q:Ex->St->Prop)(σ:St)(ops:List aV)(can:List Can):AWP ok (.drw ops can) Q σ=dU ok ops (Kq Q can) σ:=by simp only[AWP]
theorem Lr(ok:Oks)(Q:Ex->St->Prop)(σ:St)(a b:aq):AWP ok (.seq a b) Q σ=AWP ok a (thn (AWP ok b Q) Q) σ:=by simp only[AWP]
def rI(ok:Oks)(v:AV)(a b:aq)(Q:Ex->St->Prop)(σ:St):Prop:=tst v (AWP ok a Q σ) (AWP ok b Q σ)
theorem JG(ok:Oks)(Q:Ex->St->Prop)(σ:St)(x:X)(a b:aq):AWP ok (.cond x a b) Q σ=rI ok (σ.gx x) a b Q σ:=by simp only[AWP,rI]
theorem QT(ok:Oks)(Q:Ex->St->Prop)(σ:St)(a b:aq):rI ok (.sc (.bool true)) a b Q σ=AWP ok a Q σ:=by simp[rI,tst]
theorem Pz(ok:Oks)(Q:Ex->St->Prop)(σ:St)(a b:aq):rI ok .ub a b Q σ=(AWP ok a Q σ/\AWP ok b Q σ):=by simp[rI,tst]
theorem QA(ok:Oks)(Q:Ex->St->Prop)(σ:St)(a b:aq):rI ok (.sc (.bool false)) a b Q σ=AWP ok b Q σ:=by simp[rI,tst]
theorem EX(ok:Oks)(Q:Ex->St->Prop)(σ:St)(x a:aq)(lv lr:List Nat)(b:aq):AWP ok (.seqa x a lv lr b) Q σ=AWP ok x (thn (AWP ok (.seqr a lv lr b) Q) Q) σ:=by simp only[AWP]
theorem FT(ok:Oks)(Q:Ex->St->Prop)(σ:St)(a:aq)(lv:List Nat)(b:aq):AWP ok (.seqb a lv b) Q σ=AWP ok a (thn (fun τ=>AWP ok b (rbQ Q) (τ.rb lv)) Q) σ:=by simp only[AWP]
theorem Sc(env:List (Nat×AV))(rows:List (Nat×Row))(lv:List Nat):St.rb ⟨env,rows⟩ lv=⟨lv.map fun k=>(k,snp (St.row ⟨env,rows⟩) 4 (St.get ⟨env,rows⟩ k)),[]⟩:=rfl
theorem RG(Q:Ex->St->Prop)(e:Ex)(env:List (Nat×AV))(rows:List (Nat×Row)):rbQ Q e ⟨env,rows⟩=Q e ⟨env.map fun p=>(p.1,p.2.scal),[]⟩:=rfl
theorem NV(v:Value):(AV.sc v).scal=.sc v:=rfl
theorem LQ(ok:Oks)(Q:Ex->St->Prop)(σ:St)(id:Nat)(a:aq):AWP ok (.blk id a) Q σ=AWP ok a (inb id Q) σ:=by simp only[AWP]
theorem Hk(ok:Oks)(Q:Ex->St->Prop)(σ:St)(id:Nat):AWP ok (.exit id) Q σ=Q (.ex id) σ:=by simp only[AWP]
theorem KO(ok:Oks)(Q:Ex->St->Prop)(σ:St):AWP ok .ret Q σ=Q .ret σ:=by simp only[AWP]
theorem NG(K:St->Prop)(Q:Ex->St->Prop)(σ:St):thn K Q .nrm σ=K σ:=rfl
theorem Py(K:St->Prop)(Q:Ex->St->Prop)(i:Nat)(σ:St):thn K Q (.ex i) σ=Q (.ex i) σ:=rfl
theorem Le(K:St->Prop)(Q:Ex->St->Prop)(σ:St):thn K Q .ret σ=Q .ret σ:=rfl
theorem Md(i:Nat)(Q:Ex->St->Prop)(σ:St):inb i Q .nrm σ=Q .nrm σ:=rfl
theorem Rf(i j:Nat)(Q:Ex->St->Prop)(σ:St):inb i Q (.ex j) σ=if j=i then Q .nrm σ else Q (.ex j) σ:=rfl
theorem LT(i:Nat)(Q:Ex->St->Prop)(σ:St):inb i Q .ret σ=Q .ret σ:=rfl
theorem RD(ok:Oks)(g:X->AV)(ρ:Nat->Option Row)(d:Nat)(K:AV->List (Nat×Row)->Prop)(x:X):eff ok g ρ d (.mv x) K=K (g x) []:=rfl
theorem HM(ok:Oks)(g:X->AV)(ρ:Nat->Option Row)(d:Nat)(K:AV->List (Nat×Row)->Prop)(c a b:X):eff ok g ρ d (.pick c a b) K=ku K (g c) (g a) (g b):=rfl
theorem KC(K:AV->List (Nat×Row)->Prop)(a b:AV):ku K (.sc (.bool true)) a b=K a []:=by simp[ku]
theorem LX(K:AV->List (Nat×Row)->Prop)(a b:AV):ku K (.sc (.bool false)) a b=K b []:=by simp[ku]
theorem AZ(ok:Oks)(g:X->AV)(ρ:Nat->Option Row)(d:Nat)(K:AV->List (Nat×Row)->Prop)(z:AV):eff ok g ρ d (.alloc z) K=(ρ d=none/\K (.pt d 0 0) [(d,.var z)]):=rfl
theorem Lp(ok:Oks)(g:X->AV)(ρ:Nat->Option Row)(d:Nat)(K:AV->List (Nat×Row)->Prop)(n:Nat)(x:X):eff ok g ρ d (.box n x) K=(ρ d=none/\(g x).width=n/\K (.pt d 0 0) [(d,.var (g x))]):=rfl
theorem CL(ok:Oks)(g:X->AV)(ρ:Nat->Option Row)(d:Nat)(K:AV->List (Nat×Row)->Prop)(z:List AV)(ps:List (Nat×Nat×X)):eff ok g ρ d (.build z ps) K=
 ((∀p∈ps,(g p.2.2).width=p.2.1/\p.1+p.2.1<=z.length)/\K (.agg (kH z (ps.map fun p=>(p.1,g p.2.2)))) []):=rfl
theorem Mg(ok:Oks)(g:X->AV)(ρ:Nat->Option Row)(d:Nat)(K:AV->List (Nat×Row)->Prop)(n:Nat)(fr:Bool)(ps:List X):eff ok g ρ d (.bsl n fr ps) K=((fr=true->aF (ps.map g)=[])/\ρ d=none/\(∀p∈ps,(g p).width=n)/\(aF (ps.map g)).Nodup/\
 K (.sl d 0 ps.length) (bX (aF (ps.map g))++[(d,.arr n ((ps.map g).map (lift ρ 2)))])):=rfl
theorem vk(x:AV):cD (some (.var x))=True:=rfl
theorem wU(n:Nat)(x:List AV):cD (some (.arr n x))=True:=rfl
theorem yf(rs:List Nat):bX rs=rs.map fun r=>(r,.dead):=rfl
theorem Sl(K:AV->List (Nat×Row)->Prop)(v:AV):k1 K v=K v []:=rfl
theorem Ih(ok:Oks)(g:X->AV)(ρ:Nat->Option Row)(d:Nat)(K:AV->List (Nat×Row)->Prop)(n:Nat)(ag:Bool)(x:X):eff ok g ρ d (.load n ag x) K=du K ρ n ag (g x):=rfl
theorem Gy(ρ:Nat->Option Row)(K:AV->List (Nat×Row)->Prop)(n:Nat)(ag:Bool)(f:Fl)(y:AV)(off:Nat):du K ρ n ag (.bp f y off)=opt (fO y off n ag) (k1 K):=rfl
theorem CO(ρ:Nat->Option Row)(K:AV->List (Nat×Row)->Prop)(n:Nat)(ag:Bool)(r i off:Nat):du K ρ n ag (.pt r i off)=dy K (ρ r) i off n ag:=rfl
theorem ui(K:AV->List (Nat×Row)->Prop)(y:AV)(i off n:Nat)(ag:Bool):dy K (some (.var y)) i off n ag=(i=0/\opt (fO y off n ag) (k1 K)):=rfl
theorem sR(K:AV->List (Nat×Row)->Prop)(w:Nat)(es:List AV)(i off n:Nat)(ag:Bool):dy K (some (.arr w es)) i off n ag=opt es[i]? (Dz K off n ag):=rfl
theorem DK(K:AV->List (Nat×Row)->Prop)(off n:Nat)(ag:Bool)(y:AV):Dz K off n ag y=opt (fO y.als off n ag) (k1 K):=rfl
theorem zM(ok:Oks)(g:X->AV)(ρ:Nat->Option Row)(d:Nat)(K:AV->List (Nat×Row)->Prop)(n:Nat)(x v:X):eff ok g ρ d (.store n x v) K=cO K ρ n (g x) (g v):=rfl
theorem Bl(ρ:Nat->Option Row)(K:AV->List (Nat×Row)->Prop)(n r i off:Nat)(v:AV):cO K ρ n (.pt r i off) v=(v.width=n/\cU K ρ (ρ r) r i off v):=rfl
theorem rR(ρ:Nat->Option Row)(K:AV->List (Nat×Row)->Prop)(y:AV)(r i off:Nat)(v:AV):cU K ρ (some (.var y)) r i off v=(i=0/\opt (setPart y off v) (EM K r)):=rfl
theorem EW(K:AV->List (Nat×Row)->Prop)(r:Nat)(y:AV):EM K r y=K .top [(r,.var y)]:=rfl
theorem sA(ρ:Nat->Option Row)(K:AV->List (Nat×Row)->Prop)(w:Nat)(es:List AV)(r i off:Nat)(v:AV):cU K ρ (some (.arr w es)) r i off v=opt es[i]? (oY K ρ r w i off es v):=rfl
theorem DV(ρ:Nat->Option Row)(K:AV->List (Nat×Row)->Prop)(w:Nat)(es:List AV)(r i off:Nat)(v y:AV):oY K ρ r w i off es v y=
 (r∉v.ments/\v.ments.Nodup/\(lift ρ 2 v).width=v.width/\opt (setPart y off (lift ρ 2 v)) (vo K (bX v.ments) r w i es)):=rfl
theorem CC(K:AV->List (Nat×Row)->Prop)(u:List (Nat×Row))(r w i:Nat)(es:List AV)(y:AV):vo K u r w i es y=K .top (u++[(r,.arr w (es.set i y))]):=rfl
theorem LU(ok:Oks)(g:X->AV)(ρ:Nat->Option Row)(d:Nat)(K:AV->List (Nat×Row)->Prop)(n:Nat)(ps:List X):eff ok g ρ d (.bsm n ps) K=((∀r∈aF (ps.map g),wt (ρ r))/\ρ d=none/\(∀p∈ps,(g p).width=n)/\(aF (ps.map g)).Nodup/\
 K (.sl d 0 ps.length) (bX (aF (ps.map g))++[(d,.arr n ((ps.map g).map (lift ρ 2)))])):=rfl
theorem Oo(ok:Oks)(g:X->AV)(ρ:Nat->Option Row)(d:Nat)(K:AV->List (Nat×Row)->Prop)(n:Nat)(x v:X):eff ok g ρ d (.stv n x v) K=(vPv ρ (g x)/\cO K ρ n (g x) (g v)):=rfl
theorem KL(ok:Oks)(g:X->AV)(ρ:Nat->Option Row)(d:Nat)(K:AV->List (Nat×Row)->Prop)(n:Nat)(ag:Bool)(x:X):eff ok g ρ d (.lda n ag x) K=(aPb ρ (g x)/\du K ρ n ag (g x)):=rfl
theorem KB(ok:Oks)(g:X->AV)(ρ:Nat->Option Row)(d:Nat)(K:AV->List (Nat×Row)->Prop)(av:List Nat)(off:Nat)(x:X):eff ok g ρ d (.fdv av off x) K=(vPt av ρ (g x)/\jz K ρ off (g x)):=rfl
theorem QH(ρ:Nat->Option Row)(r i off:Nat):aPb ρ (.pt r i off)=wt (ρ r):=rfl
theorem QO(ρ:Nat->Option Row)(f:Fl)(y:AV)(off:Nat):aPb ρ (.bp f y off)=True:=rfl
theorem Qk(ρ:Nat->Option Row)(r i off:Nat):vPv ρ (.pt r i off)=wT (ρ r):=rfl
theorem Nk(ok:Oks)(g:X->AV)(ρ:Nat->Option Row)(d:Nat)(K:AV->List (Nat×Row)->Prop)(av:List Nat)(n:Nat)(ag:Bool)(x:X):eff ok g ρ d (.ldv av n ag x) K=(vPt av ρ (g x)/\du K ρ n ag (g x)):=rfl
theorem LA(ok:Oks)(g:X->AV)(ρ:Nat->Option Row)(d:Nat)(K:AV->List (Nat×Row)->Prop)(n:Nat)(x v:X):eff ok g ρ d (.str n x v) K=(aPt ρ (g x)/\(g v).ments=[]/\cO K ρ n (g x) (g v)):=rfl
theorem LL(ok:Oks)(g:X->AV)(ρ:Nat->Option Row)(d:Nat)(K:AV->List (Nat×Row)->Prop)(av:List Nat)(n:Nat)(ag:Bool)(x:X):eff ok g ρ d (.lde av n ag x) K=(lPt av (g x)/\du K ρ n ag (g x)):=rfl
theorem Qf(ρ:Nat->Option Row)(av:List Nat)(r i off:Nat):vPt av ρ (.pt r i off)=(r∉av/\wT (ρ r)):=rfl
theorem QI(ρ:Nat->Option Row)(av:List Nat)(f:Fl)(y:AV)(off:Nat):vPt av ρ (.bp f y off)=True:=rfl
theorem PB(ρ:Nat->Option Row)(r i off:Nat):aPt ρ (.pt r i off)=wt (ρ r):=rfl
theorem Gh(x:AV):wT (some (.var x))=True:=rfl
theorem EY(n:Nat)(x:List AV):wt (some (.arr n x))=True:=rfl
theorem Ny(ok:Oks)(g:X->AV)(ρ:Nat->Option Row)(d:Nat)(K:AV->List (Nat×Row)->Prop)(op:BinOp)(x y:X):eff ok g ρ d (.bin op x y) K=cV op (g x) (g y) (k1 K):=rfl
theorem NM(ok:Oks)(g:X->AV)(ρ:Nat->Option Row)(d:Nat)(K:AV->List (Nat×Row)->Prop)(neg:Bool)(x y:X):eff ok g ρ d (.beq neg x y) K=tZ K neg (g x) (g y):=rfl
theorem Rr(K:AV->List (Nat×Row)->Prop)(a b:Bool):tZ K false (.sc (.bool a)) (.sc (.bool b))=K (.sc (.bool (a==b))) []:=rfl
theorem Qi(K:AV->List (Nat×Row)->Prop)(a b:Bool):tZ K true (.sc (.bool a)) (.sc (.bool b))=K (.sc (.bool (!(a==b)))) []:=rfl
theorem Qn(K:AV->List (Nat×Row)->Prop)(a b c e:Int):IV K false (.agg [.sc (.int .i64 a),.sc (.int .i64 b)]) (.agg [.sc (.int .i64 c),.sc (.int .i64 e)])=K (.sc (.bool (a==c&&b==e))) []:=rfl
theorem RX(K:AV->List (Nat×Row)->Prop)(a b c e:Int):IV K true (.agg [.sc (.int .i64 a),.sc (.int .i64 b)]) (.agg [.sc (.int .i64 c),.sc (.int .i64 e)])=K (.sc (.bool (!(a==c&&b==e)))) []:=rfl
theorem QX(ok:Oks)(g:X->AV)(ρ:Nat->Option Row)(d:Nat)(K:AV->List (Nat×Row)->Prop)(op:UnOp)(x:X):eff ok g ρ d (.un op x) K=unV op (g x) (k1 K):=rfl
theorem CU(ok:Oks)(g:X->AV)(ρ:Nat->Option Row)(d:Nat)(K:AV->List (Nat×Row)->Prop)(q:IntKind)(x:X):eff ok g ρ d (.conv q x) K=oz K q (g x):=rfl
theorem NJ(K:AV->List (Nat×Row)->Prop)(q q':IntKind)(n:Int):oz K q (.sc (.int q' n))=K (.sc (.int q (q.wrap n))) []:=rfl
theorem MD(ok:Oks)(g:X->AV)(ρ:Nat->Option Row)(d:Nat)(K:AV->List (Nat×Row)->Prop)(f:Nat)(cs:List X):eff ok g ρ d (.mkf f cs) K=K (.fn f (cs.map g)) []:=rfl
theorem Mj(ok:Oks)(g:X->AV)(ρ:Nat->Option Row)(d:Nat)(K:AV->List (Nat×Row)->Prop)(n:Nat)(z:AV)(bytes:Nat)(l c:X):eff ok g ρ d (.mks n z bytes l c) K=qC K (ρ d) d n z bytes (g l) (g c):=rfl
theorem PH(d:Nat)(K:AV->List (Nat×Row)->Prop)(o:Option Row)(n:Nat)(z:AV)(bytes:Nat)(l c:Int):qC K o d n z bytes (.sc (.int .i64 l)) (.sc (.int .i64 c))=
 (o=none/\z.width=n/\0<=l/\l<=c/\c*bytes<=140737488355328/\c<=9223372036854775807/\K (.sl d 0 l.toNat) [(d,.arr n (List.replicate l.toNat z))]):=rfl
theorem Mz(ok:Oks)(g:X->AV)(ρ:Nat->Option Row)(d:Nat)(K:AV->List (Nat×Row)->Prop)(n:Nat)(x:X)(lo hi mx:Option X):eff ok g ρ d (.slc n x lo hi mx) K=pH K ρ n (g x) (lo.map g) (hi.map g) (mx.map g):=rfl
theorem Gj(ρ:Nat->Option Row)(K:AV->List (Nat×Row)->Prop)(f:Fl)(n w:Nat)(xs:List AV)(lo hi:Option AV):pH K ρ n (.lst f w xs) lo hi none=
 (w=n/\bOk lo/\bOk hi/\bV lo 0<=bV hi xs.length/\bV hi xs.length<=xs.length/\K (.lst f n (sub xs (bV lo 0) (bV hi xs.length-bV lo 0))) []):=rfl
theorem Bb(ρ:Nat->Option Row)(K:AV->List (Nat×Row)->Prop)(f:Fl)(n w:Nat)(xs:List AV)(lo hi:Option AV)(m:AV):pH K ρ n (.lst f w xs) lo hi (some m)=
 (w=n/\bOk lo/\bOk hi/\bV lo 0<=bV hi xs.length/\bV hi xs.length<=xs.length/\hi.isSome/\bOk (some m)/\bV (some m) 0=bV hi xs.length/\K (.tg f n (sub xs (bV lo 0) (bV hi xs.length-bV lo 0))) []):=rfl
theorem Mx(ρ:Nat->Option Row)(K:AV->List (Nat×Row)->Prop)(n r i m:Nat)(lo hi mx:Option AV):pH K ρ n (.sl r i m) lo hi mx=
 ((∃es,ρ r=some (.arr n es))/\bOk lo/\bOk hi/\bV lo 0<=bV hi m/\bV hi m<=m/\mx=none/\K (.sl r (i+bV lo 0) (bV hi m-bV lo 0)) []):=rfl
theorem Qv(K:AV->List (Nat×Row)->Prop)(s:ByteArray)(lo hi:Option AV):Nv K (.sc (.string s)) lo hi=
 (bOk lo/\bOk hi/\bV lo 0<=bV hi s.size/\bV hi s.size<=s.size/\K (.sc (.string (s.extract (bV lo 0) (bV hi s.size)))) []):=rfl
theorem CN:bOk none=True:=rfl
theorem SB(q:IntKind)(j:Int):bOk (some (.sc (.int q j)))=(0<=j):=rfl
theorem LD(n:Nat):bV none n=n:=rfl
theorem bV_i(n:Nat)(q:IntKind)(j:Int):bV (some (.sc (.int q j))) n=j.toNat:=rfl
theorem KD(ok:Oks)(g:X->AV)(ρ:Nat->Option Row)(d:Nat)(K:AV->List (Nat×Row)->Prop)(off:Nat)(x:X):eff ok g ρ d (.fad off x) K=jz K ρ off (g x):=rfl
theorem LN(ρ:Nat->Option Row)(K:AV->List (Nat×Row)->Prop)(off o:Nat)(f:Fl)(y:AV):jz K ρ off (.bp f y o)=K (.bp f y (o+off)) []:=rfl
theorem NF(ρ:Nat->Option Row)(K:AV->List (Nat×Row)->Prop)(off r i o:Nat):jz K ρ off (.pt r i o)=(cD (ρ r)/\K (.pt r i (o+off)) []):=rfl
theorem Nf(ok:Oks)(g:X->AV)(ρ:Nat->Option Row)(d:Nat)(K:AV->List (Nat×Row)->Prop)(n:Nat)(x i:X):eff ok g ρ d (.idx n x i) K=iw K ρ n (g x) (g i):=rfl
theorem KK(ok:Oks)(g:X->AV)(ρ:Nat->Option Row)(d:Nat)(K:AV->List (Nat×Row)->Prop)(av:List Nat)(n:Nat)(x i:X):eff ok g ρ d (.idv av n x i) K=(iPt av (g x)/\iw K ρ n (g x) (g i)):=rfl
theorem PO(av:List Nat)(r i n:Nat):iPt av (.sl r i n)=(r∉av):=rfl
theorem NW(av:List Nat)(f:Fl)(n:Nat)(xs:List AV):iPt av (.lst f n xs)=True:=rfl
theorem Rz(av:List Nat)(r i off:Nat):lPt av (.pt r i off)=(r∉av):=rfl
theorem QF(av:List Nat)(f:Fl)(y:AV)(off:Nat):lPt av (.bp f y off)=True:=rfl
theorem NP(ok:Oks)(g:X->AV)(ρ:Nat->Option Row)(d:Nat)(K:AV->List (Nat×Row)->Prop)(av:List Nat)(x:X):eff ok g ρ d (.lnv av x) K=(iPt av (g x)/\jf K ρ (g x)):=rfl
theorem LF(ok:Oks)(g:X->AV)(ρ:Nat->Option Row)(d:Nat)(K:AV->List (Nat×Row)->Prop)(r n:Nat)(x v:X):eff ok g ρ d (.stw r n x v) K=(wPt r ρ (g x)/\cO K ρ n (g x) (g v)):=rfl
theorem QD(ρ:Nat->Option Row)(r q i off:Nat):wPt r ρ (.pt q i off)=(q=r/\wT (ρ q)):=rfl
theorem Gc(ρ:Nat->Option Row)(K:AV->List (Nat×Row)->Prop)(n w:Nat)(f:Fl)(xs:List AV)(q:IntKind)(j:Int):iw K ρ n (.lst f w xs) (.sc (.int q j))=(w=n/\0<=j/\opt xs[j.toNat]? (QW K f.als)):=rfl
theorem Ng(K:AV->List (Nat×Row)->Prop)(f:Fl)(y:AV):QW K f y=K (.bp f y 0) []:=rfl
theorem Ss:Fl.als .o=.o:=rfl
theorem SN:Fl.als .s=.s:=rfl
theorem Si:Fl.als .m=.m:=rfl
theorem SJ:Fl.als .u=.m:=rfl
theorem Ov(ρ:Nat->Option Row)(K:AV->List (Nat×Row)->Prop)(n r a m:Nat)(q:IntKind)(j:Int):iw K ρ n (.sl r a m) (.sc (.int q j))=((∃es,ρ r=some (.arr n es))/\0<=j/\j<m/\K (.pt r (a+j.toNat) 0) []):=rfl
theorem LP(ok:Oks)(g:X->AV)(ρ:Nat->Option Row)(d:Nat)(K:AV->List (Nat×Row)->Prop)(off n:Nat)(ag:Bool)(x:X):eff ok g ρ d (.fld off n ag x) K=zy K off n ag (g x):=rfl
theorem Fu(K:AV->List (Nat×Row)->Prop)(off n:Nat)(ag:Bool)(cs:List AV):zy K off n ag (.agg cs)=opt (fO (.agg cs) off n ag) (k1 K):=by simp[zy,AV.isAgg]
theorem Ju(ok:Oks)(g:X->AV)(ρ:Nat->Option Row)(d:Nat)(K:AV->List (Nat×Row)->Prop)(x i:X):eff ok g ρ d (.stri x i) K=ov K (g x) (g i):=rfl
theorem KM(K:AV->List (Nat×Row)->Prop)(s:ByteArray)(q:IntKind)(j:Int):ov K (.sc (.string s)) (.sc (.int q j))=(0<=j/\opt s[j.toNat]? (Pu K)):=rfl
theorem Nm(K:AV->List (Nat×Row)->Prop)(c:UInt8):Pu K c=K (.sc (.int .u8 c.toNat)) []:=rfl
theorem KS(ok:Oks)(g:X->AV)(ρ:Nat->Option Row)(d:Nat)(K:AV->List (Nat×Row)->Prop)(x:X)(j:Nat):eff ok g ρ d (.ext x j) K=xp K (g x) j:=rfl
theorem IC(K:AV->List (Nat×Row)->Prop)(vs:List AV)(j:Nat):xp K (.tup vs) j=opt vs[j]? (k1 K):=rfl
theorem GN(ok:Oks)(g:X->AV)(ρ:Nat->Option Row)(d:Nat)(K:AV->List (Nat×Row)->Prop)(f:Nat)(xs:List X):eff ok g ρ d (.call f xs) K=fS ok ρ d f (xs.map g) K:=rfl
theorem Oh(ok:Oks)(g:X->AV)(ρ:Nat->Option Row)(d:Nat)(K:AV->List (Nat×Row)->Prop)(x:X)(xs:List X):eff ok g ρ d (.dyn x xs) K=tq ok ρ d (g x) (xs.map g) K:=rfl
theorem An(ok:Oks)(g:X->AV)(ρ:Nat->Option Row)(d:Nat)(K:AV->List (Nat×Row)->Prop)(f:Nat)(xs:List X)(rs:List Nat):eff ok g ρ d (.callM f xs rs) K=callM ok ρ d f (xs.map g) rs K:=rfl
theorem FR(ok:Oks)(g:X->AV)(ρ:Nat->Option Row)(d:Nat)(K:AV->List (Nat×Row)->Prop)(x:X)(xs:List X)(rs:List Nat):eff ok g ρ d (.dynM x xs rs) K=pp ok ρ d (g x) (xs.map g) rs K:=rfl
theorem JV(ok:Oks)(ρ:Nat->Option Row)(d:Nat)(K:AV->List (Nat×Row)->Prop)(f:Nat)(cs xs:List AV)(rs:List Nat):pp ok ρ d (.fn f cs) xs rs K=callM ok ρ d f (xs++cs) rs K:=rfl
theorem NX(ok:Oks)(ρ:Nat->Option Row)(d:Nat)(K:AV->List (Nat×Row)->Prop)(f:Nat)(cs xs:List AV):tq ok ρ d (.fn f cs) xs K=fS ok ρ d f (xs++cs) K:=rfl
theorem Lm(ok:Oks)(g:X->AV)(ρ:Nat->Option Row)(d:Nat)(K:AV->List (Nat×Row)->Prop)(x:X):eff ok g ρ d (.len x) K=jf K ρ (g x):=rfl
theorem Ks(ρ:Nat->Option Row)(K:AV->List (Nat×Row)->Prop)(f:Fl)(n:Nat)(xs:List AV):jf K ρ (.lst f n xs)=K (.sc (.int .i64 xs.length)) []:=rfl
theorem Lb(ρ:Nat->Option Row)(K:AV->List (Nat×Row)->Prop)(f:Fl)(n:Nat)(xs:List AV):jf K ρ (.tg f n xs)=K (.sc (.int .i64 xs.length)) []:=rfl
theorem Nd(ρ:Nat->Option Row)(K:AV->List (Nat×Row)->Prop)(r i n:Nat):jf K ρ (.sl r i n)=((∃w es,ρ r=some (.arr w es))/\K (.sc (.int .i64 n)) []):=rfl
theorem DD(ok:Oks)(g:X->AV)(ρ:Nat->Option Row)(d:Nat)(K:AV->List (Nat×Row)->Prop)(x:X):eff ok g ρ d (.lenz x) K=pO K (g x):=rfl
theorem EK(ok:Oks)(g:X->AV)(ρ:Nat->Option Row)(d:Nat)(K:AV->List (Nat×Row)->Prop)(x:X):eff ok g ρ d (.capn x) K=pR K (g x):=rfl
theorem MU(K:AV->List (Nat×Row)->Prop)(n:Nat):pR K (.lst .u n [])=K (.i 0) []:=rfl
theorem NA(ok:Oks)(g:X->AV)(ρ:Nat->Option Row)(d:Nat)(K:AV->List (Nat×Row)->Prop)(n:Nat)(x hi:X):eff ok g ρ d (.slg n x hi) K=wR K n (g x) (g hi):=rfl
theorem Qm(K:AV->List (Nat×Row)->Prop)(n w:Nat)(k:IntKind)(h:Int):wR K n (.lst .u w []) (.sc (.int k h))=(w=n/\h=0/\K (.lst .u n []) []):=rfl
theorem MG(ok:Oks)(g:X->AV)(ρ:Nat->Option Row)(d:Nat)(K:AV->List (Nat×Row)->Prop)(n:Nat)(z:AV)(bytes:Nat)(x l:X):eff ok g ρ d (.apz n z bytes x l) K=zp K (ρ d) d n z bytes (g x) (g l):=rfl
theorem Rv(K:AV->List (Nat×Row)->Prop)(o:Option Row)(d n w:Nat)(z:AV)(bytes:Nat)(l:Int):zp K o d n z bytes (.lst .u w []) (.sc (.int .i64 l))=(o=none/\w=n/\z.width=n/\n=1/\0<l/\l*bytes<=140737488355328/\K (.sl d 0 l.toNat) [(d,.arr n (List.replicate l.toNat z))]):=rfl
theorem Lc(K:AV->List (Nat×Row)->Prop)(s:ByteArray):pO K (.sc (.string s))=K (.sc (.int .i64 s.size)) []:=rfl
theorem Mf(ok:Oks)(g:X->AV)(ρ:Nat->Option Row)(d:Nat)(K:AV->List (Nat×Row)->Prop)(x:X):eff ok g ρ d (.b2s x) K=wM K ρ (g x):=rfl
theorem Kh(ρ:Nat->Option Row)(K:AV->List (Nat×Row)->Prop)(f:Fl)(n:Nat)(xs:List AV):wM K ρ (.lst f n xs)=(n=1/\opt (u8s xs) (JR K)):=rfl
theorem KV(ρ:Nat->Option Row)(K:AV->List (Nat×Row)->Prop)(r i n:Nat):wM K ρ (.sl r i n)=tH K (ρ r) i n:=rfl
theorem zn(K:AV->List (Nat×Row)->Prop)(w:Nat)(es:List AV)(i m:Nat):tH K (some (.arr w es)) i m=(w=1/\opt (u8s (sub es i m)) (JR K)):=rfl
theorem LO(K:AV->List (Nat×Row)->Prop)(ns:List Int):JR K ns=K (.sc (.string (b2s ns))) []:=rfl
theorem ML(ok:Oks)(g:X->AV)(ρ:Nat->Option Row)(d:Nat)(K:AV->List (Nat×Row)->Prop)(neg:Bool)(x:X):eff ok g ρ d (.isn neg x) K=tU K ρ neg (g x):=rfl
theorem Kc(ρ:Nat->Option Row)(K:AV->List (Nat×Row)->Prop)(neg:Bool)(f:Fl)(n:Nat)(xs:List AV):tU K ρ neg (.lst f n xs)=qw K neg xs.isEmpty:=rfl
theorem KY(ρ:Nat->Option Row)(K:AV->List (Nat×Row)->Prop)(neg:Bool)(f:Fl)(n:Nat)(xs:List AV):tU K ρ neg (.tg f n xs)=qw K neg xs.isEmpty:=rfl
theorem MA(ρ:Nat->Option Row)(K:AV->List (Nat×Row)->Prop)(neg:Bool)(r i n:Nat):tU K ρ neg (.sl r i n)=((∃w es,ρ r=some (.arr w es))/\qw K neg (n==0)):=rfl
theorem Ns(K:AV->List (Nat×Row)->Prop)(neg e:Bool):qw K neg e=K (cond e .ub (.sc (.bool neg))) []:=rfl
theorem Qa(x:AV):cond true AV.ub x=AV.ub:=rfl
theorem Ru(x:AV):cond false AV.ub x=x:=rfl
theorem Az{α β:Type}(f:α->β)(xs:List α):(xs.map f).isEmpty=xs.isEmpty:=List.isEmpty_map
theorem ND(ρ:Nat->Option Row)(K:AV->List (Nat×Row)->Prop)(n r i m:Nat)(y:AV):PC K ρ n (.sl r i m) y=opt (dC n ρ y) (MQ K (ρ r) r n i m):=rfl
theorem Jl(K:AV->List (Nat×Row)->Prop)(w n r i m:Nat)(es ys:List AV):MQ K (some (.arr w es)) r n i m ys=(w=n/\i+m+ys.length<=es.length/\K (.sl r i (m+ys.length)) [(r,.arr w (dA es (i+m) ys))]):=rfl
theorem Oi(ρ:Nat->Option Row)(K:AV->List (Nat×Row)->Prop)(n r i m:Nat)(lo hi mx:AV):Qb K ρ n (.sl r i m) lo hi mx=yP K (ρ r) n m lo hi mx:=rfl
theorem AW(K:AV->List (Nat×Row)->Prop)(w n m:Nat)(es:List AV)(k1 k2 k3:IntKind)(l h q:Int):yP K (some (.arr w es)) n m (.sc (.int k1 l)) (.sc (.int k2 h)) (.sc (.int k3 q))=(w=n/\0<=l/\l<=h/\h<=q/\q<=(m:Int)/\K .top []):=rfl
theorem LC(ρ:Nat->Option Row)(K:AV->List (Nat×Row)->Prop)(n r i m:Nat)(lo hi:Option AV):IQ K ρ n (.sl r i m) lo hi=uA K (ρ r) r n i m lo hi:=rfl
theorem Bt(K:AV->List (Nat×Row)->Prop)(w n r i m:Nat)(es:List AV)(lo hi:Option AV):uA K (some (.arr w es)) r n i m lo hi=
 (w=n/\bOk lo/\bOk hi/\bV lo 0<=bV hi m/\i+bV hi m<=es.length/\K (.sl r (i+bV lo 0) (bV hi m-bV lo 0)) []):=rfl
theorem LZ(ok:Oks)(g:X->AV)(ρ:Nat->Option Row)(d:Nat)(K:AV->List (Nat×Row)->Prop)(n:Nat)(z:AV)(x:X):eff ok g ρ d (.clr n z x) K=Af K ρ n z (g x):=rfl
theorem ME(ρ:Nat->Option Row)(K:AV->List (Nat×Row)->Prop)(n r i m:Nat)(z:AV):Af K ρ n z (.sl r i m)=sK K (ρ r) r n z i m:=rfl
theorem zJ(K:AV->List (Nat×Row)->Prop)(w n r i m:Nat)(es:List AV)(z:AV):sK K (some (.arr w es)) r n z i m=(w=n/\z.width=n/\K (.tup []) [(r,.arr w (dA es i (List.replicate m z)))]):=rfl
theorem Nl(ok:Oks)(g:X->AV)(ρ:Nat->Option Row)(d:Nat)(K:AV->List (Nat×Row)->Prop)(n:Nat)(x y:X):eff ok g ρ d (.cpy n x y) K=BK K ρ n (g x) (g y):=rfl
theorem MO(ρ:Nat->Option Row)(K:AV->List (Nat×Row)->Prop)(n r i m:Nat)(y:AV):BK K ρ n (.sl r i m) y=opt (dC n ρ y) (uv K (ρ r) r n i m):=rfl
theorem Co(K:AV->List (Nat×Row)->Prop)(w n r i m:Nat)(es ys:List AV):uv K (some (.arr w es)) r n i m ys=(w=n/\K (.sc (.int .i64 (min ys.length m:Nat))) [(r,.arr w (dA es i (ys.take (min ys.length m))))]):=rfl
theorem Nq(ok:Oks)(g:X->AV)(ρ:Nat->Option Row)(d:Nat)(K:AV->List (Nat×Row)->Prop)(n bytes:Nat)(mv:Bool)(x y:X):eff ok g ρ d (.app n bytes mv x y) K=rX K ρ d n bytes mv (g x) (g y):=rfl
theorem Lk(ρ:Nat->Option Row)(d:Nat)(K:AV->List (Nat×Row)->Prop)(n bytes:Nat)(mv:Bool)(r i m:Nat)(y:AV):rX K ρ d n bytes mv (.sl r i m) y=(ρ d=none/\opt (lB ρ n mv y) (pi K (ρ r) d n bytes r i m)):=rfl
theorem Nu(ρ:Nat->Option Row)(d:Nat)(K:AV->List (Nat×Row)->Prop)(n bytes:Nat)(mv:Bool)(f:Fl)(w:Nat)(es:List AV)(y:AV):rX K ρ d n bytes mv (.tg f w es) y=(ρ d=none/\opt (lB ρ n mv y) (uI K d n bytes w es)):=rfl
theorem Em(d:Nat)(K:AV->List (Nat×Row)->Prop)(n bytes w:Nat)(es ys:List AV)(u:List (Nat×Row)):uI K d n bytes w es (ys,u)=
 (w=n/\0<ys.length/\(es.length+ys.length)*bytes<=140737488355328/\K (.sl d 0 (es.length+ys.length)) (u++[(d,.arr n (es.map AV.als++ys))])):=by simp[uI,ig]
theorem Na(ρ:Nat->Option Row)(n r m:Nat):lB ρ n true (.sl r 0 m)=tf n r m (ρ r):=rfl
theorem Bi(n m r w:Nat)(ys:List AV):tf n r m (some (.arr w ys))=if w=n/\m=ys.length then some (ys,[(r,.dead)]) else none:=rfl
theorem NL(ρ:Nat->Option Row)(n:Nat)(y:AV):lB ρ n false y=kI (dC n ρ y):=rfl
theorem wK(ys:List AV):kI (some ys)=some (ys,[]):=rfl
theorem AA(ρ:Nat->Option Row)(n w:Nat)(f:Fl)(xs:List AV):dC n ρ (.lst f w xs)=if w=n then some xs else none:=rfl
theorem Gb(ρ:Nat->Option Row)(n w:Nat)(f:Fl)(xs:List AV):dC n ρ (.tg f w xs)=if w=n then some xs else none:=rfl
theorem HY(ρ:Nat->Option Row)(n r i k:Nat):dC n ρ (.sl r i k)=lk n (ρ r) i k:=rfl
theorem sT(n w i k:Nat)(es:List AV):lk n (some (.arr w es)) i k=if w=n then some ((sub es i k).map AV.als) else none:=by simp[lk,ig]
theorem AD(d:Nat)(K:AV->List (Nat×Row)->Prop)(n bytes r i m w:Nat)(es ys:List AV)(u:List (Nat×Row)):pi K (some (.arr w es)) d n bytes r i m (ys,u)=
 (w=n/\r∉u.map (·.1)/\(m+ys.length)*bytes<=140737488355328/\K (.sl d 0 (m+ys.length)) ((r,.dead)::u++[(d,.arr n (sub es i m++ys))])):=rfl
theorem Fa(ok:Oks)(g:X->AV)(ρ:Nat->Option Row)(d:Nat)(K:AV->List (Nat×Row)->Prop)(x:X):eff ok g ρ d (.nilc x) K=qg K ρ (g x):=rfl
theorem MJ(ρ:Nat->Option Row)(K:AV->List (Nat×Row)->Prop)(f:Fl)(y:AV)(o:Nat):qg K ρ (.bp f y o)=K (.bp f y o) []:=rfl
theorem Ll(ρ:Nat->Option Row)(K:AV->List (Nat×Row)->Prop)(r i o:Nat):qg K ρ (.pt r i o)=(cD (ρ r)/\K (.pt r i o) []):=rfl
theorem Qy(ok:Oks)(g:X->AV)(ρ:Nat->Option Row)(d:Nat)(K:AV->List (Nat×Row)->Prop)(x y:X):eff ok g ρ d (.mn x y) K=eMn K (g x) (g y):=rfl
theorem Sz(K:AV->List (Nat×Row)->Prop)(a b:Int):eMn K (.sc (.int .i64 a)) (.sc (.int .i64 b))=K (.sc (.int .i64 (if b<a then b else a))) []:=by simp[eMn]
theorem Qp(ok:Oks)(g:X->AV)(ρ:Nat->Option Row)(d:Nat)(K:AV->List (Nat×Row)->Prop)(x y:X):eff ok g ρ d (.mx x y) K=eMx K (g x) (g y):=rfl
theorem SR(K:AV->List (Nat×Row)->Prop)(a b:Int):eMx K (.sc (.int .i64 a)) (.sc (.int .i64 b))=K (.sc (.int .i64 (if a<b then b else a))) []:=by simp[eMx]
theorem Ni(K:AV->Prop)(k:IntKind)(a b:Int):cV .add (.sc (.int k a)) (.sc (.int k b)) K=K (.sc (.int k (k.wrap (a+b)))):=by simp[cV,dw,ofI]
theorem Om(K:AV->Prop)(k:IntKind)(a b:Int):cV .sub (.sc (.int k a)) (.sc (.int k b)) K=K (.sc (.int k (k.wrap (a-b)))):=by simp[cV,dw,ofI]
theorem Nn(K:AV->Prop)(k:IntKind)(a b:Int):cV .mul (.sc (.int k a)) (.sc (.int k b)) K=K (.sc (.int k (k.wrap (a*b)))):=by simp[cV,dw,ofI]
theorem MM(K:AV->Prop)(k:IntKind)(a b:Int):cV .quo (.sc (.int k a)) (.sc (.int k b)) K=(b≠0/\K (.sc (.int k (k.wrap (a.tdiv b))))):=by simp[cV,dw,ofI]
theorem Oa(K:AV->Prop)(k:IntKind)(a b:Int):cV .rem (.sc (.int k a)) (.sc (.int k b)) K=(b≠0/\K (.sc (.int k (a.tmod b)))):=by simp[cV,dw]
theorem Mh(K:AV->Prop)(k:IntKind)(a b:Int):cV .and (.sc (.int k a)) (.sc (.int k b)) K=K (.sc (.int k (bits .and k a b))):=by simp[cV,dw]
theorem Qc(K:AV->Prop)(k:IntKind)(a b:Int):cV .or (.sc (.int k a)) (.sc (.int k b)) K=K (.sc (.int k (bits .or k a b))):=by simp[cV,dw]
theorem NY(K:AV->Prop)(k:IntKind)(a b:Int):cV .xor (.sc (.int k a)) (.sc (.int k b)) K=K (.sc (.int k (bits .xor k a b))):=by simp[cV,dw]
theorem wa(K:AV->Prop)(k:IntKind)(a b:Int):cV .andNot (.sc (.int k a)) (.sc (.int k b)) K=K (.sc (.int k (bits .andNot k a b))):=by simp[cV,dw]
theorem KE(K:AV->Prop)(k:IntKind)(a b:Int):cV .eql (.sc (.int k a)) (.sc (.int k b)) K=K (.sc (.bool (a==b))):=by simp[cV,dw]
theorem Ob(K:AV->Prop)(k:IntKind)(a b:Int):cV .neq (.sc (.int k a)) (.sc (.int k b)) K=K (.sc (.bool (a !=b))):=by simp[cV,dw]
theorem Nr(K:AV->Prop)(k:IntKind)(a b:Int):cV .lss (.sc (.int k a)) (.sc (.int k b)) K=K (.sc (.bool (decide (a<b)))):=by simp[cV,dw]
theorem MH(K:AV->Prop)(k:IntKind)(a b:Int):cV .leq (.sc (.int k a)) (.sc (.int k b)) K=K (.sc (.bool (decide (a<=b)))):=by simp[cV,dw]
theorem Oq(K:AV->Prop)(k:IntKind)(a b:Int):cV .gtr (.sc (.int k a)) (.sc (.int k b)) K=K (.sc (.bool (decide (b<a)))):=by simp[cV,dw]
theorem KJ(K:AV->Prop)(k:IntKind)(a b:Int):cV .geq (.sc (.int k a)) (.sc (.int k b)) K=K (.sc (.bool (decide (b<=a)))):=by simp[cV,dw]
theorem Nj(K:AV->Prop)(k k':IntKind)(a b:Int):cV .shl (.sc (.int k a)) (.sc (.int k' b)) K=el .shl k a b K:=by simp[cV]
theorem KN(K:AV->Prop)(k k':IntKind)(a b:Int):cV .shr (.sc (.int k a)) (.sc (.int k' b)) K=el .shr k a b K:=by simp[cV]
theorem Se(K:AV->Prop)(k:IntKind)(a b:Int):el .shl k a b K=(0<=b/\K (.sc (.int k (k.wrap (a*2^(min b.toNat k.bits)))))):=by simp[el,ofI]
theorem Sp(K:AV->Prop)(k:IntKind)(a b:Int):el .shr k a b K=(0<=b/\K (.sc (.int k (a.fdiv (2^(min b.toNat k.bits)))))):=by simp[el]
theorem Ha(K:AV->Prop)(a b:ByteArray):cV .add (.sc (.string a)) (.sc (.string b)) K=(a.size+b.size<=9223372036854775807/\K (.sc (.string (a++b)))):=rfl
theorem FM(K:AV->Prop)(a b:ByteArray):cV .eql (.sc (.string a)) (.sc (.string b)) K=K (.sc (.bool (a.toList==b.toList))):=rfl
theorem Jv(K:AV->Prop)(a b:ByteArray):cV .neq (.sc (.string a)) (.sc (.string b)) K=K (.sc (.bool (!(a.toList==b.toList)))):=rfl
theorem QC(K:AV->Prop)(k:IntKind)(a:Int):unV .neg (.sc (.int k a)) K=K (.sc (.int k (k.wrap (0-a)))):=by simp[unV,ofI]
theorem RU(K:AV->Prop)(a:Bool):unV .not (.sc (.bool a)) K=K (.sc (.bool (!a))):=rfl
theorem DP{α:Type}(x:α)(K:α->Prop):opt (some x) K=K x:=rfl
theorem Bo(ok:Oks)(σ:St)(K:St->Prop):dU ok [] K σ=K σ:=rfl
theorem xF(ok:Oks)(σ:St)(K:St->Prop)(d:Option Nat)(o:AOp)(os:List aV):dU ok (⟨d,o,none⟩::os) K σ=eff ok σ.gx σ.row (d.getD 0) o (Ou d (dU ok os K) σ):=rfl
theorem vn(ok:Oks)(σ:St)(K:St->Prop)(d:Option Nat)(o:AOp)(s:Nat)(w:Bool)(os:List aV):dU ok (⟨d,o,some (s,w)⟩::os) K σ=
 eu σ s w (σ.get s) (wL ok d o (dU ok os K)) (GW d (dU ok os K)):=rfl
theorem Rh(σ:St)(t len j:Nat):argI σ t len (.t j)=if j=t then .sl 1000000000 0 len else σ.get j:=rfl
theorem Rp(σ:St)(t len:Nat)(a:AV):argI σ t len (.c a)=a:=rfl
theorem Io(σ:St)(t j:Nat):Jn σ t (.t j)=(j=t\/(σ.get j).ments=[]):=rfl
theorem Hi(σ:St)(t:Nat)(a:AV):Jn σ t (.c a)=(a.ments=[]):=rfl
theorem MW(ok:Oks)(σ:St)(K:St->Prop)(d:Option Nat)(o:AOp):wL ok d o K σ=eff ok σ.gx σ.row (d.getD 0) o (Ou d K σ):=rfl
theorem MY(σ:St)(K:St->Prop)(d:Option Nat):GW d K σ=K (σ.app d (.tup []) []):=rfl
theorem xL(σ:St)(K:St->Prop)(d:Option Nat)(v:AV)(u:List (Nat×Row)):Ou d K σ v u=K (σ.app d v u):=rfl
theorem Lg(σ:St)(Q:Ex->St->Prop)(can:List Can):Kq Q can σ=Q .nrm (σ.can can):=rfl
theorem Bv(σ:St)(s:Nat)(A B:St->Prop):eu σ s true (.sc (.bool true)) A B=A (σ.know s true):=by simp[eu]
theorem Cf(σ:St)(s:Nat)(A B:St->Prop):eu σ s true (.sc (.bool false)) A B=B (σ.know s false):=by simp[eu]
theorem AU(σ:St)(s:Nat)(A B:St->Prop):eu σ s false (.sc (.bool true)) A B=B (σ.know s true):=by simp[eu]
theorem AK(σ:St)(s:Nat)(A B:St->Prop):eu σ s false (.sc (.bool false)) A B=A (σ.know s false):=by simp[eu]
theorem EU(σ:St)(s:Nat)(w:Bool)(A B:St->Prop):eu σ s w (.tup []) A B=B σ:=rfl
theorem NQ(σ:St):σ.can []=σ:=rfl
theorem DE(σ:St)(d:Nat)(ds:List Can):σ.can (.s d::ds)=(σ.canV d (σ.get d)).can ds:=rfl
theorem Ab(σ:St)(far:Bool)(d r j:Nat)(ds:List Can):σ.can (.f far d r j::ds)=(σ.canG far d r j (gm j (look r σ.rows))).can ds:=rfl
theorem zX(σ:St)(d:Nat)(ds:List Can):σ.can (.r d::ds)=(σ.canW d (σ.get d)).can ds:=rfl
theorem Lv(σ:St)(d r i n:Nat):σ.canW d (.sl r i n)=σ.canSr d r i n:=rfl
theorem Jh(σ:St)(d n:Nat):σ.canW d (.lst .u n [])=σ.canNil d n:=rfl
theorem Pq(σ:St)(d n:Nat)(xs:List AV):σ.canW d (.lst .o n xs)=σ:=rfl
theorem PF(σ:St)(d n:Nat)(xs:List AV):σ.canW d (.lst .m n xs)=σ:=rfl
theorem RK(σ:St)(d n:Nat)(xs:List AV):σ.canW d (.lst .s n xs)=σ:=rfl
theorem Rm(σ:St)(far:Bool)(d r j n:Nat)(xs:List AV):σ.canG far d r j (.lst .o n xs)=σ:=rfl
theorem Qj(σ:St)(far:Bool)(d r j n:Nat)(xs:List AV):σ.canG far d r j (.lst .m n xs)=σ:=rfl
theorem PS(σ:St)(far:Bool)(d r j n:Nat)(xs:List AV):σ.canG far d r j (.lst .s n xs)=σ:=rfl
theorem BS(σ:St)(d:Nat)(ds:List Can):σ.can (.z d::ds)=(σ.canZ d (σ.get d)).can ds:=rfl
theorem Mw(σ:St)(d r i m:Nat):σ.canZ d (.sl r i m)=σ.canZr d i m r (look r σ.rows):=rfl
theorem FH(σ:St)(d n:Nat)(f:Fl)(xs:List AV):σ.canZ d (.lst f n xs)=σ:=rfl
theorem Fs(σ:St)(d:Nat)(cs:List AV):σ.canZ d (.agg cs)=σ.canZc d cs 0 cs:=rfl
theorem Cv(σ:St)(d j:Nat)(all:List AV):σ.canZc d all j []=σ:=by unfold St.canZc;rfl
theorem EV(σ:St)(d j:Nat)(all cs:List AV)(r i m:Nat):σ.canZc d all j (.sl r i m::cs)=σ.canZcr d all j r i m (look r σ.rows):=by rw[St.canZc]
theorem BH(σ:St)(d j:Nat)(all cs:List AV)(f:Fl)(n:Nat)(xs:List AV):σ.canZc d all j (.lst f n xs::cs)=σ.canZc d all (j+1) cs:=by rw[St.canZc];intros;contradiction
theorem Gx(σ:St)(d j:Nat)(all cs:List AV)(v:Value):σ.canZc d all j (.sc v::cs)=σ.canZc d all (j+1) cs:=by rw[St.canZc];intros;contradiction
theorem Cd(env:List (Nat×AV))(rows:List (Nat×Row))(d j:Nat)(all:List AV)(r i m q:Nat)(es:List AV):St.canZcr ⟨env,rows⟩ d all j r i m (some (.arr q es))=⟨put d (.agg (gv all j (.lst .m q (da (sub es i m))))) env,put r .dead rows⟩:=rfl
theorem zQ(σ:St)(far:Bool)(d k j:Nat)(ds:List Can):σ.can (.e far d k j::ds)=(σ.canE far d k j (gm j (some (.var (σ.get k))))).can ds:=rfl
theorem Mu(env:List (Nat×AV))(rows:List (Nat×Row))(far:Bool)(d k j q i m:Nat):St.canE ⟨env,rows⟩ far d k j (.sl q i m)=if q=d\/far=false/\1000000000<=q then⟨env,rows⟩ else⟨(env.map fun p=>(p.1,p.2.hush d)).map fun p=>(p.1,p.2.ren q d),((del d rows).map fun p=>(p.1,p.2.hush d)).map fun p=>(if p.1=q then d else p.1,p.2.map (·.ren q d))⟩:=rfl
theorem Hd(env:List (Nat×AV))(rows:List (Nat×Row))(far:Bool)(d k j m:Nat):St.canE ⟨env,rows⟩ far d k j (.lst .u m [])=St.canEN ⟨env,rows⟩ d k j m (look k (env.map fun p=>(p.1,p.2.hush d))):=rfl
theorem QE(σ:St)(far:Bool)(d r j n:Nat)(xs:List AV):σ.canE far d r j (.lst .o n xs)=σ:=rfl
theorem QV(σ:St)(far:Bool)(d r j n:Nat)(xs:List AV):σ.canE far d r j (.lst .m n xs)=σ:=rfl
theorem RM(σ:St)(far:Bool)(d r j n:Nat)(xs:List AV):σ.canE far d r j (.lst .s n xs)=σ:=rfl
theorem FL(env:List (Nat×AV))(rows:List (Nat×Row))(d k j m:Nat)(cs:List AV):St.canEN ⟨env,rows⟩ d k j m (some (.agg cs))=⟨put k (.agg (gv cs j (.sl d 0 0))) (env.map fun p=>(p.1,p.2.hush d)),put d (.arr m []) ((del d rows).map fun p=>(p.1,p.2.hush d))⟩:=rfl
theorem zB(σ:St)(r:Nat)(ds:List Can):σ.can (.w r::ds)=(σ.canX r (look r σ.rows)).can ds:=rfl
theorem Hr(env:List (Nat×AV))(rows:List (Nat×Row))(r n:Nat)(es:List AV):St.canX ⟨env,rows⟩ r (some (.arr n es))=⟨env,put r (.arr n (es.map AV.als)) rows⟩:=by simp[St.canX,ig]
theorem zo(σ:St)(r:Nat):σ.canX r none=σ:=rfl
theorem GS(σ:St)(r:Nat)(cs:List AV):σ.canX r (some (.var (.agg cs)))=σ.canXc r cs 0 cs:=rfl
theorem Bw(σ:St)(r j:Nat)(all:List AV):σ.canXc r all j []=σ:=by unfold St.canXc;rfl
theorem FQ(σ:St)(r j:Nat)(all cs:List AV)(q i m:Nat):σ.canXc r all j (.sl q i m::cs)=σ.canXcr r all j q i m (look q σ.rows):=by rw[St.canXc]
theorem xE(σ:St)(r j:Nat)(all cs:List AV)(n:Nat)(xs:List AV):σ.canXc r all j (.lst .o n xs::cs)=σ.canXc r all (j+1) cs:=by rw[St.canXc]<;>(intros;simp_all)
theorem vw(σ:St)(r j:Nat)(all cs:List AV)(n:Nat)(xs:List AV):σ.canXc r all j (.lst .m n xs::cs)=σ.canXc r all (j+1) cs:=by rw[St.canXc]<;>(intros;simp_all)
theorem vi(σ:St)(r j:Nat)(all cs:List AV)(n:Nat)(xs:List AV):σ.canXc r all j (.lst .s n xs::cs)=σ.canXc r all (j+1) cs:=by rw[St.canXc]<;>(intros;simp_all)
theorem xI(σ:St)(r j:Nat)(all cs:List AV)(n:Nat):σ.canXc r all j (.lst .u n []::cs)=⟨σ.env,put r (.var (.agg (gv all j (.lst .m n [])))) σ.rows⟩:=by rw[St.canXc]
theorem DT(σ:St)(r j:Nat)(all cs:List AV)(v:Value):σ.canXc r all j (.sc v::cs)=σ.canXc r all (j+1) cs:=by rw[St.canXc]<;>(intros;contradiction)
theorem AB(env:List (Nat×AV))(rows:List (Nat×Row))(r j:Nat)(all:List AV)(q i m k:Nat)(es:List AV):St.canXcr ⟨env,rows⟩ r all j q i m (some (.arr k es))=⟨env,put r (.var (.agg (gv all j (.lst .m k (da (sub es i m)))))) (put q .dead rows)⟩:=rfl
theorem Bp(σ:St)(r:Nat):σ.canX r (some .dead)=σ:=rfl
theorem xC(j:Nat)(cs:List AV):gm j (some (.var (.agg cs)))=qp cs j:=rfl
theorem zt(q i m:Nat):gm 0 (some (.var (.sl q i m)))=.sl q i m:=rfl
theorem wc(f:Fl)(m:Nat)(xs:List AV):gm 0 (some (.var (.lst f m xs)))=.lst f m xs:=rfl
theorem Rt(x:AV)(xs:List AV):qp (x::xs) 0=x:=rfl
theorem Qq(x:AV)(xs:List AV)(j:Nat):qp (x::xs) (j+1)=qp xs j:=rfl
theorem QB(x y:AV)(xs:List AV):gv (x::xs) 0 y=y::xs:=rfl
theorem PP(x y:AV)(xs:List AV)(j:Nat):gv (x::xs) (j+1) y=x::gv xs j y:=rfl
theorem MN(env:List (Nat×AV))(rows:List (Nat×Row))(far:Bool)(d r j q i m:Nat):St.canG ⟨env,rows⟩ far d r j (.sl q i m)=if q=d\/far=false/\1000000000<=q then⟨env,rows⟩ else⟨(env.map fun p=>(p.1,p.2.hush d)).map fun p=>(p.1,p.2.ren q d),((del d rows).map fun p=>(p.1,p.2.hush d)).map fun p=>(if p.1=q then d else p.1,p.2.map (·.ren q d))⟩:=rfl
theorem Ge(env:List (Nat×AV))(rows:List (Nat×Row))(far:Bool)(d r j m:Nat):St.canG ⟨env,rows⟩ far d r j (.lst .u m [])=St.canFN ⟨env,rows⟩ d r j m (look r ((del d rows).map fun p=>(p.1,p.2.hush d))):=rfl
theorem EP(env:List (Nat×AV))(rows:List (Nat×Row))(d r j m k:Nat):St.canFN ⟨env,rows⟩ d r j m (some (.var (.lst .u k [])))=⟨env.map fun p=>(p.1,p.2.hush d),put d (.arr m []) (put r (.var (.sl d 0 0)) ((del d rows).map fun p=>(p.1,p.2.hush d)))⟩:=rfl
theorem Dn(env:List (Nat×AV))(rows:List (Nat×Row))(d r j m:Nat)(cs:List AV):St.canFN ⟨env,rows⟩ d r j m (some (.var (.agg cs)))=⟨env.map fun p=>(p.1,p.2.hush d),put d (.arr m []) (put r (.var (.agg (gv cs j (.sl d 0 0)))) ((del d rows).map fun p=>(p.1,p.2.hush d)))⟩:=rfl
theorem Lh(σ:St)(d r i n:Nat):σ.canV d (.sl r i n)=σ.canSl d r i n:=rfl
theorem HN(σ:St)(d n:Nat):σ.canV d (.lst .u n [])=σ.canNil d n:=rfl
theorem QN(σ:St)(d n:Nat)(xs:List AV):σ.canV d (.lst .o n xs)=σ:=rfl
theorem RO(σ:St)(d n:Nat)(xs:List AV):σ.canV d (.lst .m n xs)=σ:=rfl
theorem QR(σ:St)(d n:Nat)(xs:List AV):σ.canV d (.lst .s n xs)=σ:=rfl
theorem QP(env:List (Nat×AV))(rows:List (Nat×Row))(k:Nat):St.get ⟨env,rows⟩ k=(look k env).getD .top:=rfl
theorem Re(env:List (Nat×AV))(rows:List (Nat×Row))(k:Nat):St.row ⟨env,rows⟩ k=look k rows:=rfl
theorem gx_t(σ:St)(n:Nat):σ.gx (.t n)=σ.get n:=rfl
theorem gx_c(σ:St)(a:AV):σ.gx (.c a)=a:=rfl
theorem uX(env:List (Nat×AV))(rows:List (Nat×Row))(d:Nat)(v:AV)(u:List (Nat×Row)):St.app ⟨env,rows⟩ (some d) v u=⟨put d v env,bc u rows⟩:=rfl
theorem sJ(env:List (Nat×AV))(rows:List (Nat×Row))(v:AV)(u:List (Nat×Row)):St.app ⟨env,rows⟩ none v u=⟨env,bc u rows⟩:=rfl
theorem pE(rows:List (Nat×Row)):bc [] rows=rows:=rfl
theorem mU(p:Nat×Row)(u rows:List (Nat×Row)):bc (p::u) rows=bc u (put p.1 p.2 rows):=rfl
theorem Kz(env:List (Nat×AV))(rows:List (Nat×Row))(s:Nat)(b:Bool):St.know ⟨env,rows⟩ s b=⟨put s (.sc (.bool b)) env,rows⟩:=rfl
theorem HT{α:Type}(k:Nat):look k ([]:List (Nat×α))=none:=rfl
theorem AM{α:Type}(k j:Nat)(x:α)(l:List (Nat×α)):look k ((j,x)::l)=if j=k then some x else look k l:=rfl
theorem yY{α:Type}(k:Nat)(x:α):put k x []=[(k,x)]:=rfl
theorem sV{α:Type}(k j:Nat)(x y:α)(l:List (Nat×α)):put k x ((j,y)::l)=if j=k then(k,x)::l else(j,y)::put k x l:=rfl
theorem La{α:Type}(k:Nat):del k ([]:List (Nat×α))=[]:=rfl
theorem Hz{α:Type}(k j:Nat)(x:α)(l:List (Nat×α)):del k ((j,x)::l)=if j=k then del k l else(j,x)::del k l:=rfl
theorem getD_some{α:Type}(x y:α):(some x).getD y=x:=rfl
theorem BT{α:Type}(y:α):(none:Option α).getD y=y:=rfl
theorem GF(env:List (Nat×AV))(rows:List (Nat×Row))(d r i n:Nat):St.canSr ⟨env,rows⟩ d r i n=if r=d then⟨env,rows⟩ else
 ⟨put d (.sl d i n) ((env.map fun p=>(p.1,p.2.hush d)).map fun p=>(p.1,p.2.ren r d)),
  ((del d rows).map fun p=>(p.1,p.2.hush d)).map fun p=>(if p.1=r then d else p.1,p.2.map (·.ren r d))⟩:=rfl
theorem Gz(env:List (Nat×AV))(rows:List (Nat×Row))(d i m r q:Nat)(es:List AV):St.canZr ⟨env,rows⟩ d i m r (some (.arr q es))=⟨put d (.lst .m q (da (sub es i m))) env,put r .dead rows⟩:=rfl
theorem Ga(env:List (Nat×AV))(rows:List (Nat×Row))(d r i n:Nat):St.canSl ⟨env,rows⟩ d r i n=if r=d\/1000000000<=r then⟨env,rows⟩ else
 ⟨put d (.sl d i n) ((env.map fun p=>(p.1,p.2.hush d)).map fun p=>(p.1,p.2.ren r d)),
  ((del d rows).map fun p=>(p.1,p.2.hush d)).map fun p=>(if p.1=r then d else p.1,p.2.map (·.ren r d))⟩:=rfl
theorem Aw(env:List (Nat×AV))(rows:List (Nat×Row))(d n:Nat):St.canNil ⟨env,rows⟩ d n=
 ⟨put d (.sl d 0 0) (env.map fun p=>(p.1,p.2.hush d)),put d (.arr n []) ((del d rows).map fun p=>(p.1,p.2.hush d))⟩:=rfl
theorem PQ(σ:St)(lv lr:List Nat):σ.res lv lr=⟨lv.map fun k=>(k,σ.get k),lr.map fun r=>(r,(σ.row r).getD .dead)⟩:=rfl
theorem EF(σ:St)(lv lr:List Nat):σ.resOk lv lr=((∀k∈lv,∀r∈(σ.get k).ments,r∈lr)/\(∀q∈lr,∀r∈((σ.row q).getD .dead).ments,r∈lr)/\lr.Nodup):=rfl
theorem Av(r:Nat)(x:AV):Row.hush r (.var x)=if r∈x.ments then .dead else .var x:=rfl
theorem CH(r:Nat)(n:Nat)(x:List AV):Row.hush r (.arr n x)=.arr n x:=rfl
theorem va(r:Nat):Row.hush r .dead=.dead:=rfl
theorem EL(h:AV->AV)(x:AV):Row.map h (.var x)=.var (h x):=rfl
theorem JM(h:AV->AV)(n:Nat)(x:List AV):Row.map h (.arr n x)=.arr n x:=rfl
theorem AE(h:AV->AV):Row.map h .dead=.dead:=rfl
theorem wJ(x:AV):Row.ments (.var x)=x.ments:=rfl
theorem ww(n:Nat)(x:List AV):Row.ments (.arr n x)=[]:=rfl
theorem tJ:Row.ments .dead=[]:=rfl
theorem Lj(r:Nat)(a:AV):a.hush r=if r∈a.ments then .top else a:=rfl
theorem Dy(v:Value):(AV.sc v).ments=[]:=by simp[AV.ments]
theorem zP(f:Fl)(n:Nat)(x:List AV):(AV.lst f n x).ments=[]:=by simp[AV.ments]
theorem HP(f:Fl)(n:Nat)(x:List AV):(AV.tg f n x).ments=[]:=by simp[AV.ments]
theorem FX(f:Fl)(x:AV)(n:Nat):(AV.bp f x n).ments=[]:=by simp[AV.ments]
theorem Bj:AV.top.ments=[]:=by simp[AV.ments]
theorem Fp(r i n:Nat):(AV.sl r i n).ments=[r]:=by simp[AV.ments]
theorem JO(r i n:Nat):(AV.pt r i n).ments=[r]:=by simp[AV.ments]
theorem zC(cs:List AV):(AV.agg cs).ments=aF cs:=by simp[AV.ments]
theorem Gi(f:Nat)(cs:List AV):(AV.fn f cs).ments=aF cs:=by simp[AV.ments]
theorem CD(cs:List AV):(AV.tup cs).ments=aF cs:=by simp[AV.ments]
theorem vh:aF []=[]:=by simp[aF]
theorem tG(c:AV)(cs:List AV):aF (c::cs)=c.ments++aF cs:=by simp[aF]
theorem fR(v:Value):(AV.sc v).fz=true:=by simp[AV.fz]
theorem dl(n:Nat)(xs:List AV):(AV.lst .o n xs).fz=fzL xs:=by simp[AV.fz]
theorem ef(cs:List AV):(AV.agg cs).fz=fzL cs:=by simp[AV.fz]
theorem di:fzL []=true:=by simp[fzL]
theorem cE(c:AV)(cs:List AV):fzL (c::cs)=(c.fz&&fzL cs):=by simp[fzL]
theorem fT(v:Value):(AV.sc v).ouB=true:=by simp[AV.ouB]
theorem dm(n:Nat)(xs:List AV):(AV.lst .u n xs).ouB=df xs:=by simp[AV.ouB]
theorem ee(cs:List AV):(AV.agg cs).ouB=df cs:=by simp[AV.ouB]
theorem dp:df []=true:=by simp[df]
theorem cF(c:AV)(cs:List AV):df (c::cs)=(c.ouB&&df cs):=by simp[df]
theorem dW(xs:List Int):fzL (xs.map AV.i)=true:=by induction xs<;>simp_all [fzL,AV.fz]
theorem ea(xs:List Bool):fzL (xs.map AV.b)=true:=by induction xs<;>simp_all [fzL,AV.fz]
theorem ed(xs:List ByteArray):fzL (xs.map AV.z)=true:=by induction xs<;>simp_all [fzL,AV.fz]
theorem dY(xs:List Int):fzL (xs.map AV.u8)=true:=by induction xs<;>simp_all [fzL,AV.fz]
theorem dg(xs:List Int):fzL (xs.map AV.u64)=true:=by induction xs<;>simp_all [fzL,AV.fz]
theorem dX(xs:List Int):df (xs.map AV.u8)=true:=by induction xs<;>simp_all [df,AV.ouB]
theorem dh(xs:List Int):df (xs.map AV.u64)=true:=by induction xs<;>simp_all [df,AV.ouB]
theorem dZ(xs:List Int):df (xs.map AV.i)=true:=by induction xs<;>simp_all [df,AV.ouB]
theorem eb(xs:List Bool):df (xs.map AV.b)=true:=by induction xs<;>simp_all [df,AV.ouB]
theorem dV(xs:List ByteArray):df (xs.map AV.z)=true:=by induction xs<;>simp_all [df,AV.ouB]
theorem vE(x:AV)(off n:Nat):fO x off n false=x.cells[off]?:=rfl
theorem zZ(cs:List AV)(off n:Nat):fO (.agg cs) off n true=if off+n<=cs.length then some (if off=0/\n=cs.length then .agg cs else .agg ((cs.drop off).take n)) else none:=by
 unfold fO;by_cases h:off+n<=cs.length
 ·rw[if_pos rfl,if_pos ⟨rfl,h⟩,if_pos h];rfl
 ·rw[if_pos rfl,if_neg (fun e=>h e.2),if_neg h]
theorem sI(cs:List AV)(off:Nat)(v:Value):setPart (.agg cs) off (.sc v)=if off+1<=cs.length then some (.agg (fill cs off (.sc v))) else none:=rfl
theorem tt(cs:List AV)(off r i n:Nat):setPart (.agg cs) off (.sl r i n)=if off+1<=cs.length then some (.agg (fill cs off (.sl r i n))) else none:=rfl
theorem sd(cs:List AV)(off n:Nat)(f:Fl)(xs:List AV):setPart (.agg cs) off (.lst f n xs)=if off+1<=cs.length then some (.agg (fill cs off (.lst f n xs))) else none:=rfl
theorem rU(cs vs:List AV)(off:Nat):setPart (.agg cs) off (.agg vs)=if off=0/\vs.length=cs.length then some (.agg vs) else if off+vs.length<=cs.length then some (.agg (fill cs off (.agg vs))) else none:=rfl
theorem vI(x v:Value):setPart (.sc x) 0 (.sc v)=some (.sc v):=by simp[setPart,AV.isAgg,AV.width]
theorem tc(f:Fl)(n:Nat)(xs:List AV)(f':Fl)(n':Nat)(xs':List AV):setPart (.lst f n xs) 0 (.lst f' n' xs')=some (.lst f' n' xs'):=by simp[setPart,AV.isAgg,AV.width]
theorem qa(f:Fl)(n:Nat)(xs:List AV)(r i k:Nat):setPart (.lst f n xs) 0 (.sl r i k)=some (.sl r i k):=by simp[setPart,AV.isAgg,AV.width]
theorem rK(r' i' k' r i k:Nat):setPart (.sl r' i' k') 0 (.sl r i k)=some (.sl r i k):=by simp[setPart,AV.isAgg,AV.width]
theorem Cz(cs:List AV):(AV.agg cs).cells=cs:=rfl
theorem EQ(v:Value):(AV.sc v).cells=[.sc v]:=rfl
theorem CA(f:Fl)(n:Nat)(xs:List AV):(AV.lst f n xs).cells=[.lst f n xs]:=rfl
theorem Kl(r i n:Nat):(AV.sl r i n).cells=[.sl r i n]:=rfl
theorem Gd(f:Nat)(cs:List AV):(AV.fn f cs).cells=[.fn f cs]:=rfl
theorem CF(cs:List AV):(AV.agg cs).width=cs.length:=rfl
theorem Ef(v:Value):(AV.sc v).width=1:=rfl
theorem BX(f:Fl)(n:Nat)(xs:List AV):(AV.lst f n xs).width=1:=rfl
theorem Dg(r i n:Nat):(AV.sl r i n).width=1:=rfl
theorem Iz(f:Nat)(cs:List AV):(AV.fn f cs).width=1:=rfl
theorem KR(cs:List AV)(off:Nat)(v:AV):fill cs off v=cs.take off++v.cells++cs.drop (off+v.cells.length):=rfl
theorem zx(cs:List AV):kH cs []=cs:=rfl
theorem xj(cs:List AV)(off:Nat)(v:AV)(l:List (Nat×AV)):kH cs ((off,v)::l)=kH (fill cs off v) l:=rfl
theorem Nx(rs:List RV)(res:AV)(σ:St):fin rs res .ret σ=opt (RVs.val σ rs) fun xs=>(aF xs).Nodup/\lift σ.row 3 (dG xs)=res:=by
 simp only[fin,opt];cases RVs.val σ rs<;>simp
theorem NI(rs:List RV)(res:AV)(σ:St):fin rs res .nrm σ=opt (RVs.val σ rs) fun xs=>(aF xs).Nodup/\lift σ.row 3 (dG xs)=res:=by
 simp only[fin,opt];cases RVs.val σ rs<;>simp
def Qh(o:Option Row)(k:Nat)(ag:Bool):Option AV:=match o with
 |some (.var y)=>fO y 0 k ag
 |_=>none
def rvC(σ:St)(a:AV)(k:Nat)(ag:Bool):Option AV:=match a with
 | .pt r 0 0=>Qh (σ.row r) k ag
 |_=>none
theorem rv_t(σ:St)(n:Nat):RV.val σ (.t n)=some (σ.get n):=rfl
theorem rv_c(σ:St)(n k:Nat)(ag:Bool):RV.val σ (.c n k ag)=rvC σ (σ.get n) k ag:=by simp only[RV.val];rfl
theorem QZ(σ:St)(r k:Nat)(ag:Bool):rvC σ (.pt r 0 0) k ag=Qh (σ.row r) k ag:=rfl
theorem GC(y:AV)(k:Nat)(ag:Bool):Qh (some (.var y)) k ag=fO y 0 k ag:=rfl
def Ph(x:Option AV)(xs:Option (List AV)):Option (List AV):=match x,xs with
 |some x,some xs=>some (x::xs)
 |_,_=>none
theorem Li(σ:St):RVs.val σ []=some []:=rfl
theorem HD(σ:St)(r:RV)(rs:List RV):RVs.val σ (r::rs)=Ph (r.val σ) (RVs.val σ rs):=by simp only[RVs.val];rfl
theorem vj(x:AV)(xs:List AV):Ph (some x) (some xs)=some (x::xs):=rfl
theorem Er(x:AV):dG [x]=x:=rfl
theorem Kt(x y:AV)(l:List AV):dG (x::y::l)=.tup (x::y::l):=rfl
theorem JF(args:List AV):St.start args=⟨St.start.go 0 args,[]⟩:=rfl
theorem Bf(n:Nat):St.start.go n []=[]:=rfl
theorem wF(n:Nat)(a:AV)(l:List AV):St.start.go n (a::l)=(n,a)::St.start.go (n+1) l:=rfl
theorem aJ(ok:Oks)(a:aq)(rs:List RV)(args:List AV)(res:AV):Qg ok a rs args res=AWP ok a (fin rs res) (St.start args):=rfl
theorem fl1:Fl.als .u=.m:=rfl
theorem fl2:Fl.als .o=.o:=rfl
theorem fl3:Fl.als .s=.s:=rfl
theorem fl4:Fl.als .m=.m:=rfl
theorem fl5:Fl.fix .u=.u:=rfl
theorem fl6:Fl.fix .o=.s:=rfl
theorem fl7:Fl.fix .s=.s:=rfl
theorem fl8:Fl.fix .m=.m:=rfl
theorem ol{α β:Type}(f:α->β)(x:α)(l:List α):(x::l).map f=f x::l.map f:=rfl
theorem rB{α β:Type}(f:α->β):[].map f=[]:=rfl
theorem zW{α:Type}(l:List α):l++[]=l:=List.append_nil l
theorem rr{α:Type}(l:List α):[]++l=l:=rfl
theorem pk{α:Type}(x:α)(k l:List α):(x::k)++l=x::(k++l):=rfl
theorem wj{α:Type}(x:α)(l:List α):(x::l).length=l.length+1:=rfl
theorem Bk{α:Type}:([]:List α).length=0:=rfl
theorem rD{α β:Type}(f:α->β)(l:List α):(l.map f).length=l.length:=List.length_map ..
theorem Rj{α:Type}(x:α)(l:List α):(x::l)[0]?=some x:=rfl
theorem Qw{α:Type}(x:α)(l:List α)(n:Nat):(x::l)[n+1]?=l[n]?:=rfl
theorem HE{α β:Type}(f:α->β)(l:List α)(n:Nat):(l.map f)[n]?=(l[n]?).map f:=List.getElem?_map ..
theorem wC{α β:Type}(f:α->β)(x:α):(some x).map f=some (f x):=rfl
theorem wn{α β:Type}(f:α->β):(none:Option α).map f=none:=rfl
theorem HZ{α:Type}(l:List α):l.take 0=[]:=rfl
theorem Ji{α:Type}(x:α)(l:List α)(n:Nat):(x::l).take (n+1)=x::l.take n:=rfl
theorem IE{α:Type}(l:List α):l.drop 0=l:=rfl
theorem Ig{α:Type}(x:α)(l:List α)(n:Nat):(x::l).drop (n+1)=l.drop n:=rfl
theorem IZ{α:Type}(n:Nat):([]:List α).drop n=[]:=List.drop_nil
theorem Eb{α:Type}(n:Nat):([]:List α).take n=[]:=List.take_nil
theorem Nw(l:List Int):u8s (l.map AV.u8)=some l:=by induction l<;>simp_all [u8s]
theorem vB(n:Nat):((n:Int)).toNat=n:=rfl
theorem Et{ok:Oks}{a:aq}{Q:Ex->St->Prop}{σ:St}(lv lr:List Nat)(I:St->Prop)(μ:St->Nat)(h0:σ.resOk lv lr)(h1:I (σ.res lv lr))(h2:∀τ,I τ->AWP ok a (thn (fun τ'=>τ'.resOk lv lr/\I (τ'.res lv lr)/\μ (τ'.res lv lr)<μ τ) Q) τ):AWP ok (.loop a) Q σ:=by
 simp only[AWP];exact⟨lv,lr,I,μ,h0,h1,h2⟩
theorem ES{ok:Oks}{ρ:Nat->Option Row}{d f:Nat}{args:List AV}{K:AV->List (Nat×Row)->Prop}{res:AV}(h:ok.p f (args.map (snp ρ 4)) res)(hu:res.allU)(hn:∀p∈(adopt 4 d res).2.1,ρ p.1=none/\p.1<1000000000)(hk:K (adopt 4 d res).1 (adopt 4 d res).2.1):fS ok ρ d f args K:=⟨res,h,.inl hu,hn,hk⟩
theorem IU{ok:Oks}{ρ:Nat->Option Row}{d f:Nat}{args:List AV}{K:AV->List (Nat×Row)->Prop}{v:Value}(h:ok.p f (args.map (snp ρ 4)) (.sc v))(hk:K (.sc v) []):fS ok ρ d f args K:=⟨.sc v,h,.inl (by simp[AV.allU]),by simp[lm],by simpa[lm] using hk⟩
theorem vA{ok:Oks}{ρ:Nat->Option Row}{d f:Nat}{args:List AV}{rs:List Nat}{K:AV->List (Nat×Row)->Prop}{res:AV}{outs:List (Nat×Row)}(h:ok.m f (args.map (AV.rg (cnm rs))) (rs.map (gM ρ rs)) res outs)(h1:rs.Nodup/\(∀r∈rs,cD (ρ r))/\(∀r∈rs,∀q∈mz (ρ r),q∈rs)/\(∀r∈aF args,r∈rs))(h2:(outs.map fun p=>bkn d rs p.1).Nodup/\(∀p∈outs,1000000000<=p.1->p.1-1000000000<rs.length)/\(∀p∈outs,p.1<1000000000->ρ (bkn d rs p.1)=none/\bkn d rs p.1<1000000000))(hk:K (res.rg (bkn d rs)) (bX rs++outs.map (fi d rs))):callM ok ρ d f args rs K:=⟨res,outs,h,h1,h2,hk⟩
theorem jq{α:Type}{e:α->AV}(h:∀x,(e x).fz=true)(xs:List α):fzL (xs.map e)=true:=by induction xs<;>simp_all [fzL]
theorem jl{α:Type}{e:α->AV}(h:∀x,(e x).ouB=true)(xs:List α):df (xs.map e)=true:=by induction xs<;>simp_all [df]
theorem ZI{A B:Prop}(a:A)(b:B):A/\B:=⟨a,b⟩
def VS1:=ZI @ic (ZI @ig (ZI @fI (ZI @PJ (ZI @KT (ZI @RB (ZI @MI (ZI @PL (ZI @Rg (ZI @RF (ZI @Au (ZI @Qr (ZI @Cp (ZI @Mp (ZI @JH (ZI @IP (ZI @DX (ZI @Lq (ZI @vH (ZI @lm (ZI @yR (ZI @yo (ZI @yO (ZI @yp (ZI @re (ZI @qW (ZI @rA (ZI @od (ZI @cP (ZI @fX (ZI @fV (ZI @Rb (ZI @ec (ZI @gf (ZI @gb (ZI @eT (ZI @fE (ZI @fF (ZI @gi (ZI @gk (ZI @fD (ZI @AG (ZI @Ac (ZI @qN (ZI @mj (ZI @mG (ZI @ka (ZI @xx (ZI @BI (ZI @CE (ZI @Cs (ZI @xy (ZI @oq (ZI @Mm (ZI @c_eq (ZI @SH (ZI @Ps (ZI @Mt (ZI @Ij (ZI @Qt (ZI @RE (ZI @Nz (ZI @MZ (ZI @GQ (ZI @GO (ZI @GG (ZI @QG (ZI @PZ (ZI @QY (ZI @SP (ZI @SO (ZI @Sd (ZI @Su (ZI @Po (ZI @RZ (ZI @SC (ZI @Sq (ZI @NH (ZI @lC (ZI @OC (ZI @Fe (ZI @OI (ZI @OJ (ZI @Gg @Km)))))))))))))))))))))))))))))))))))))))))))))))))))))))))))))))))))))))))))))))))))
def VS2:=ZI @Pf (ZI @GL (ZI @Pg (ZI @Pj (ZI @yh (ZI @yH (ZI @te (ZI @sW (ZI @GT (ZI @De (ZI @Fi (ZI @uJ (ZI @wS (ZI @xr (ZI @yK (ZI @yC (ZI @PY (ZI @NN (ZI @Rl (ZI @RN (ZI @Lu (ZI @Ld (ZI @PK (ZI @Ow (ZI @Qz (ZI @Qo (ZI @DI (ZI @KX (ZI @NS (ZI @Lr (ZI @JG (ZI @QT (ZI @Pz (ZI @QA (ZI @EX (ZI @FT (ZI @Sc (ZI @RG (ZI @NV (ZI @LQ (ZI @Hk (ZI @KO (ZI @NG (ZI @Py (ZI @Le (ZI @Md (ZI @Rf (ZI @LT (ZI @RD (ZI @HM (ZI @KC (ZI @LX (ZI @AZ (ZI @Lp (ZI @CL (ZI @Mg (ZI @vk (ZI @wU (ZI @yf (ZI @Sl (ZI @Ih (ZI @Gy (ZI @CO (ZI @ui (ZI @sR (ZI @DK (ZI @zM (ZI @Bl (ZI @rR (ZI @EW (ZI @sA (ZI @DV (ZI @CC (ZI @LU (ZI @Oo (ZI @KL (ZI @KB (ZI @QH (ZI @QO (ZI @Qk (ZI @Nk (ZI @LA (ZI @LL @Qf))))))))))))))))))))))))))))))))))))))))))))))))))))))))))))))))))))))))))))))))))
def VS3:=ZI @QI (ZI @PB (ZI @Gh (ZI @EY (ZI @Ny (ZI @NM (ZI @Rr (ZI @Qi (ZI @Qn (ZI @RX (ZI @QX (ZI @CU (ZI @NJ (ZI @MD (ZI @Mj (ZI @PH (ZI @Mz (ZI @Gj (ZI @Bb (ZI @Mx (ZI @Qv (ZI @CN (ZI @SB (ZI @LD (ZI @bV_i (ZI @KD (ZI @LN (ZI @NF (ZI @Nf (ZI @KK (ZI @PO (ZI @NW (ZI @Rz (ZI @QF (ZI @NP (ZI @LF (ZI @QD (ZI @Gc (ZI @Ng (ZI @Ss (ZI @SN (ZI @Si (ZI @SJ (ZI @Ov (ZI @LP (ZI @Fu (ZI @Ju (ZI @KM (ZI @Nm (ZI @KS (ZI @IC (ZI @GN (ZI @Oh (ZI @An (ZI @FR (ZI @JV (ZI @NX (ZI @Lm (ZI @Ks (ZI @Lb (ZI @Nd (ZI @DD (ZI @EK (ZI @MU (ZI @NA (ZI @Qm (ZI @MG (ZI @Rv (ZI @Lc (ZI @Mf (ZI @Kh (ZI @KV (ZI @zn (ZI @LO (ZI @ML (ZI @Kc (ZI @KY (ZI @MA (ZI @Ns (ZI @Qa (ZI @Ru @Az))))))))))))))))))))))))))))))))))))))))))))))))))))))))))))))))))))))))))))))))
def VS4:=ZI @ND (ZI @Jl (ZI @Oi (ZI @AW (ZI @LC (ZI @Bt (ZI @LZ (ZI @ME (ZI @zJ (ZI @Nl (ZI @MO (ZI @Co (ZI @Nq (ZI @Lk (ZI @Nu (ZI @Em (ZI @Na (ZI @Bi (ZI @NL (ZI @wK (ZI @AA (ZI @Gb (ZI @HY (ZI @sT (ZI @AD (ZI @Fa (ZI @MJ (ZI @Ll (ZI @Qy (ZI @Sz (ZI @Qp (ZI @SR (ZI @Ni (ZI @Om (ZI @Nn (ZI @MM (ZI @Oa (ZI @Mh (ZI @Qc (ZI @NY (ZI @wa (ZI @KE (ZI @Ob (ZI @Nr (ZI @MH (ZI @Oq (ZI @KJ (ZI @Nj (ZI @KN (ZI @Se (ZI @Sp (ZI @Ha (ZI @FM (ZI @Jv (ZI @QC (ZI @RU (ZI @DP (ZI @Bo (ZI @xF (ZI @vn (ZI @Rh (ZI @Rp (ZI @Io (ZI @Hi (ZI @MW (ZI @MY (ZI @xL (ZI @Lg (ZI @Bv (ZI @Cf (ZI @AU (ZI @AK (ZI @EU (ZI @NQ @DE)))))))))))))))))))))))))))))))))))))))))))))))))))))))))))))))))))))))))
def VS5:=ZI @Ab (ZI @zX (ZI @Lv (ZI @Jh (ZI @Pq (ZI @PF (ZI @RK (ZI @Rm (ZI @Qj (ZI @PS (ZI @BS (ZI @Mw (ZI @FH (ZI @Fs (ZI @Cv (ZI @EV (ZI @BH (ZI @Gx (ZI @Cd (ZI @zQ (ZI @Mu (ZI @Hd (ZI @QE (ZI @QV (ZI @RM (ZI @FL (ZI @zB (ZI @Hr (ZI @zo (ZI @GS (ZI @Bw (ZI @FQ (ZI @xE (ZI @vw (ZI @vi (ZI @xI (ZI @DT (ZI @AB (ZI @Bp (ZI @xC (ZI @zt (ZI @wc (ZI @Rt (ZI @Qq (ZI @QB (ZI @PP (ZI @MN (ZI @Ge (ZI @EP (ZI @Dn (ZI @Lh (ZI @HN (ZI @QN (ZI @RO (ZI @QR (ZI @QP (ZI @Re (ZI @gx_t (ZI @gx_c (ZI @uX (ZI @sJ (ZI @pE (ZI @mU (ZI @Kz (ZI @HT (ZI @AM (ZI @yY (ZI @sV (ZI @La (ZI @Hz (ZI @getD_some (ZI @BT (ZI @GF (ZI @Gz (ZI @Ga (ZI @Aw (ZI @PQ (ZI @EF (ZI @Av (ZI @CH (ZI @va (ZI @EL (ZI @JM (ZI @AE @wJ)))))))))))))))))))))))))))))))))))))))))))))))))))))))))))))))))))))))))))))))))))
def VS6:=ZI @ww (ZI @tJ (ZI @Lj (ZI @Dy (ZI @zP (ZI @HP (ZI @FX (ZI @Bj (ZI @Fp (ZI @JO (ZI @zC (ZI @Gi (ZI @CD (ZI @vh (ZI @tG (ZI @vE (ZI @zZ (ZI @sI (ZI @tt (ZI @sd (ZI @rU (ZI @vI (ZI @tc (ZI @qa (ZI @rK (ZI @Cz (ZI @EQ (ZI @CA (ZI @Kl (ZI @Gd (ZI @CF (ZI @Ef (ZI @BX (ZI @Dg (ZI @Iz (ZI @KR (ZI @zx (ZI @xj (ZI @Nx (ZI @NI (ZI @rv_t (ZI @rv_c (ZI @QZ (ZI @GC (ZI @Li (ZI @HD (ZI @vj (ZI @Er (ZI @Kt (ZI @JF (ZI @Bf (ZI @wF (ZI @aJ (ZI @fl1 (ZI @fl2 (ZI @fl3 (ZI @fl4 (ZI @fl5 (ZI @fl6 (ZI @fl7 (ZI @fl8 (ZI @ol (ZI @rB (ZI @zW (ZI @rr (ZI @pk (ZI @wj (ZI @Bk (ZI @rD (ZI @Rj (ZI @Qw (ZI @HE (ZI @wC (ZI @wn (ZI @HZ (ZI @Ji (ZI @IE (ZI @Ig (ZI @IZ (ZI @Eb (ZI @Nw @vB))))))))))))))))))))))))))))))))))))))))))))))))))))))))))))))))))))))))))))))))
def VA:=ZI @fI (ZI @lm (ZI @yR (ZI @yo (ZI @yO (ZI @yp (ZI @re (ZI @qW (ZI @rA (ZI @od (ZI @eT (ZI @fE (ZI @fF (ZI @fD (ZI @qN (ZI @ka (ZI @oq (ZI @GO (ZI @GG (ZI @lC (ZI @OC (ZI @Fe (ZI @OI (ZI @OJ (ZI @Gg (ZI @Km (ZI @Pf (ZI @GL (ZI @Pg (ZI @Pj (ZI @yh (ZI @yH (ZI @te (ZI @sW (ZI @GT (ZI @De (ZI @uJ (ZI @yK (ZI @yC (ZI @yf (ZI @xL (ZI @uX (ZI @sJ (ZI @pE (ZI @mU (ZI @yY (ZI @sV (ZI @fl5 (ZI @fl6 (ZI @fl7 (ZI @fl8 (ZI @ol (ZI @rB (ZI @rr (ZI @pk (@rD)))))))))))))))))))))))))))))))))))))))))))))))))))))))
end Vs

