/-
  Part of the proof that the law FnExactRestoreLight returns true at every input; no condition beside the row's own.
-/
import Derived.Calls
import Derived.Below
set_option linter.defProp false
set_option linter.unusedSimpArgs false
set_option linter.unusedVariables false
namespace Vs
open Go
inductive Fl where|o|s|m|u
 deriving DecidableEq
def Fl.als:Fl->Fl
 | .u=>.m
 |f=>f
def Fl.fix:Fl->Fl
 | .o=>.s
 |f=>f
inductive AV where
 |sc (v:Value)
 |lst (f:Fl) (n:Nat) (xs:List AV)
 |tg (f:Fl) (n:Nat) (xs:List AV)
 |agg (cs:List AV)
 |bp (f:Fl) (x:AV) (off:Nat)
 |sl (r i n:Nat)
 |pt (r i off:Nat)
 |fn (f:Nat) (cs:List AV)
 |tup (vs:List AV)
 |ub
 |top
instance:Inhabited AV:=⟨.top⟩
abbrev AV.i(n:Int):AV:=.sc (.int .i64 n)
abbrev AV.u8(n:Int):AV:=.sc (.int .u8 n)
abbrev AV.u64(n:Int):AV:=.sc (.int .u64 n)
abbrev AV.b(b:Bool):AV:=.sc (.bool b)
abbrev AV.z(s:ByteArray):AV:=.sc (.string s)
def AV.width:AV->Nat
 | .agg cs=>cs.length
 | .top=>0
 | .tup _=>0
 |_=>1
def AV.isAgg:AV->Bool
 | .agg _=>true
 |_=>false
def AV.cells:AV->List AV
 | .agg cs=>cs
 | .top=>[]
 | .tup _=>[]
 |x=>[x]
def AV.flat:AV->Bool
 | .sc _=>true
 | .agg cs=>cs.all fun| .sc _=>true|_=>false
 |_=>false
mutual
def AV.nrm:AV->AV
 | .sc v=>.sc v
 | .lst _ n xs=>.lst .o n (iy xs)
 | .tg _ n xs=>.lst .o n (iy xs)
 | .agg cs=>.agg (iy cs)
 | .bp _ x off=>.bp .o x.nrm off
 | .fn f cs=>.fn f (iy cs)
 |_=>.top
def iy:List AV->List AV
 |[]=>[]
 |c::cs=>c.nrm::iy cs
end
mutual
def AV.als:AV->AV
 | .sc v=>.sc v
 | .lst f n xs=>.lst f.als n (dK xs)
 | .agg cs=>.agg (dK cs)
 |_=>.top
def dK:List AV->List AV
 |[]=>[]
 |c::cs=>c.als::dK cs
end
mutual
def AV.fix:AV->AV
 | .sc v=>.sc v
 | .lst f n xs=>.lst f.fix n (gq xs)
 | .agg cs=>.agg (gq cs)
 | .tup cs=>.tup (gq cs)
 | .fn f cs=>.fn f (gq cs)
 |_=>.top
def gq:List AV->List AV
 |[]=>[]
 |c::cs=>c.fix::gq cs
end
mutual
def AV.ments:AV->List Nat
 | .sl r _ _=>[r]
 | .pt r _ _=>[r]
 | .agg cs=>aM cs
 | .fn _ cs=>aM cs
 | .tup cs=>aM cs
 |_=>[]
def aM:List AV->List Nat
 |[]=>[]
 |c::cs=>c.ments++aM cs
end
mutual
def AV.allU:AV->Prop
 | .sc _=>True
 | .lst f _ xs=>f=.u/\ke xs
 | .agg cs=>ke cs
 | .tup cs=>ke cs
 |_=>False
def ke:List AV->Prop
 |[]=>True
 |c::cs=>c.allU/\ke cs
end
mutual
def AV.allO:AV->Prop
 | .sc _=>True
 | .lst f _ xs=>f=.o/\oh xs
 | .agg cs=>oh cs
 | .tup cs=>oh cs
 |_=>False
def oh:List AV->Prop
 |[]=>True
 |c::cs=>c.allO/\oh cs
end
mutual
def AV.ou:AV->Prop
 | .sc _=>True
 | .lst f _ xs=>(f=.u/\ouL xs)\/(f=.o/\oh xs)
 | .agg cs=>ouL cs
 | .tup cs=>ouL cs
 |_=>False
def ouL:List AV->Prop
 |[]=>True
 |c::cs=>c.ou/\ouL cs
end
mutual
def AV.noU:AV->Prop
 | .sc _=>True
 | .lst f _ xs=>f≠.u/\zG xs
 | .agg cs=>zG cs
 | .tup cs=>zG cs
 |_=>False
def zG:List AV->Prop
 |[]=>True
 |c::cs=>c.noU/\zG cs
end
def sub(es:List AV)(i n:Nat):List AV:=if i=0/\n=es.length then es else(es.drop i).take n
def dZ{α:Type}(es:List α)(i:Nat)(ys:List α):List α:=if i+ys.length<=es.length then es.take i++ys++es.drop (i+ys.length) else es
inductive Row where
 |var (x:AV)
 |arr (n:Nat) (es:List AV)
 |dead
def cA:Option Row->Prop
 |some (.var _)=>True
 |some (.arr _ _)=>True
 |_=>False
def az{α:Type}(k:Nat):List (Nat×α)->Option α
 |[]=>none
 |(j,x)::l=>if j=k then some x else az k l
def put{α:Type}(k:Nat)(x:α):List (Nat×α)->List (Nat×α)
 |[]=>[(k,x)]
 |(j,y)::l=>if j=k then(k,x)::l else(j,y)::put k x l
def nT(o:Option Row)(i n:Nat):AV:=match o with
 |some (.arr w es)=>.lst .o w (iy (sub es i n))
 |_=>.top
def mR(h:AV->AV)(o:Option Row)(i off:Nat):AV:=match o with
 |some (.var y)=>if i=0 then .bp .o (h y) off else .top
 | some (.arr _ es) => match es[i]? with
   |some y=>.bp .o y.nrm off
   |none=>.top
 |_=>.top
def snp(ρ:Nat->Option Row):Nat->AV->AV
 |0,_=>.top
 | k + 1, x => match x with
   | .sl r i n=>nT (ρ r) i n
   | .pt r i off=>mR (snp ρ k) (ρ r) i off
   | .agg cs=>.agg (cs.map (snp ρ k))
   | .fn f cs=>.fn f (cs.map (snp ρ k))
   |x=>x.nrm
def mo(o:Option Row)(i n:Nat):AV:=match o with
 |some (.arr w es)=>.lst .u w (sub es i n)
 |_=>.top
def lift(ρ:Nat->Option Row):Nat->AV->AV
 |0,_=>.top
 | k + 1, x => match x with
   | .sl r i n=>mo (ρ r) i n
   | .agg cs=>.agg (cs.map (lift ρ k))
   | .tup cs=>.tup (cs.map (lift ρ k))
   | .sc v=>.sc v
   | .lst f n xs=>.lst f n xs
   |_=>.top
def adopt:Nat->Nat->AV->AV×List (Nat×Row)×Nat
 |0,c,_=>(.top,[],c)
 | k + 1, c, x => match x with
   | .lst .u n es=>(.sl c 0 es.length,[(c,.arr n (gq es))],c+1000)
   | .agg cs=>let(l,u,c):=go k c cs;(.agg l,u,c)
   | .tup cs=>let(l,u,c):=go k c cs;(.tup l,u,c)
   |x=>(x.fix,[],c)
where
 go (k:Nat):Nat->List AV->List AV×List (Nat×Row)×Nat
  |c,[]=>([],[],c)
  | c, x :: xs =>
    let(y,u,c):=adopt k c x;let(ys,us,c):=go k c xs
    (y::ys,u++us,c)
inductive X where
 |t (n:Nat)
 |c (a:AV)
inductive AOp where
 |mv (x:X)
 |pick (c a b:X)
 |alloc (z:AV)
 |box (n:Nat) (x:X)
 |build (z:List AV) (ps:List (Nat×Nat×X))
 |bsl (n:Nat) (fr:Bool) (ps:List X)
 |load (n:Nat) (ag:Bool) (x:X)
 |store (n:Nat) (x v:X)
 |bin (op:BinOp) (x y:X)
 |beq (neg:Bool) (x y:X)
 |un (op:UnOp) (x:X)
 |conv (k:IntKind) (x:X)
 |mkf (f:Nat) (cs:List X)
 |mks (n:Nat) (z:AV) (bytes:Nat) (l c:X)
 |slc (n:Nat) (x:X) (lo hi mx:Option X)
 |slz (x:X) (lo hi:Option X)
 |fad (off:Nat) (x:X)
 |idx (n:Nat) (x i:X)
 |fld (off n:Nat) (ag:Bool) (x:X)
 |stri (x i:X)
 |ext (x:X) (j:Nat)
 |call (f:Nat) (xs:List X)
 |dyn (x:X) (xs:List X)
 |callM (f:Nat) (xs:List X) (rs:List Nat)
 |dynM (x:X) (xs:List X) (rs:List Nat)
 |len (x:X)
 |lenz (x:X)
 |capn (x:X)
 |slg (n:Nat) (x hi:X)
 |apz (n:Nat) (z:AV) (bytes:Nat) (x l:X)
 |b2s (x:X)
 |isn (neg:Bool) (x:X)
 |aeq (neg:Bool) (x y:X)
 |apq (n:Nat) (x y:X)
 |slx (n:Nat) (x:X) (lo hi:Option X)
 |slm (n:Nat) (x lo hi mx:X)
 |clr (n:Nat) (z:AV) (x:X)
 |cpy (n:Nat) (x y:X)
 |ldv (av:List Nat) (n:Nat) (ag:Bool) (x:X)
 |lde (av:List Nat) (n:Nat) (ag:Bool) (x:X)
 |str (n:Nat) (x v:X)
 |lda (n:Nat) (ag:Bool) (x:X)
 |stv (n:Nat) (x v:X)
 |fdv (av:List Nat) (off:Nat) (x:X)
 |idv (av:List Nat) (n:Nat) (x i:X)
 |lnv (av:List Nat) (x:X)
 |stw (r n:Nat) (x v:X)
 |bsm (n:Nat) (ps:List X)
 |app (n bytes:Nat) (mv:Bool) (x y:X)
 |nilc (x:X)
 |mn (x y:X)
 |mx (x y:X)
 |bad
structure aX where
 d:Option Nat
 op:AOp
 gd:Option (Nat×Bool)
inductive HOp where
 |inn (t n k:Nat) (x:X) (mids:List (Nat×X)) (d f:Nat) (xs:List X)
 |har (d f:Nat) (xs:List X) (rs:List Nat)
inductive Can where
 |s (d:Nat)
 |f (far:Bool) (d r j:Nat)
 |r (d:Nat)
 |z (d:Nat)
 |e (far:Bool) (d k j:Nat)
 |w (r:Nat)
inductive aw where
 |skip
 |reg (ops:List aX) (can:List Can)
 |regh (pre:List aX) (h:HOp) (post:List aX) (can:List Can)
 |drw (ops:List aX) (can:List Can)
 |seq (a b:aw)
 |seqr (a:aw) (lv lr:List Nat) (b:aw)
 |seqa (x a:aw) (lv lr:List Nat) (b:aw)
 |seqb (a:aw) (lv:List Nat) (b:aw)
 |cond (x:X) (a b:aw)
 |blk (id:Nat) (a:aw)
 |loop (a:aw)
 |exit (id:Nat)
 |ret
structure St where
 env:List (Nat×AV)
 rows:List (Nat×Row)
def St.get(σ:St)(k:Nat):AV:=(az k σ.env).getD .top
def St.row(σ:St)(r:Nat):Option Row:=az r σ.rows
def St.gx(σ:St):X->AV
 | .t n=>σ.get n
 | .c a=>a
def bi(l:List (Nat×Row))(rows:List (Nat×Row)):List (Nat×Row):=l.foldl (fun rs p=>put p.1 p.2 rs) rows
def St.app(σ:St)(d:Option Nat)(v:AV)(u:List (Nat×Row)):St:=
 {env:=match d with|some d=>put d v σ.env|none=>σ.env,rows:=bi u σ.rows}
def St.know(σ:St)(s:Nat)(b:Bool):St:={σ with env:=put s (.b b) σ.env}
def I64(n:Int):Prop:=-9223372036854775808<=n/\n<=9223372036854775807
def fill(cs:List AV)(off:Nat)(v:AV):List AV:=cs.take off++v.cells++cs.drop (off+v.cells.length)
def lX:List AV->List (Nat×AV)->List AV
 |cs,[]=>cs
 |cs,(off,v)::l=>lX (fill cs off v) l
def part(x:AV)(off n:Nat)(ag:Bool):Option AV:=
 if ag then(if x.isAgg=true/\off+n<=x.width then some (if off=0/\n=x.width then .agg x.cells else .agg ((x.cells.drop off).take n)) else none)
 else x.cells[off]?
def setPart(x:AV)(off:Nat)(v:AV):Option AV:=
 if x.isAgg=true then
  (if v.isAgg=true then(if off=0/\v.width=x.width then some v else if off+v.width<=x.width then some (.agg (fill x.cells off v)) else none)
   else if off+1<=x.width then some (.agg (fill x.cells off v)) else none)
 else if off=0/\v.isAgg=false/\x.width=1 then some v else none
def bits(op:BinOp)(k:IntKind)(x y:Int):Int:=
 let a:=BitVec.ofInt k.bits x;let b:=BitVec.ofInt k.bits y
 k.wrap (match op with| .and=>(a &&& b).toNat| .or=>(a ||| b).toNat| .xor=>(a ^^^ b).toNat|_=>(a &&& ~~~b).toNat)
def ofI(k:IntKind)(n:Int)(K:AV->Prop):Prop:=K (.sc (.int k (k.wrap n)))
def dX(op:BinOp)(k:IntKind)(a b:Int)(K:AV->Prop):Prop:=
 match op with
 | .add=>ofI k (a+b) K
 | .sub=>ofI k (a-b) K
 | .mul=>ofI k (a*b) K
 | .quo=>b≠0/\ofI k (a.tdiv b) K
 | .rem=>b≠0/\K (.sc (.int k (a.tmod b)))
 | .and=>K (.sc (.int k (bits .and k a b)))
 | .or=>K (.sc (.int k (bits .or k a b)))
 | .xor=>K (.sc (.int k (bits .xor k a b)))
 | .andNot=>K (.sc (.int k (bits .andNot k a b)))
 | .eql=>K (.b (a==b))
 | .neq=>K (.b (a !=b))
 | .lss=>K (.b (decide (a<b)))
 | .leq=>K (.b (decide (a<=b)))
 | .gtr=>K (.b (decide (a>b)))
 | .geq=>K (.b (decide (a>=b)))
 |_=>False
def eP(op:BinOp)(k:IntKind)(a y:Int)(K:AV->Prop):Prop:=
 0<=y/\match op with
 | .shl=>ofI k (a*2^(min y.toNat k.bits)) K
 | .shr=>K (.sc (.int k (a.fdiv (2^(min y.toNat k.bits)))))
 |_=>False
def dx(op:BinOp)(x y:AV)(K:AV->Prop):Prop:=
 match x,y with
 | .sc (.int k a), .sc (.int k' b) =>
   match op with
   | .shl=>eP .shl k a b K
   | .shr=>eP .shr k a b K
   |op=>k=k'/\dX op k a b K
 | .sc (.string a), .sc (.string b) =>
   match op with
   | .add=>a.size+b.size<=9223372036854775807/\K (.z (a++b))
   | .eql=>K (.b (a.toList==b.toList))
   | .neq=>K (.b (!(a.toList==b.toList)))
   |_=>False
 |_,_=>False
def unV(op:UnOp)(x:AV)(K:AV->Prop):Prop:=
 match op,x with
 | .neg,.sc (.int k n)=>ofI k (0-n) K
 | .not,.sc (.bool b)=>K (.b (!b))
 |_,_=>False
def bW(rs:List Nat):List (Nat×Row):=rs.map fun r=>(r,.dead)
def mT(n:Nat)(o:Option Row)(i k:Nat):Option (List AV):=match o with
 |some (.arr w es)=>if w=n then some (dK (sub es i k)) else none
 |_=>none
def cV(n:Nat)(ρ:Nat->Option Row):AV->Option (List AV)
 | .lst _ w xs=>if w=n then some xs else none
 | .tg _ w xs=>if w=n then some xs else none
 | .sl r i k=>mT n (ρ r) i k
 |_=>none
def wJ(n r m:Nat)(o:Option Row):Option (List AV×List (Nat×Row)):=match o with
 |some (.arr w ys)=>if w=n/\m=ys.length then some (ys,[(r,.dead)]) else none
 |_=>none
def im(o:Option (List AV)):Option (List AV×List (Nat×Row)):=match o with
 |some ys=>some (ys,[])
 |none=>none
def jA(ρ:Nat->Option Row)(n:Nat)(mv:Bool)(y:AV):Option (List AV×List (Nat×Row)):=match mv,y with
 |true,.sl r 0 m=>wJ n r m (ρ r)
 |_,y=>im (cV n ρ y)
def bOk(o:Option AV):Prop:=match o with
 |none=>True
 |some (.sc (.int _ n))=>0<=n
 |_=>False
def bV(o:Option AV)(dflt:Nat):Nat:=match o with
 |some (.sc (.int _ n))=>n.toNat
 |_=>dflt
def u8s:List AV->Option (List Int)
 |[]=>some []
 | .sc (.int .u8 n) :: xs => match u8s xs with
   |some ns=>some (n::ns)
   |none=>none
 |_=>none
def b2s(ns:List Int):ByteArray:=ns.foldl (fun r n=>r.push (UInt8.ofNat n.toNat)) ByteArray.empty
def opt{α:Type}(o:Option α)(K:α->Prop):Prop:=match o with
 |some v=>K v
 |none=>False
section
variable(K:AV->List (Nat×Row)->Prop)
def k1(v:AV):Prop:=K v []
def lO(c a b:AV):Prop:=match c with
 | .sc (.bool t)=>(t=true->K a [])/\(t=false->K b [])
 |_=>False
def JD(off n:Nat)(ag:Bool)(y:AV):Prop:=opt (part y.als off n ag) (k1 K)
def eF(o:Option Row)(i off n:Nat)(ag:Bool):Prop:=match o with
 |some (.var y)=>i=0/\opt (part y off n ag) (k1 K)
 |some (.arr _ es)=>opt es[i]? (JD K off n ag)
 |_=>False
def ey(ρ:Nat->Option Row)(n:Nat)(ag:Bool)(x:AV):Prop:=match x with
 | .bp _ y off=>opt (part y off n ag) (k1 K)
 | .pt r i off=>eF K (ρ r) i off n ag
 |_=>False
def Gr(r:Nat)(y:AV):Prop:=K .top [(r,.var y)]
def yo(u:List (Nat×Row))(r w i:Nat)(es:List AV)(y:AV):Prop:=K .top (u++[(r,.arr w (es.set i y))])
def qD(ρ:Nat->Option Row)(r w i off:Nat)(es:List AV)(v y:AV):Prop:=
 r∉v.ments/\v.ments.Nodup/\(lift ρ 2 v).width=v.width/\opt (setPart y off (lift ρ 2 v)) (yo K (bW v.ments) r w i es)
def ed(ρ:Nat->Option Row)(o:Option Row)(r i off:Nat)(v:AV):Prop:=match o with
 |some (.var y)=>i=0/\opt (setPart y off v) (Gr K r)
 |some (.arr w es)=>opt es[i]? (qD K ρ r w i off es v)
 |_=>False
def dL(ρ:Nat->Option Row)(n:Nat)(x v:AV):Prop:=match x with
 | .pt r i off=>v.width=n/\ed K ρ (ρ r) r i off v
 |_=>False
def iPt(av:List Nat):AV->Prop
 | .sl r _ _=>r∉av
 | .lst _ _ _=>True
 |_=>False
def yA:Option Row->Prop
 |some (.var _)=>True
 |_=>False
def zm:Option Row->Prop
 |some (.arr _ _)=>True
 |_=>False
def lPt(av:List Nat):AV->Prop
 | .pt r _ _=>r∉av
 | .bp _ _ _=>True
 |_=>False
def vPt(av:List Nat)(ρ:Nat->Option Row):AV->Prop
 | .pt r _ _=>r∉av/\yA (ρ r)
 | .bp _ _ _=>True
 |_=>False
def aPt(ρ:Nat->Option Row):AV->Prop
 | .pt r _ _=>zm (ρ r)
 |_=>False
def aPb(ρ:Nat->Option Row):AV->Prop
 | .pt r _ _=>zm (ρ r)
 | .bp _ _ _=>True
 |_=>False
def wPt(r:Nat)(ρ:Nat->Option Row):AV->Prop
 | .pt q _ _=>q=r/\yA (ρ q)
 |_=>False
def vPv(ρ:Nat->Option Row):AV->Prop
 | .pt r _ _=>yA (ρ r)
 |_=>False
def wP(neg:Bool)(x y:AV):Prop:=match x,y with
 | .sc (.bool a),.sc (.bool b)=>K (.sc (.bool (if neg then !(a==b) else(a==b)))) []
 |_,_=>False
def Nc(neg:Bool)(x y:AV):Prop:=match x,y with
 | .agg [.sc (.int .i64 a),.sc (.int .i64 b)],.agg [.sc (.int .i64 c),.sc (.int .i64 e)]=>K (.sc (.bool (if neg then !(a==c&&b==e) else(a==c&&b==e)))) []
 |_,_=>False
def pW(k:IntKind)(x:AV):Prop:=match x with
 | .sc (.int _ n)=>K (.sc (.int k (k.wrap n))) []
 |_=>False
def sm(o:Option Row)(d n:Nat)(z:AV)(bytes:Nat)(l c:AV):Prop:=match l,c with
 | .sc (.int .i64 l),.sc (.int .i64 c)=>o=none/\z.width=n/\0<=l/\l<=c/\c*bytes<=140737488355328/\c<=9223372036854775807/\K (.sl d 0 l.toNat) [(d,.arr n (List.replicate l.toNat z))]
 |_,_=>False
def qe(ρ:Nat->Option Row)(n:Nat)(x:AV)(lo hi mx:Option AV):Prop:=match x with
 | .lst f w xs=>w=n/\bOk lo/\bOk hi/\bV lo 0<=bV hi xs.length/\bV hi xs.length<=xs.length/\
  match mx with
  |none=>K (.lst f n (sub xs (bV lo 0) (bV hi xs.length-bV lo 0))) []
  |some m=>hi.isSome/\bOk (some m)/\bV (some m) 0=bV hi xs.length/\K (.tg f n (sub xs (bV lo 0) (bV hi xs.length-bV lo 0))) []
 | .sl r i m=>(∃es,ρ r=some (.arr n es))/\bOk lo/\bOk hi/\bV lo 0<=bV hi m/\bV hi m<=m/\mx=none/\K (.sl r (i+bV lo 0) (bV hi m-bV lo 0)) []
 |_=>False
def RM(x:AV)(lo hi:Option AV):Prop:=match x with
 | .sc (.string s)=>bOk lo/\bOk hi/\bV lo 0<=bV hi s.size/\bV hi s.size<=s.size/\K (.sc (.string (s.extract (bV lo 0) (bV hi s.size)))) []
 |_=>False
def lZ(ρ:Nat->Option Row)(off:Nat)(x:AV):Prop:=match x with
 | .bp f y o=>K (.bp f y (o+off)) []
 | .pt r i o=>cA (ρ r)/\K (.pt r i (o+off)) []
 |_=>False
def VQ(f:Fl)(y:AV):Prop:=K (.bp f y 0) []
def jM(ρ:Nat->Option Row)(n:Nat)(x i:AV):Prop:=match x,i with
 | .lst f w xs,.sc (.int _ j)=>w=n/\0<=j/\opt xs[j.toNat]? (VQ K f.als)
 | .sl r a m,.sc (.int _ j)=>(∃es,ρ r=some (.arr n es))/\0<=j/\j<m/\K (.pt r (a+j.toNat) 0) []
 |_,_=>False
def yR(off n:Nat)(ag:Bool)(x:AV):Prop:=x.isAgg=true/\opt (part x off n ag) (k1 K)
def UH(c:UInt8):Prop:=K (.sc (.int .u8 c.toNat)) []
def pH(x i:AV):Prop:=match x,i with
 | .sc (.string s),.sc (.int _ j)=>0<=j/\opt s[j.toNat]? (UH K)
 |_,_=>False
def yE(x:AV)(j:Nat):Prop:=match x with
 | .tup vs=>opt vs[j]? (k1 K)
 |_=>False
def lF(ρ:Nat->Option Row)(x:AV):Prop:=match x with
 | .lst _ _ xs=>K (.i xs.length) []
 | .tg _ _ xs=>K (.i xs.length) []
 | .sl r _ n=>(∃w es,ρ r=some (.arr w es))/\K (.i n) []
 |_=>False
def pQ(x:AV):Prop:=match x with
 | .lst .u _ []=>K (.i 0) []
 |_=>False
def zF(n:Nat)(x hi:AV):Prop:=match x,hi with
 | .lst .u w [],.sc (.int _ h)=>w=n/\h=0/\K (.lst .u n []) []
 |_,_=>False
def pO(x:AV):Prop:=match x with
 | .sc (.string s)=>K (.i s.size) []
 |_=>False
def Jr(ns:List Int):Prop:=K (.sc (.string (b2s ns))) []
def vU(o:Option Row)(i m:Nat):Prop:=match o with
 |some (.arr w es)=>w=1/\opt (u8s (sub es i m)) (Jr K)
 |_=>False
def xV(ρ:Nat->Option Row)(x:AV):Prop:=match x with
 | .lst _ w xs=>w=1/\opt (u8s xs) (Jr K)
 | .sl r i m=>vU K (ρ r) i m
 |_=>False
def wz(o:Option Row)(r n:Nat)(z:AV)(i m:Nat):Prop:=match o with
 |some (.arr w es)=>w=n/\z.width=n/\K (.tup []) [(r,.arr w (dZ es i (List.replicate m z)))]
 |_=>False
def Cm(ρ:Nat->Option Row)(n:Nat)(z x:AV):Prop:=match x with
 | .sl r i m=>wz K (ρ r) r n z i m
 |_=>False
def vo(o:Option Row)(r n i m:Nat)(ys:List AV):Prop:=match o with
 |some (.arr w es)=>w=n/\K (.i (min ys.length m:Nat)) [(r,.arr w (dZ es i (ys.take (min ys.length m))))]
 |_=>False
def DT(ρ:Nat->Option Row)(n:Nat)(x y:AV):Prop:=match x with
 | .sl r i m=>opt (cV n ρ y) (vo K (ρ r) r n i m)
 |_=>False
def rQ(neg e:Bool):Prop:=K (cond e .ub (.b neg)) []
def ws(ρ:Nat->Option Row)(neg:Bool)(x:AV):Prop:=match x with
 | .lst _ _ xs=>rQ K neg xs.isEmpty
 | .tg _ _ xs=>rQ K neg xs.isEmpty
 | .sl r _ n=>(∃w es,ρ r=some (.arr w es))/\rQ K neg (n==0)
 |_=>False
def QA(o:Option Row)(r n i m:Nat)(ys:List AV):Prop:=match o with
 |some (.arr w es)=>w=n/\i+m+ys.length<=es.length/\K (.sl r i (m+ys.length)) [(r,.arr w (dZ es (i+m) ys))]
 |_=>False
def Vp(ρ:Nat->Option Row)(n:Nat)(x y:AV):Prop:=match x with
 | .sl r i m=>opt (cV n ρ y) (QA K (ρ r) r n i m)
 |_=>False
def xh(o:Option Row)(r n i m:Nat)(lo hi:Option AV):Prop:=match o with
 |some (.arr w es)=>w=n/\bOk lo/\bOk hi/\bV lo 0<=bV hi m/\i+bV hi m<=es.length/\K (.sl r (i+bV lo 0) (bV hi m-bV lo 0)) []
 |_=>False
def Gf(ρ:Nat->Option Row)(n:Nat)(x:AV)(lo hi:Option AV):Prop:=match x with
 | .sl r i m=>xh K (ρ r) r n i m lo hi
 |_=>False
def AN(o:Option Row)(n m:Nat)(lo hi mx:AV):Prop:=match o,lo,hi,mx with
 |some (.arr w _),.sc (.int _ l),.sc (.int _ h),.sc (.int _ q)=>w=n/\0<=l/\l<=h/\h<=q/\q<=(m:Int)/\K .top []
 |_,_,_,_=>False
def Ui(ρ:Nat->Option Row)(n:Nat)(x lo hi mx:AV):Prop:=match x with
 | .sl r _ m=>AN K (ρ r) n m lo hi mx
 |_=>False
def nr(o:Option Row)(d n bytes r i m:Nat)(p:List AV×List (Nat×Row)):Prop:=match o with
 |some (.arr w es)=>w=n/\r∉p.2.map (·.1)/\(m+p.1.length)*bytes<=140737488355328/\K (.sl d 0 (m+p.1.length)) ((r,.dead)::p.2++[(d,.arr n (sub es i m++p.1))])
 |_=>False
def vj(d n bytes w:Nat)(es:List AV)(p:List AV×List (Nat×Row)):Prop:=
 w=n/\0<p.1.length/\(es.length+p.1.length)*bytes<=140737488355328/\K (.sl d 0 (es.length+p.1.length)) (p.2++[(d,.arr n (dK es++p.1))])
def qq(ρ:Nat->Option Row)(d n bytes:Nat)(mv:Bool)(x y:AV):Prop:=match x with
 | .sl r i m=>ρ d=none/\opt (jA ρ n mv y) (nr K (ρ r) d n bytes r i m)
 | .tg _ w es=>ρ d=none/\opt (jA ρ n mv y) (vj K d n bytes w es)
 |_=>False
def Dh(o:Option Row)(d n:Nat)(z:AV)(bytes:Nat)(x l:AV):Prop:=match x,l with
 | .lst .u w [],.sc (.int .i64 l)=>o=none/\w=n/\z.width=n/\n=1/\0<l/\l*bytes<=140737488355328/\K (.sl d 0 l.toNat) [(d,.arr n (List.replicate l.toNat z))]
 |_,_=>False
def rX(ρ:Nat->Option Row)(x:AV):Prop:=match x with
 | .bp f y o=>K (.bp f y o) []
 | .pt r i o=>cA (ρ r)/\K (.pt r i o) []
 |_=>False
def eMn(x y:AV):Prop:=match x,y with
 | .sc (.int k a),.sc (.int k' b)=>k=k'/\K (.sc (.int k (if b<a then b else a))) []
 |_,_=>False
def eMx(x y:AV):Prop:=match x,y with
 | .sc (.int k a),.sc (.int k' b)=>k=k'/\K (.sc (.int k (if a<b then b else a))) []
 |_,_=>False
end
structure Oks where
 p:Nat->List AV->AV->Prop
 m:Nat->List AV->List (Nat×Row)->AV->List (Nat×Row)->Prop
 h:Nat->List AV->List (Nat×Row)->AV->List (Nat×Row)->Prop
mutual
def AV.rg(h:Nat->Nat):AV->AV
 | .sl q i n=>.sl (h q) i n
 | .pt q i o=>.pt (h q) i o
 | .agg cs=>.agg (rgL h cs)
 | .fn f cs=>.fn f (rgL h cs)
 | .tup cs=>.tup (rgL h cs)
 |x=>x
def rgL(h:Nat->Nat):List AV->List AV
 |[]=>[]
 |c::cs=>c.rg h::rgL h cs
end
def Row.rg(h:Nat->Nat):Row->Row
 | .var x=>.var (x.rg h)
 |x=>x
def pos(r:Nat):List Nat->Nat
 |[]=>0
 |x::xs=>if x=r then 0 else pos r xs+1
def cnm(rs:List Nat)(r:Nat):Nat:=1000000000+pos r rs
def bkn(d:Nat)(rs:List Nat)(q:Nat):Nat:=if 1000000000<=q then rs.getD (q-1000000000) 0 else q+100000*(d+1)
def ig(ρ:Nat->Option Row)(rs:List Nat)(r:Nat):Nat×Row:=(cnm rs r,((ρ r).getD .dead).rg (cnm rs))
def de(d:Nat)(rs:List Nat)(p:Nat×Row):Nat×Row:=(bkn d rs p.1,p.2.rg (bkn d rs))
def ny:Option Row->List Nat
 |some (.var x)=>x.ments
 |_=>[]
section
variable(ok:Oks)
def callM(ρ:Nat->Option Row)(d f:Nat)(args:List AV)(rs:List Nat)(K:AV->List (Nat×Row)->Prop):Prop:=
 ∃ res outs, ok.m f (args.map (AV.rg (cnm rs))) (rs.map (ig ρ rs)) res outs ∧
   (rs.Nodup/\(∀r∈rs,cA (ρ r))/\(∀r∈rs,∀q∈ny (ρ r),q∈rs)/\(∀r∈aM args,r∈rs))/\
   ((outs.map fun p => bkn d rs p.1).Nodup ∧ (∀ p ∈ outs, 1000000000 ≤ p.1 → p.1 - 1000000000 < rs.length) ∧
     (∀p∈outs,p.1<1000000000->ρ (bkn d rs p.1)=none/\bkn d rs p.1<1000000000))/\
   K (res.rg (bkn d rs)) (bW rs++outs.map (de d rs))
def rn(ρ:Nat->Option Row)(d:Nat)(x:AV)(xs:List AV)(rs:List Nat)(K:AV->List (Nat×Row)->Prop):Prop:=match x with
 | .fn f cs=>callM ok ρ d f (xs++cs) rs K
 |_=>False
def gi(ρ:Nat->Option Row)(d f:Nat)(args:List AV)(K:AV->List (Nat×Row)->Prop):Prop:=
 ∃ res, ok.p f (args.map (snp ρ 4)) res ∧ (res.allU ∨ aM args = [] ∧ (res.ou ∨ res.noU)) ∧ (∀ p ∈ (adopt 4 d res).2.1, ρ p.1 = none ∧ p.1 < 1000000000) ∧
   K (adopt 4 d res).1 (adopt 4 d res).2.1
def wR(ρ:Nat->Option Row)(d:Nat)(x:AV)(xs:List AV)(K:AV->List (Nat×Row)->Prop):Prop:=match x with
 | .fn f cs=>gi ok ρ d f (xs++cs) K
 |_=>False
def eff(g:X->AV)(ρ:Nat->Option Row)(d:Nat):AOp->(AV->List (Nat×Row)->Prop)->Prop
 | .mv x,K=>K (g x) []
 | .pick c a b,K=>lO K (g c) (g a) (g b)
 | .alloc z,K=>ρ d=none/\K (.pt d 0 0) [(d,.var z)]
 | .box n x,K=>ρ d=none/\(g x).width=n/\K (.pt d 0 0) [(d,.var (g x))]
 | .build z ps,K=>(∀p∈ps,(g p.2.2).width=p.2.1/\p.1+p.2.1<=z.length)/\K (.agg (lX z (ps.map fun p=>(p.1,g p.2.2)))) []
 | .bsl n fr ps,K=>(fr=true->aM (ps.map g)=[])/\ρ d=none/\(∀p∈ps,(g p).width=n)/\(aM (ps.map g)).Nodup/\
  K (.sl d 0 ps.length) (bW (aM (ps.map g))++[(d,.arr n ((ps.map g).map (lift ρ 2)))])
 | .load n ag x,K=>ey K ρ n ag (g x)
 | .store n x v,K=>dL K ρ n (g x) (g v)
 | .bin op x y,K=>dx op (g x) (g y) (k1 K)
 | .beq neg x y,K=>wP K neg (g x) (g y)
 | .un op x,K=>unV op (g x) (k1 K)
 | .conv k x,K=>pW K k (g x)
 | .mkf f cs,K=>K (.fn f (cs.map g)) []
 | .mks n z bytes l c,K=>sm K (ρ d) d n z bytes (g l) (g c)
 | .slc n x lo hi mx,K=>qe K ρ n (g x) (lo.map g) (hi.map g) (mx.map g)
 | .slz x lo hi,K=>RM K (g x) (lo.map g) (hi.map g)
 | .fad off x,K=>lZ K ρ off (g x)
 | .idx n x i,K=>jM K ρ n (g x) (g i)
 | .idv av n x i,K=>iPt av (g x)/\jM K ρ n (g x) (g i)
 | .lnv av x,K=>iPt av (g x)/\lF K ρ (g x)
 | .stw r n x v,K=>wPt r ρ (g x)/\dL K ρ n (g x) (g v)
 | .fld off n ag x,K=>yR K off n ag (g x)
 | .stri x i,K=>pH K (g x) (g i)
 | .ext x j,K=>yE K (g x) j
 | .call f xs,K=>gi ok ρ d f (xs.map g) K
 | .dyn x xs,K=>wR ok ρ d (g x) (xs.map g) K
 | .callM f xs rs,K=>callM ok ρ d f (xs.map g) rs K
 | .dynM x xs rs,K=>rn ok ρ d (g x) (xs.map g) rs K
 | .len x,K=>lF K ρ (g x)
 | .lenz x,K=>pO K (g x)
 | .capn x,K=>pQ K (g x)
 | .slg n x hi,K=>zF K n (g x) (g hi)
 | .apz n z bytes x l,K=>Dh K (ρ d) d n z bytes (g x) (g l)
 | .b2s x,K=>xV K ρ (g x)
 | .isn neg x,K=>ws K ρ neg (g x)
 | .aeq neg x y,K=>Nc K neg (g x) (g y)
 | .apq n x y,K=>Vp K ρ n (g x) (g y)
 | .slx n x lo hi,K=>Gf K ρ n (g x) (lo.map g) (hi.map g)
 | .slm n x lo hi mx,K=>Ui K ρ n (g x) (g lo) (g hi) (g mx)
 | .clr n z x,K=>Cm K ρ n z (g x)
 | .cpy n x y,K=>DT K ρ n (g x) (g y)
 | .ldv av n ag x,K=>vPt av ρ (g x)/\ey K ρ n ag (g x)
 | .lde av n ag x,K=>lPt av (g x)/\ey K ρ n ag (g x)
 | .str n x v,K=>aPt ρ (g x)/\(g v).ments=[]/\dL K ρ n (g x) (g v)
 | .lda n ag x,K=>aPb ρ (g x)/\ey K ρ n ag (g x)
 | .stv n x v,K=>vPv ρ (g x)/\dL K ρ n (g x) (g v)
 | .fdv av off x,K=>vPt av ρ (g x)/\lZ K ρ off (g x)
 | .bsm n ps,K=>(∀r∈aM (ps.map g),zm (ρ r))/\ρ d=none/\(∀p∈ps,(g p).width=n)/\(aM (ps.map g)).Nodup/\
  K (.sl d 0 ps.length) (bW (aM (ps.map g))++[(d,.arr n ((ps.map g).map (lift ρ 2)))])
 | .app n bytes mv x y,K=>qq K ρ d n bytes mv (g x) (g y)
 | .nilc x,K=>rX K ρ (g x)
 | .mn x y,K=>eMn K (g x) (g y)
 | .mx x y,K=>eMx K (g x) (g y)
 | .bad,_=>False
def eU(σ:St)(s:Nat)(w:Bool)(x:AV)(A B:St->Prop):Prop:=match x with
 | .sc (.bool t)=>(t=w->A (σ.know s w))/\(t=!w->B (σ.know s (!w)))
 | .tup []=>B σ
 |_=>False
def Sg(d:Option Nat)(R:St->Prop)(σ:St)(v:AV)(u:List (Nat×Row)):Prop:=R (σ.app d v u)
def zX(d:Option Nat)(o:AOp)(R:St->Prop)(σ:St):Prop:=eff ok σ.gx σ.row (d.getD 0) o (Sg d R σ)
def JA(d:Option Nat)(R:St->Prop)(σ:St):Prop:=R (σ.app d (.tup []) [])
def UL(o:aX)(σ:St)(R:St->Prop):Prop:=
 match o.gd with
 |none=>zX ok o.d o.op R σ
 |some (s,w)=>eU σ s w (σ.get s) (zX ok o.d o.op R) (JA o.d R)
def dF:List aX->(St->Prop)->St->Prop
 |[],K,σ=>K σ
 |o::os,K,σ=>UL ok o σ (dF os K)
mutual
def AV.fz:AV->Bool
 | .sc _=>true
 | .lst f _ xs=>(match f with| .o=>fzL xs|_=>false)
 | .agg cs=>fzL cs
 | .tup cs=>fzL cs
 | .fn _ cs=>fzL cs
 | .bp f x _=>(match f with| .o=>x.fz|_=>false)
 | .sl _ _ _=>true
 | .pt _ _ _=>true
 | .top=>true
 | .ub=>true
 |_=>false
def fzL:List AV->Bool
 |[]=>true
 |c::cs=>c.fz&&fzL cs
end
mutual
def AV.ouB:AV->Bool
 | .sc _=>true
 | .lst f _ xs=>(match f with| .o=>fzL xs| .u=>dC xs|_=>false)
 | .agg cs=>dC cs
 | .top=>true
 |_=>false
def dC:List AV->Bool
 |[]=>true
 |c::cs=>c.ouB&&dC cs
end
def Row.fz:Row->Bool
 | .var x=>x.fz
 | .arr _ es=>dC es
 | .dead=>true
def St.fz(σ:St):Bool:=σ.env.all (fun p=>p.2.fz)&&σ.rows.all (fun p=>p.2.fz)
def pY:List (Nat×X)->St->St
 |[],σ=>σ
 |(d,x)::ms,σ=>pY ms (σ.app (some d) (σ.gx x) [])
def rK(τ:St)(t len:Nat):X->AV
 | .t j=>if j=t then .sl 1000000000 0 len else τ.get j
 | .c a=>a
def tD(τ:St)(t:Nat):X->Prop
 | .t j=>j=t\/(τ.get j).ments=[]
 | .c a=>a.ments=[]
def Ur(K:St->Prop)(τ:St)(t n k d f:Nat)(xs:List X)(r i off:Nat)(es:List AV)(y:AV)(ys:List AV):Prop:=
 ys.all AV.flat=true/\τ.fz=true/\(∀x∈xs,tD τ t x)/\
 ∃ v ys', ok.m f (xs.map (rK τ t ys.length)) [(1000000000, .arr k ys)] (.sc v) [(1000000000, .arr k ys')] ∧ ys'.all AV.flat = true ∧
   opt (setPart y off (.lst .u k ys')) fun z=>K (τ.app (some d) (.sc v) [(r,.arr n (es.set i z))])
def Jw(K:St->Prop)(τ:St)(t n k d f:Nat)(xs:List X)(r i off:Nat)(es:List AV)(y:AV):AV->Prop
 | .lst .u w ys=>w=k/\Ur ok K τ t n k d f xs r i off es y ys
 |_=>False
def GI(K:St->Prop)(τ:St)(t n k d f:Nat)(xs:List X)(r i off:Nat):Option Row->Prop
 |some (.arr w es)=>w=n/\opt es[i]? fun y=>opt (part y off 1 false) (Jw ok K τ t n k d f xs r i off es y)
 |_=>False
def HA(K:St->Prop)(σ τ:St)(t n k d f:Nat)(xs:List X):AV->Prop
 | .pt r i off=>GI ok K τ t n k d f xs r i off (σ.row r)
 |_=>False
def Wg(d:Nat)(K:St->Prop)(σ:St)(v:AV)(u:List (Nat×Row)):Prop:=K (σ.app (some d) v u)
def stH(h:HOp)(K:St->Prop)(σ:St):Prop:=match h with
 | .inn t n k x mids d f xs=>HA ok K σ (pY mids (σ.app (some t) .top [])) t n k d f xs (σ.gx x)
 | .har d f xs rs=>σ.fz=true/\callM ⟨ok.p,ok.h,ok.h⟩ σ.row d f (xs.map σ.gx) rs (Wg d K σ)
def AV.hush(r:Nat)(a:AV):AV:=if r∈a.ments then .top else a
mutual
def AV.ren(r d:Nat):AV->AV
 | .sl q i n=>.sl (if q=r then d else q) i n
 | .pt q i o=>.pt (if q=r then d else q) i o
 | .agg cs=>.agg (je r d cs)
 | .fn f cs=>.fn f (je r d cs)
 | .tup cs=>.tup (je r d cs)
 |x=>x
def je(r d:Nat):List AV->List AV
 |[]=>[]
 |c::cs=>c.ren r d::je r d cs
end
def Row.map(h:AV->AV):Row->Row
 | .var x=>.var (h x)
 |x=>x
def Row.hush(r:Nat):Row->Row
 | .var x=>if r∈x.ments then .dead else .var x
 |x=>x
def del{α:Type}(k:Nat):List (Nat×α)->List (Nat×α)
 |[]=>[]
 |(j,x)::l=>if j=k then del k l else(j,x)::del k l
def St.canSl (σ : St) (d r i n : Nat) : St :=
    if r=d\/1000000000<=r then σ
    else
     { env:=put d (.sl d i n) ((σ.env.map fun p=>(p.1,p.2.hush d)).map fun p=>(p.1,p.2.ren r d)),
       rows:=((del d σ.rows).map fun p=>(p.1,p.2.hush d)).map fun p=>(if p.1=r then d else p.1,p.2.map (·.ren r d))}
def St.canSr (σ : St) (d r i n : Nat) : St :=
    if r=d then σ
    else
     { env:=put d (.sl d i n) ((σ.env.map fun p=>(p.1,p.2.hush d)).map fun p=>(p.1,p.2.ren r d)),
       rows:=((del d σ.rows).map fun p=>(p.1,p.2.hush d)).map fun p=>(if p.1=r then d else p.1,p.2.map (·.ren r d))}
def St.canNil (σ : St) (d n : Nat) : St :=
    { env:=put d (.sl d 0 0) (σ.env.map fun p=>(p.1,p.2.hush d)),
      rows:=put d (.arr n []) ((del d σ.rows).map fun p=>(p.1,p.2.hush d))}
def St.canV(σ:St)(d:Nat)(x:AV):St:=match x with
 | .sl r i n=>σ.canSl d r i n
 | .lst .u n []=>σ.canNil d n
 |_=>σ
def St.canW(σ:St)(d:Nat)(x:AV):St:=match x with
 | .sl r i n=>σ.canSr d r i n
 | .lst .u n []=>σ.canNil d n
 |_=>σ
def St.canZr(σ:St)(d i m:Nat)(r:Nat):Option Row->St
 |some (.arr q es)=>⟨put d (.lst .m q (dK (sub es i m))) σ.env,put r .dead σ.rows⟩
 |_=>σ
def gS:List AV->Nat->AV->List AV
 |[],_,_=>[]
 |_::xs,0,y=>y::xs
 |x::xs,j+1,y=>x::gS xs j y
def St.canZcr(σ:St)(d:Nat)(all:List AV)(j r i m:Nat):Option Row->St
 |some (.arr q es)=>⟨put d (.agg (gS all j (.lst .m q (dK (sub es i m))))) σ.env,put r .dead σ.rows⟩
 |_=>σ
def St.canZc(σ:St)(d:Nat)(all:List AV):Nat->List AV->St
 |_,[]=>σ
 |j,.sl r i m::_=>σ.canZcr d all j r i m (az r σ.rows)
 |j,_::cs=>σ.canZc d all (j+1) cs
def St.canZ(σ:St)(d:Nat)(x:AV):St:=match x with
 | .sl r i m=>σ.canZr d i m r (az r σ.rows)
 | .agg cs=>σ.canZc d cs 0 cs
 |_=>σ
def rE:List AV->Nat->AV
 |[],_=>.top
 |x::_,0=>x
 |_::xs,j+1=>rE xs j
def gZ(j:Nat):Option Row->AV
 |some (.var (.agg cs))=>rE cs j
 |some (.var (.sl q i m))=>if j=0 then .sl q i m else .top
 |some (.var (.lst f m xs))=>if j=0 then .lst f m xs else .top
 |_=>.top
def St.canFN(σ:St)(d r j m:Nat):Option Row->St
 |some (.var (.agg cs))=>⟨σ.env.map fun p=>(p.1,p.2.hush d),put d (.arr m []) (put r (.var (.agg (gS cs j (.sl d 0 0)))) ((del d σ.rows).map fun p=>(p.1,p.2.hush d)))⟩
 |some (.var (.lst .u _ []))=>⟨σ.env.map fun p=>(p.1,p.2.hush d),put d (.arr m []) (put r (.var (.sl d 0 0)) ((del d σ.rows).map fun p=>(p.1,p.2.hush d)))⟩
 |_=>σ
def St.canG(σ:St)(far:Bool)(d r j:Nat):AV->St
 | .sl q _ _=>if q=d\/far=false/\1000000000<=q then σ else
  ⟨(σ.env.map fun p=>(p.1,p.2.hush d)).map fun p=>(p.1,p.2.ren q d),((del d σ.rows).map fun p=>(p.1,p.2.hush d)).map fun p=>(if p.1=q then d else p.1,p.2.map (·.ren q d))⟩
 | .lst .u m []=>σ.canFN d r j m (az r ((del d σ.rows).map fun p=>(p.1,p.2.hush d)))
 |_=>σ
def St.canEN(σ:St)(d k j m:Nat):Option AV->St
 |some (.agg cs)=>⟨put k (.agg (gS cs j (.sl d 0 0))) (σ.env.map fun p=>(p.1,p.2.hush d)),put d (.arr m []) ((del d σ.rows).map fun p=>(p.1,p.2.hush d))⟩
 |_=>σ
def St.canE(σ:St)(far:Bool)(d k j:Nat):AV->St
 | .sl q _ _=>if q=d\/far=false/\1000000000<=q then σ else
  ⟨(σ.env.map fun p=>(p.1,p.2.hush d)).map fun p=>(p.1,p.2.ren q d),((del d σ.rows).map fun p=>(p.1,p.2.hush d)).map fun p=>(if p.1=q then d else p.1,p.2.map (·.ren q d))⟩
 | .lst .u m []=>σ.canEN d k j m (az k (σ.env.map fun p=>(p.1,p.2.hush d)))
 |_=>σ
def St.canXcr(σ:St)(r:Nat)(all:List AV)(j q i m:Nat):Option Row->St
 |some (.arr k es)=>⟨σ.env,put r (.var (.agg (gS all j (.lst .m k (dK (sub es i m)))))) (put q .dead σ.rows)⟩
 |_=>σ
def St.canXc(σ:St)(r:Nat)(all:List AV):Nat->List AV->St
 |_,[]=>σ
 |j,.sl q i m::_=>σ.canXcr r all j q i m (az q σ.rows)
 |j,.lst .u n []::_=>⟨σ.env,put r (.var (.agg (gS all j (.lst .m n [])))) σ.rows⟩
 |j,_::cs=>σ.canXc r all (j+1) cs
def St.canX(σ:St)(r:Nat):Option Row->St
 |some (.arr n es)=>⟨σ.env,put r (.arr n (dK es)) σ.rows⟩
 |some (.var (.agg cs))=>σ.canXc r cs 0 cs
 |_=>σ
def St.can1(σ:St):Can->St
 | .s d=>σ.canV d (σ.get d)
 | .f far d r j=>σ.canG far d r j (gZ j (az r σ.rows))
 | .r d=>σ.canW d (σ.get d)
 | .z d=>σ.canZ d (σ.get d)
 | .e far d k j=>σ.canE far d k j (gZ j (some (.var (σ.get k))))
 | .w r=>σ.canX r (az r σ.rows)
def St.can(σ:St):List Can->St
 |[]=>σ
 |d::ds=>(σ.can1 d).can ds
def Can.low(n:Nat):Can->Bool
 | .s d=>decide (d<n)
 | .f _ d _ _=>decide (d<1000000000)&&decide (n<=d)
 | .r d=>decide (d<n)
 | .z d=>decide (d<n)
 | .e _ d k _=>decide (d<1000000000)&&decide (n<=d)&&decide (k<n)
 | .w _=>true
def St.res(σ:St)(lv lr:List Nat):St:=
 {env:=lv.map fun k=>(k,σ.get k),rows:=lr.map fun r=>(r,(σ.row r).getD .dead)}
def Row.ments:Row->List Nat
 | .var x=>x.ments
 |_=>[]
def St.resOk(σ:St)(lv lr:List Nat):Prop:=
 (∀k∈lv,∀r∈(σ.get k).ments,r∈lr)/\(∀q∈lr,∀r∈((σ.row q).getD .dead).ments,r∈lr)/\lr.Nodup
inductive Ex where
 |nrm
 |ex (id:Nat)
 |ret
def thn(K:St->Prop)(Q:Ex->St->Prop):Ex->St->Prop
 | .nrm,σ=>K σ
 |e,σ=>Q e σ
def inb(id:Nat)(Q:Ex->St->Prop):Ex->St->Prop
 | .ex j,σ=>if j=id then Q .nrm σ else Q (.ex j) σ
 |e,σ=>Q e σ
def tst(x:AV)(A B:Prop):Prop:=match x with
 | .sc (.bool t)=>(t=true->A)/\(t=false->B)
 | .ub=>A/\B
 |_=>False
def xo(Q:Ex->St->Prop)(can:List Can)(σ:St):Prop:=Q .nrm (σ.can can)
def St.rb(σ:St)(lv:List Nat):St:=⟨lv.map fun k=>(k,snp σ.row 4 (σ.get k)),[]⟩
def AV.scal:AV->AV
 | .sc v=>.sc v
 |_=>.top
def St.scal(σ:St):St:=⟨σ.env.map fun p=>(p.1,p.2.scal),[]⟩
def rbQ(Q:Ex->St->Prop)(e:Ex)(τ:St):Prop:=Q e τ.scal
def AWP:aw->(Ex->St->Prop)->St->Prop
 | .skip,Q,σ=>Q .nrm σ
 | .reg ops can,Q,σ=>dF ok ops (xo Q can) σ
 | .drw ops can,Q,σ=>dF ok ops (xo Q can) σ
 | .regh pre h post can,Q,σ=>dF ok pre (stH ok h (dF ok post (xo Q can))) σ
 | .seq a b,Q,σ=>AWP a (thn (AWP b Q) Q) σ
 | .seqr a lv lr b,Q,σ=>AWP a (thn (fun τ=>τ.resOk lv lr/\AWP b Q (τ.res lv lr)) Q) σ
 | .seqa x a lv lr b,Q,σ=>AWP x (thn (AWP a (thn (fun τ=>τ.resOk lv lr/\AWP b Q (τ.res lv lr)) Q)) Q) σ
 | .seqb a lv b,Q,σ=>AWP a (thn (fun τ=>AWP b (rbQ Q) (τ.rb lv)) Q) σ
 | .cond x a b,Q,σ=>tst (σ.gx x) (AWP a Q σ) (AWP b Q σ)
 | .blk id a,Q,σ=>AWP a (inb id Q) σ
 | .loop a,Q,σ=>∃(lv lr:List Nat)(I:St->Prop)(μ:St->Nat),σ.resOk lv lr/\I (σ.res lv lr)/\
  ∀τ,I τ->AWP a (thn (fun τ'=>τ'.resOk lv lr/\I (τ'.res lv lr)/\μ (τ'.res lv lr)<μ τ) Q) τ
 | .exit id,Q,σ=>Q (.ex id) σ
 | .ret,Q,σ=>Q .ret σ
inductive RV where
 |t (n:Nat)
 |c (n k:Nat) (ag:Bool)
def RV.val(σ:St):RV->Option AV
 | .t n=>some (σ.get n)
 | .c n k ag => match σ.get n with
   | .pt r 0 0 => match σ.row r with
     |some (.var y)=>part y 0 k ag
     |_=>none
   |_=>none
def RVs.val(σ:St):List RV->Option (List AV)
 |[]=>some []
 | r :: rs => match r.val σ, RVs.val σ rs with
   |some x,some xs=>some (x::xs)
   |_,_=>none
def gO:List AV->AV
 |[x]=>x
 |xs=>.tup xs
def fin(rs:List RV)(res:AV):Ex->St->Prop
 | .nrm,σ| .ret,σ=>∃xs,RVs.val σ rs=some xs/\(aM xs).Nodup/\lift σ.row 3 (gO xs)=res
 |_,_=>False
def St.start(args:List AV):St:={env:=go 0 args,rows:=[]}
where go:Nat->List AV->List (Nat×AV)
 |_,[]=>[]
 |n,a::as=>(n,a)::go (n+1) as
def Vx(a:aw)(rs:List RV)(args:List AV)(res:AV):Prop:=AWP ok a (fin rs res) (St.start args)
end
end Vs

namespace Vs
open Go
theorem iV(xs:List AV):iy xs=xs.map AV.nrm:=by
 induction xs with
 |nil=>simp[iy]
 |cons x xs ih=>simp[iy,ih]
theorem iZ(xs:List AV):dK xs=xs.map AV.als:=by
 induction xs with
 |nil=>simp[dK]
 |cons x xs ih=>simp[dK,ih]
theorem ga(xs:List AV):gq xs=xs.map AV.fix:=by
 induction xs with
 |nil=>simp[gq]
 |cons x xs ih=>simp[gq,ih]
theorem mG(r d:Nat)(xs:List AV):je r d xs=xs.map (AV.ren r d):=by
 induction xs with
 |nil=>simp[je]
 |cons x xs ih=>simp[je,ih]
theorem tc(xs:List AV):ke xs↔∀x∈xs,x.allU:=by
 induction xs with
 |nil=>simp[ke]
 |cons x xs ih=>simp[ke,ih]
theorem Wj(ρ:Nat->Option Row)(k:Nat)(v:Value):snp ρ (k+1) (.sc v)=.sc v:=by simp[snp,AV.nrm]
theorem Qh(ρ:Nat->Option Row)(k:Nat)(f:Fl)(n:Nat)(xs:List AV):snp ρ (k+1) (.lst f n xs)=.lst .o n (xs.map AV.nrm):=by simp[snp,AV.nrm,iV]
theorem UW(ρ:Nat->Option Row)(k:Nat)(f:Fl)(n:Nat)(xs:List AV):snp ρ (k+1) (.tg f n xs)=.lst .o n (xs.map AV.nrm):=by simp[snp,AV.nrm,iV]
theorem Rd(ρ:Nat->Option Row)(k:Nat)(cs:List AV):snp ρ (k+1) (.agg cs)=.agg (cs.map (snp ρ k)):=by simp[snp]
theorem UZ(ρ:Nat->Option Row)(k:Nat)(f:Nat)(cs:List AV):snp ρ (k+1) (.fn f cs)=.fn f (cs.map (snp ρ k)):=by simp[snp]
theorem Us(ρ:Nat->Option Row)(k:Nat)(f:Fl)(x:AV)(off:Nat):snp ρ (k+1) (.bp f x off)=.bp .o x.nrm off:=by simp[snp,AV.nrm]
theorem VP(ρ:Nat->Option Row)(k:Nat)(r i n:Nat):snp ρ (k+1) (.sl r i n)=nT (ρ r) i n:=by simp only[snp]
theorem EU(w:Nat)(es:List AV)(i n:Nat):nT (some (.arr w es)) i n=.lst .o w ((sub es i n).map AV.nrm):=by simp[nT,iV]
theorem Wc(ρ:Nat->Option Row)(k:Nat)(r i off:Nat):snp ρ (k+1) (.pt r i off)=mR (snp ρ k) (ρ r) i off:=by simp only[snp]
theorem Ev(h:AV->AV)(y:AV)(off:Nat):mR h (some (.var y)) 0 off=.bp .o (h y) off:=by simp[mR]
theorem PJ(ρ:Nat->Option Row)(k:Nat)(v:Value):lift ρ (k+1) (.sc v)=.sc v:=by simp[lift]
theorem Li(ρ:Nat->Option Row)(k:Nat)(f:Fl)(n:Nat)(xs:List AV):lift ρ (k+1) (.lst f n xs)=.lst f n xs:=by simp[lift]
theorem Hp(ρ:Nat->Option Row)(k:Nat)(cs:List AV):lift ρ (k+1) (.agg cs)=.agg (cs.map (lift ρ k)):=by simp[lift]
theorem KH(ρ:Nat->Option Row)(k:Nat)(cs:List AV):lift ρ (k+1) (.tup cs)=.tup (cs.map (lift ρ k)):=by simp[lift]
theorem PC(ρ:Nat->Option Row)(k:Nat)(r i n:Nat):lift ρ (k+1) (.sl r i n)=mo (ρ r) i n:=by simp only[lift]
theorem zJ(w:Nat)(es:List AV)(i n:Nat):mo (some (.arr w es)) i n=.lst .u w (sub es i n):=rfl
theorem nv(k c:Nat)(v:Value):adopt (k+1) c (.sc v)=(.sc v,[],c):=by simp[adopt,AV.fix]
theorem Bs(k c n:Nat)(es:List AV):adopt (k+1) c (.lst .u n es)=(.sl c 0 es.length,[(c,.arr n (es.map AV.fix))],c+1000):=by simp[adopt,ga]
theorem AW(k c n:Nat)(es:List AV):adopt (k+1) c (.lst .o n es)=(.lst .s n (es.map AV.fix),[],c):=by simp[adopt,AV.fix,ga,Fl.fix]
theorem BA(k c n:Nat)(es:List AV):adopt (k+1) c (.lst .m n es)=(.lst .m n (es.map AV.fix),[],c):=by simp[adopt,AV.fix,ga,Fl.fix]
theorem Aq(k c n:Nat)(es:List AV):adopt (k+1) c (.lst .s n es)=(.lst .s n (es.map AV.fix),[],c):=by simp[adopt,AV.fix,ga,Fl.fix]
theorem sy(k c:Nat)(xs:List AV):adopt (k+1) c (.tup xs)=(.tup (adopt.go k c xs).1,(adopt.go k c xs).2.1,(adopt.go k c xs).2.2):=by simp[adopt]
theorem sE(k c:Nat)(xs:List AV):adopt (k+1) c (.agg xs)=(.agg (adopt.go k c xs).1,(adopt.go k c xs).2.1,(adopt.go k c xs).2.2):=by simp[adopt]
theorem sr(k c:Nat):adopt.go k c []=([],[],c):=by simp[adopt.go]
theorem ry(k c:Nat)(x:AV)(xs:List AV):adopt.go k c (x::xs)=
 ((adopt k c x).1::(adopt.go k (adopt k c x).2.2 xs).1,(adopt k c x).2.1++(adopt.go k (adopt k c x).2.2 xs).2.1,(adopt.go k (adopt k c x).2.2 xs).2.2):=by simp[adopt.go]
theorem dS(v:Value):(AV.sc v).nrm=.sc v:=by simp[AV.nrm]
theorem gl(f:Fl)(n:Nat)(xs:List AV):(AV.lst f n xs).nrm=.lst .o n (xs.map AV.nrm):=by simp[AV.nrm,iV]
theorem gn(cs:List AV):(AV.agg cs).nrm=.agg (cs.map AV.nrm):=by simp[AV.nrm,iV]
theorem Vc(f:Fl)(x:AV)(off:Nat):(AV.bp f x off).nrm=.bp .o x.nrm off:=by simp[AV.nrm]
theorem eM(v:Value):(AV.sc v).als=.sc v:=by simp[AV.als]
theorem gp(f:Fl)(n:Nat)(xs:List AV):(AV.lst f n xs).als=.lst f.als n (xs.map AV.als):=by simp[AV.als,iZ]
theorem gB(cs:List AV):(AV.agg cs).als=.agg (cs.map AV.als):=by simp[AV.als,iZ]
theorem fE(v:Value):(AV.sc v).fix=.sc v:=by simp[AV.fix]
theorem fV(f:Fl)(n:Nat)(xs:List AV):(AV.lst f n xs).fix=.lst f.fix n (xs.map AV.fix):=by simp[AV.fix,ga]
theorem fW(cs:List AV):(AV.agg cs).fix=.agg (cs.map AV.fix):=by simp[AV.fix,ga]
theorem fU(xs:List Int):(xs.map AV.i).map AV.nrm=xs.map AV.i:=by simp[dS]
theorem fT(xs:List Int):(xs.map AV.i).map AV.als=xs.map AV.i:=by simp[eM]
theorem fk(xs:List Int):(xs.map AV.i).map AV.fix=xs.map AV.i:=by simp[fE]
theorem Em(xs:List Bool):(xs.map AV.b).map AV.nrm=xs.map AV.b:=by simp[dS]
theorem CN(xs:List Bool):(xs.map AV.b).map AV.als=xs.map AV.b:=by simp[eM]
theorem tj(xs:List Bool):(xs.map AV.b).map AV.fix=xs.map AV.b:=by simp[fE]
theorem jb(xs:List ByteArray):(xs.map AV.z).map AV.nrm=xs.map AV.z:=by simp[dS]
theorem iX(xs:List ByteArray):(xs.map AV.z).map AV.als=xs.map AV.z:=by simp[eM]
theorem gF(xs:List ByteArray):(xs.map AV.z).map AV.fix=xs.map AV.z:=by simp[fE]
theorem zD(xs:List Int):(xs.map AV.u8).map AV.nrm=xs.map AV.u8:=by simp[dS]
theorem EF:AV.als∘AV.i=AV.i:=by funext x;simp[eM]
theorem Eu:AV.als∘AV.b=AV.b:=by funext x;simp[eM]
theorem CC:AV.als∘AV.z=AV.z:=by funext x;simp[eM]
theorem yu(xs:List Int):(xs.map AV.u8).map AV.als=xs.map AV.u8:=by simp[eM]
theorem rm(xs:List Int):(xs.map AV.u8).map AV.fix=xs.map AV.u8:=by simp[fE]
theorem RK{α:Type}(a:α):(some a).isSome=true:=rfl
theorem c_eq{α:Type}(a:α):(a=a)=True:=eq_self a
theorem WX(p:Prop):(True/\p)=p:=true_and p
theorem WI(p:Prop):(p/\True)=p:=and_true p
theorem SC(n:Nat)(xs:List AV):(∃es,some (Row.arr n xs)=some (Row.arr n es))=True:=by simp
theorem KC(n:Nat)(xs:List AV):(∃w es,some (Row.arr n xs)=some (Row.arr w es))=True:=by simp
theorem UB(p:Prop):(False->p)=True:=by simp
theorem TS(p:Prop):(True->p)=p:=by simp
theorem QK{α:Type}(q:α->Prop):(∀p∈([]:List α),q p)=True:=by simp
theorem OY{α:Type}(x:α)(l:List α)(q:α->Prop):(∀p∈x::l,q p)=(q x/\∀p∈l,q p):=by simp
theorem Ms:sub [] 0 0=[]:=rfl
theorem HZ(n:Nat):0+n=n:=Nat.zero_add n
theorem Gq(n:Nat):n+0=n:=Nat.add_zero n
theorem VZ(n:Nat):n-0=n:=Nat.sub_zero n
theorem VB(d:Nat):(d∈([]:List Nat))=False:=by simp
theorem Wt(d x:Nat)(l:List Nat):(d∈x::l)=(d=x\/d∈l):=by simp
theorem Xl(p:Prop):(p\/False)=p:=or_false p
theorem Xd(p:Prop):(False\/p)=p:=false_or p
theorem Xh(p:Prop):(p\/True)=True:=or_true p
theorem WQ(p:Prop):(True\/p)=True:=true_or p
theorem TY:(¬False)=True:=not_false_eq_true
theorem Uo:(¬True)=False:=not_true_eq_false
theorem WT(n:Nat):(n<=n)=True:=by simp
theorem Xn(n:Nat):(0<=n)=True:=by simp
theorem Pg{α:Type}(f:α->AV)(l:List α):sub (l.map f) 0 l.length=l.map f:=by simp[sub]
theorem nc(h:Nat->Nat)(xs:List AV):rgL h xs=xs.map (AV.rg h):=by
 induction xs with
 |nil=>simp[rgL]
 |cons x xs ih=>simp[rgL,ih]
theorem SO(h:Nat->Nat)(v:Value):(AV.sc v).rg h=.sc v:=by simp[AV.rg]
theorem KX(h:Nat->Nat)(f:Fl)(n:Nat)(xs:List AV):(AV.lst f n xs).rg h=.lst f n xs:=by simp[AV.rg]
theorem TD(h:Nat->Nat)(f:Fl)(n:Nat)(xs:List AV):(AV.tg f n xs).rg h=.tg f n xs:=by simp[AV.rg]
theorem Tp(h:Nat->Nat)(f:Fl)(x:AV)(off:Nat):(AV.bp f x off).rg h=.bp f x off:=by simp[AV.rg]
theorem GA(h:Nat->Nat):AV.top.rg h=.top:=by simp[AV.rg]
theorem Le(h:Nat->Nat)(cs:List AV):(AV.agg cs).rg h=.agg (cs.map (AV.rg h)):=by simp[AV.rg,nc]
theorem Tj(h:Nat->Nat)(f:Nat)(cs:List AV):(AV.fn f cs).rg h=.fn f (cs.map (AV.rg h)):=by simp[AV.rg,nc]
theorem Hl(h:Nat->Nat)(cs:List AV):(AV.tup cs).rg h=.tup (cs.map (AV.rg h)):=by simp[AV.rg,nc]
theorem TK(h:Nat->Nat)(q i n:Nat):(AV.sl q i n).rg h=.sl (h q) i n:=by simp[AV.rg]
theorem TJ(h:Nat->Nat)(q i n:Nat):(AV.pt q i n).rg h=.pt (h q) i n:=by simp[AV.rg]
theorem Ar(h:Nat->Nat)(x:AV):(Row.var x).rg h=.var (x.rg h):=rfl
theorem Br(h:Nat->Nat)(n:Nat)(xs:List AV):(Row.arr n xs).rg h=.arr n xs:=rfl
theorem wb(h:Nat->Nat):Row.dead.rg h=.dead:=rfl
theorem uO(r x:Nat)(xs:List Nat):pos r (x::xs)=if x=r then 0 else pos r xs+1:=rfl
theorem GM(rs:List Nat)(r:Nat):cnm rs r=1000000000+pos r rs:=rfl
theorem MZ(d:Nat)(rs:List Nat)(q:Nat):bkn d rs q=if 1000000000<=q then rs.getD (q-1000000000) 0 else q+100000*(d+1):=rfl
theorem Jv(ρ:Nat->Option Row)(rs:List Nat)(r:Nat):ig ρ rs r=(cnm rs r,((ρ r).getD .dead).rg (cnm rs)):=rfl
theorem wZ(d:Nat)(rs:List Nat)(p:Nat×Row):de d rs p=(bkn d rs p.1,p.2.rg (bkn d rs)):=rfl
theorem zM(x:AV):ny (some (.var x))=x.ments:=rfl
theorem yn(n:Nat)(xs:List AV):ny (some (.arr n xs))=[]:=rfl
theorem Bz(x y:Nat)(l:List Nat):(x::l).getD 0 y=x:=rfl
theorem AG(x y:Nat)(l:List Nat)(n:Nat):(x::l).getD (n+1) y=l.getD n y:=by simp
theorem WB(r d:Nat)(v:Value):(AV.sc v).ren r d=.sc v:=by simp[AV.ren]
theorem SB(r d:Nat)(f:Fl)(n:Nat)(xs:List AV):(AV.lst f n xs).ren r d=.lst f n xs:=by simp[AV.ren]
theorem Wb(r d:Nat)(f:Fl)(n:Nat)(xs:List AV):(AV.tg f n xs).ren r d=.tg f n xs:=by simp[AV.ren]
theorem Uy(r d:Nat)(f:Fl)(x:AV)(off:Nat):(AV.bp f x off).ren r d=.bp f x off:=by simp[AV.ren]
theorem Pf(r d:Nat):AV.top.ren r d=.top:=by simp[AV.ren]
theorem PS(r d:Nat)(cs:List AV):(AV.agg cs).ren r d=.agg (cs.map (AV.ren r d)):=by simp[AV.ren,mG]
theorem UX(r d f:Nat)(cs:List AV):(AV.fn f cs).ren r d=.fn f (cs.map (AV.ren r d)):=by simp[AV.ren,mG]
theorem OU(r d:Nat)(cs:List AV):(AV.tup cs).ren r d=.tup (cs.map (AV.ren r d)):=by simp[AV.ren,mG]
theorem WC(r d q i n:Nat):(AV.sl q i n).ren r d=.sl (if q=r then d else q) i n:=by simp[AV.ren]
theorem UG(r d q i n:Nat):(AV.pt q i n).ren r d=.pt (if q=r then d else q) i n:=by simp[AV.ren]
theorem Ng(ok:Oks)(Q:Ex->St->Prop)(σ:St):AWP ok .skip Q σ=Q .nrm σ:=by simp only[AWP]
theorem Rn(ok:Oks)(Q:Ex->St->Prop)(σ:St)(ops:List aX)(can:List Can):AWP ok (.reg ops can) Q σ=dF ok ops (xo Q can) σ:=by simp only[AWP]
theorem Pm(ok:Oks)(Q:Ex->St->Prop)(σ:St)(ops:List aX)(can:List Can):AWP ok (.drw ops can) Q σ=dF ok ops (xo Q can) σ:=by simp only[AWP]
theorem Me(ok:Oks)(Q:Ex->St->Prop)(σ:St)(pre:List aX)(h:HOp)(post:List aX)(can:List Can):AWP ok (.regh pre h post can) Q σ=dF ok pre (stH ok h (dF ok post (xo Q can))) σ:=by simp only[AWP]
theorem OW(ok:Oks)(Q:Ex->St->Prop)(σ:St)(a b:aw):AWP ok (.seq a b) Q σ=AWP ok a (thn (AWP ok b Q) Q) σ:=by simp only[AWP]
def tJ(ok:Oks)(v:AV)(a b:aw)(Q:Ex->St->Prop)(σ:St):Prop:=tst v (AWP ok a Q σ) (AWP ok b Q σ)
theorem GQ(ok:Oks)(Q:Ex->St->Prop)(σ:St)(x:X)(a b:aw):AWP ok (.cond x a b) Q σ=tJ ok (σ.gx x) a b Q σ:=by simp only[AWP,tJ]
theorem VK(ok:Oks)(Q:Ex->St->Prop)(σ:St)(a b:aw):tJ ok (.sc (.bool true)) a b Q σ=AWP ok a Q σ:=by simp[tJ,tst]
theorem UJ(ok:Oks)(Q:Ex->St->Prop)(σ:St)(a b:aw):tJ ok .ub a b Q σ=(AWP ok a Q σ/\AWP ok b Q σ):=by simp[tJ,tst]
theorem VI(ok:Oks)(Q:Ex->St->Prop)(σ:St)(a b:aw):tJ ok (.sc (.bool false)) a b Q σ=AWP ok b Q σ:=by simp[tJ,tst]
theorem Kr(ok:Oks)(Q:Ex->St->Prop)(σ:St)(x a:aw)(lv lr:List Nat)(b:aw):AWP ok (.seqa x a lv lr b) Q σ=AWP ok x (thn (AWP ok (.seqr a lv lr b) Q) Q) σ:=by simp only[AWP]
theorem He(ok:Oks)(Q:Ex->St->Prop)(σ:St)(a:aw)(lv:List Nat)(b:aw):AWP ok (.seqb a lv b) Q σ=AWP ok a (thn (fun τ=>AWP ok b (rbQ Q) (τ.rb lv)) Q) σ:=by simp only[AWP]
theorem WW(env:List (Nat×AV))(rows:List (Nat×Row))(lv:List Nat):St.rb ⟨env,rows⟩ lv=⟨lv.map fun k=>(k,snp (St.row ⟨env,rows⟩) 4 (St.get ⟨env,rows⟩ k)),[]⟩:=rfl
theorem WG(Q:Ex->St->Prop)(e:Ex)(env:List (Nat×AV))(rows:List (Nat×Row)):rbQ Q e ⟨env,rows⟩=Q e ⟨env.map fun p=>(p.1,p.2.scal),[]⟩:=rfl
theorem PP(v:Value):(AV.sc v).scal=.sc v:=rfl
theorem PD(ok:Oks)(Q:Ex->St->Prop)(σ:St)(id:Nat)(a:aw):AWP ok (.blk id a) Q σ=AWP ok a (inb id Q) σ:=by simp only[AWP]
theorem MM(ok:Oks)(Q:Ex->St->Prop)(σ:St)(id:Nat):AWP ok (.exit id) Q σ=Q (.ex id) σ:=by simp only[AWP]
theorem QR(ok:Oks)(Q:Ex->St->Prop)(σ:St):AWP ok .ret Q σ=Q .ret σ:=by simp only[AWP]
theorem PY(K:St->Prop)(Q:Ex->St->Prop)(σ:St):thn K Q .nrm σ=K σ:=rfl
theorem WH(K:St->Prop)(Q:Ex->St->Prop)(i:Nat)(σ:St):thn K Q (.ex i) σ=Q (.ex i) σ:=rfl
theorem OO(K:St->Prop)(Q:Ex->St->Prop)(σ:St):thn K Q .ret σ=Q .ret σ:=rfl
theorem Oq(i:Nat)(Q:Ex->St->Prop)(σ:St):inb i Q .nrm σ=Q .nrm σ:=rfl
theorem Wp(i j:Nat)(Q:Ex->St->Prop)(σ:St):inb i Q (.ex j) σ=if j=i then Q .nrm σ else Q (.ex j) σ:=rfl
theorem QV(i:Nat)(Q:Ex->St->Prop)(σ:St):inb i Q .ret σ=Q .ret σ:=rfl
theorem UV(ok:Oks)(g:X->AV)(ρ:Nat->Option Row)(d:Nat)(K:AV->List (Nat×Row)->Prop)(x:X):eff ok g ρ d (.mv x) K=K (g x) []:=rfl
theorem Nr(ok:Oks)(g:X->AV)(ρ:Nat->Option Row)(d:Nat)(K:AV->List (Nat×Row)->Prop)(c a b:X):eff ok g ρ d (.pick c a b) K=lO K (g c) (g a) (g b):=rfl
theorem Rp(K:AV->List (Nat×Row)->Prop)(a b:AV):lO K (.sc (.bool true)) a b=K a []:=by simp[lO]
theorem QP(K:AV->List (Nat×Row)->Prop)(a b:AV):lO K (.sc (.bool false)) a b=K b []:=by simp[lO]
theorem BU(ok:Oks)(g:X->AV)(ρ:Nat->Option Row)(d:Nat)(K:AV->List (Nat×Row)->Prop)(z:AV):eff ok g ρ d (.alloc z) K=(ρ d=none/\K (.pt d 0 0) [(d,.var z)]):=rfl
theorem PE(ok:Oks)(g:X->AV)(ρ:Nat->Option Row)(d:Nat)(K:AV->List (Nat×Row)->Prop)(n:Nat)(x:X):eff ok g ρ d (.box n x) K=(ρ d=none/\(g x).width=n/\K (.pt d 0 0) [(d,.var (g x))]):=rfl
theorem FA(ok:Oks)(g:X->AV)(ρ:Nat->Option Row)(d:Nat)(K:AV->List (Nat×Row)->Prop)(z:List AV)(ps:List (Nat×Nat×X)):eff ok g ρ d (.build z ps) K=
 ((∀p∈ps,(g p.2.2).width=p.2.1/\p.1+p.2.1<=z.length)/\K (.agg (lX z (ps.map fun p=>(p.1,g p.2.2)))) []):=rfl
theorem QX(ok:Oks)(g:X->AV)(ρ:Nat->Option Row)(d:Nat)(K:AV->List (Nat×Row)->Prop)(n:Nat)(fr:Bool)(ps:List X):eff ok g ρ d (.bsl n fr ps) K=((fr=true->aM (ps.map g)=[])/\ρ d=none/\(∀p∈ps,(g p).width=n)/\(aM (ps.map g)).Nodup/\
 K (.sl d 0 ps.length) (bW (aM (ps.map g))++[(d,.arr n ((ps.map g).map (lift ρ 2)))])):=rfl
theorem xA(x:AV):cA (some (.var x))=True:=rfl
theorem yp(n:Nat)(x:List AV):cA (some (.arr n x))=True:=rfl
theorem AZ(rs:List Nat):bW rs=rs.map fun r=>(r,.dead):=rfl
theorem WL(K:AV->List (Nat×Row)->Prop)(v:AV):k1 K v=K v []:=rfl
theorem LN(ok:Oks)(g:X->AV)(ρ:Nat->Option Row)(d:Nat)(K:AV->List (Nat×Row)->Prop)(n:Nat)(ag:Bool)(x:X):eff ok g ρ d (.load n ag x) K=ey K ρ n ag (g x):=rfl
theorem Gv(ρ:Nat->Option Row)(K:AV->List (Nat×Row)->Prop)(n:Nat)(ag:Bool)(f:Fl)(y:AV)(off:Nat):ey K ρ n ag (.bp f y off)=opt (part y off n ag) (k1 K):=rfl
theorem Hj(ρ:Nat->Option Row)(K:AV->List (Nat×Row)->Prop)(n:Nat)(ag:Bool)(r i off:Nat):ey K ρ n ag (.pt r i off)=eF K (ρ r) i off n ag:=rfl
theorem wc(K:AV->List (Nat×Row)->Prop)(y:AV)(i off n:Nat)(ag:Bool):eF K (some (.var y)) i off n ag=(i=0/\opt (part y off n ag) (k1 K)):=rfl
theorem vp(K:AV->List (Nat×Row)->Prop)(w:Nat)(es:List AV)(i off n:Nat)(ag:Bool):eF K (some (.arr w es)) i off n ag=opt es[i]? (JD K off n ag):=rfl
theorem JF(K:AV->List (Nat×Row)->Prop)(off n:Nat)(ag:Bool)(y:AV):JD K off n ag y=opt (part y.als off n ag) (k1 K):=rfl
theorem DM(ok:Oks)(g:X->AV)(ρ:Nat->Option Row)(d:Nat)(K:AV->List (Nat×Row)->Prop)(n:Nat)(x v:X):eff ok g ρ d (.store n x v) K=dL K ρ n (g x) (g v):=rfl
theorem En(ρ:Nat->Option Row)(K:AV->List (Nat×Row)->Prop)(n r i off:Nat)(v:AV):dL K ρ n (.pt r i off) v=(v.width=n/\ed K ρ (ρ r) r i off v):=rfl
theorem tQ(ρ:Nat->Option Row)(K:AV->List (Nat×Row)->Prop)(y:AV)(r i off:Nat)(v:AV):ed K ρ (some (.var y)) r i off v=(i=0/\opt (setPart y off v) (Gr K r)):=rfl
theorem Lu(K:AV->List (Nat×Row)->Prop)(r:Nat)(y:AV):Gr K r y=K .top [(r,.var y)]:=rfl
theorem uJ(ρ:Nat->Option Row)(K:AV->List (Nat×Row)->Prop)(w:Nat)(es:List AV)(r i off:Nat)(v:AV):ed K ρ (some (.arr w es)) r i off v=opt es[i]? (qD K ρ r w i off es v):=rfl
theorem LO(ρ:Nat->Option Row)(K:AV->List (Nat×Row)->Prop)(w:Nat)(es:List AV)(r i off:Nat)(v y:AV):qD K ρ r w i off es v y=
 (r∉v.ments/\v.ments.Nodup/\(lift ρ 2 v).width=v.width/\opt (setPart y off (lift ρ 2 v)) (yo K (bW v.ments) r w i es)):=rfl
theorem Cd(K:AV->List (Nat×Row)->Prop)(u:List (Nat×Row))(r w i:Nat)(es:List AV)(y:AV):yo K u r w i es y=K .top (u++[(r,.arr w (es.set i y))]):=rfl
theorem Pr(ok:Oks)(g:X->AV)(ρ:Nat->Option Row)(d:Nat)(K:AV->List (Nat×Row)->Prop)(n:Nat)(ps:List X):eff ok g ρ d (.bsm n ps) K=((∀r∈aM (ps.map g),zm (ρ r))/\ρ d=none/\(∀p∈ps,(g p).width=n)/\(aM (ps.map g)).Nodup/\
 K (.sl d 0 ps.length) (bW (aM (ps.map g))++[(d,.arr n ((ps.map g).map (lift ρ 2)))])):=rfl
theorem Sv(ok:Oks)(g:X->AV)(ρ:Nat->Option Row)(d:Nat)(K:AV->List (Nat×Row)->Prop)(n:Nat)(x v:X):eff ok g ρ d (.stv n x v) K=(vPv ρ (g x)/\dL K ρ n (g x) (g v)):=rfl
theorem Ri(ok:Oks)(g:X->AV)(ρ:Nat->Option Row)(d:Nat)(K:AV->List (Nat×Row)->Prop)(n:Nat)(ag:Bool)(x:X):eff ok g ρ d (.lda n ag x) K=(aPb ρ (g x)/\ey K ρ n ag (g x)):=rfl
theorem RY(ok:Oks)(g:X->AV)(ρ:Nat->Option Row)(d:Nat)(K:AV->List (Nat×Row)->Prop)(av:List Nat)(off:Nat)(x:X):eff ok g ρ d (.fdv av off x) K=(vPt av ρ (g x)/\lZ K ρ off (g x)):=rfl
theorem UN(ρ:Nat->Option Row)(r i off:Nat):aPb ρ (.pt r i off)=zm (ρ r):=rfl
theorem Vq(ρ:Nat->Option Row)(f:Fl)(y:AV)(off:Nat):aPb ρ (.bp f y off)=True:=rfl
theorem Vi(ρ:Nat->Option Row)(r i off:Nat):vPv ρ (.pt r i off)=yA (ρ r):=rfl
theorem Ry(ok:Oks)(g:X->AV)(ρ:Nat->Option Row)(d:Nat)(K:AV->List (Nat×Row)->Prop)(av:List Nat)(n:Nat)(ag:Bool)(x:X):eff ok g ρ d (.ldv av n ag x) K=(vPt av ρ (g x)/\ey K ρ n ag (g x)):=rfl
theorem Sj(ok:Oks)(g:X->AV)(ρ:Nat->Option Row)(d:Nat)(K:AV->List (Nat×Row)->Prop)(n:Nat)(x v:X):eff ok g ρ d (.str n x v) K=(aPt ρ (g x)/\(g v).ments=[]/\dL K ρ n (g x) (g v)):=rfl
theorem PO(ok:Oks)(g:X->AV)(ρ:Nat->Option Row)(d:Nat)(K:AV->List (Nat×Row)->Prop)(av:List Nat)(n:Nat)(ag:Bool)(x:X):eff ok g ρ d (.lde av n ag x) K=(lPt av (g x)/\ey K ρ n ag (g x)):=rfl
theorem Uz(ρ:Nat->Option Row)(av:List Nat)(r i off:Nat):vPt av ρ (.pt r i off)=(r∉av/\yA (ρ r)):=rfl
theorem Wo(ρ:Nat->Option Row)(av:List Nat)(f:Fl)(y:AV)(off:Nat):vPt av ρ (.bp f y off)=True:=rfl
theorem UU(ρ:Nat->Option Row)(r i off:Nat):aPt ρ (.pt r i off)=zm (ρ r):=rfl
theorem Jz(x:AV):yA (some (.var x))=True:=rfl
theorem HE(n:Nat)(x:List AV):zm (some (.arr n x))=True:=rfl
theorem OS(ok:Oks)(g:X->AV)(ρ:Nat->Option Row)(d:Nat)(K:AV->List (Nat×Row)->Prop)(op:BinOp)(x y:X):eff ok g ρ d (.bin op x y) K=dx op (g x) (g y) (k1 K):=rfl
theorem Qz(ok:Oks)(g:X->AV)(ρ:Nat->Option Row)(d:Nat)(K:AV->List (Nat×Row)->Prop)(neg:Bool)(x y:X):eff ok g ρ d (.beq neg x y) K=wP K neg (g x) (g y):=rfl
theorem WD(K:AV->List (Nat×Row)->Prop)(a b:Bool):wP K false (.sc (.bool a)) (.sc (.bool b))=K (.sc (.bool (a==b))) []:=rfl
theorem TV(K:AV->List (Nat×Row)->Prop)(a b:Bool):wP K true (.sc (.bool a)) (.sc (.bool b))=K (.sc (.bool (!(a==b)))) []:=rfl
theorem TU(K:AV->List (Nat×Row)->Prop)(a b c e:Int):Nc K false (.agg [.sc (.int .i64 a),.sc (.int .i64 b)]) (.agg [.sc (.int .i64 c),.sc (.int .i64 e)])=K (.sc (.bool (a==c&&b==e))) []:=rfl
theorem VJ(K:AV->List (Nat×Row)->Prop)(a b c e:Int):Nc K true (.agg [.sc (.int .i64 a),.sc (.int .i64 b)]) (.agg [.sc (.int .i64 c),.sc (.int .i64 e)])=K (.sc (.bool (!(a==c&&b==e)))) []:=rfl
theorem Uf(ok:Oks)(g:X->AV)(ρ:Nat->Option Row)(d:Nat)(K:AV->List (Nat×Row)->Prop)(op:UnOp)(x:X):eff ok g ρ d (.un op x) K=unV op (g x) (k1 K):=rfl
theorem NO(ok:Oks)(g:X->AV)(ρ:Nat->Option Row)(d:Nat)(K:AV->List (Nat×Row)->Prop)(q:IntKind)(x:X):eff ok g ρ d (.conv q x) K=pW K q (g x):=rfl
theorem Pk(K:AV->List (Nat×Row)->Prop)(q q':IntKind)(n:Int):pW K q (.sc (.int q' n))=K (.sc (.int q (q.wrap n))) []:=rfl
theorem QT(ok:Oks)(g:X->AV)(ρ:Nat->Option Row)(d:Nat)(K:AV->List (Nat×Row)->Prop)(f:Nat)(cs:List X):eff ok g ρ d (.mkf f cs) K=K (.fn f (cs.map g)) []:=rfl
theorem Qt(ok:Oks)(g:X->AV)(ρ:Nat->Option Row)(d:Nat)(K:AV->List (Nat×Row)->Prop)(n:Nat)(z:AV)(bytes:Nat)(l c:X):eff ok g ρ d (.mks n z bytes l c) K=sm K (ρ d) d n z bytes (g l) (g c):=rfl
theorem VM(d:Nat)(K:AV->List (Nat×Row)->Prop)(o:Option Row)(n:Nat)(z:AV)(bytes:Nat)(l c:Int):sm K o d n z bytes (.sc (.int .i64 l)) (.sc (.int .i64 c))=
 (o=none/\z.width=n/\0<=l/\l<=c/\c*bytes<=140737488355328/\c<=9223372036854775807/\K (.sl d 0 l.toNat) [(d,.arr n (List.replicate l.toNat z))]):=rfl
theorem Qr(ok:Oks)(g:X->AV)(ρ:Nat->Option Row)(d:Nat)(K:AV->List (Nat×Row)->Prop)(n:Nat)(x:X)(lo hi mx:Option X):eff ok g ρ d (.slc n x lo hi mx) K=qe K ρ n (g x) (lo.map g) (hi.map g) (mx.map g):=rfl
theorem LJ(ρ:Nat->Option Row)(K:AV->List (Nat×Row)->Prop)(f:Fl)(n w:Nat)(xs:List AV)(lo hi:Option AV):qe K ρ n (.lst f w xs) lo hi none=
 (w=n/\bOk lo/\bOk hi/\bV lo 0<=bV hi xs.length/\bV hi xs.length<=xs.length/\K (.lst f n (sub xs (bV lo 0) (bV hi xs.length-bV lo 0))) []):=rfl
theorem Dd(ρ:Nat->Option Row)(K:AV->List (Nat×Row)->Prop)(f:Fl)(n w:Nat)(xs:List AV)(lo hi:Option AV)(m:AV):qe K ρ n (.lst f w xs) lo hi (some m)=
 (w=n/\bOk lo/\bOk hi/\bV lo 0<=bV hi xs.length/\bV hi xs.length<=xs.length/\hi.isSome/\bOk (some m)/\bV (some m) 0=bV hi xs.length/\K (.tg f n (sub xs (bV lo 0) (bV hi xs.length-bV lo 0))) []):=rfl
theorem Rj(ρ:Nat->Option Row)(K:AV->List (Nat×Row)->Prop)(n r i m:Nat)(lo hi mx:Option AV):qe K ρ n (.sl r i m) lo hi mx=
 ((∃es,ρ r=some (.arr n es))/\bOk lo/\bOk hi/\bV lo 0<=bV hi m/\bV hi m<=m/\mx=none/\K (.sl r (i+bV lo 0) (bV hi m-bV lo 0)) []):=rfl
theorem Vt(K:AV->List (Nat×Row)->Prop)(s:ByteArray)(lo hi:Option AV):RM K (.sc (.string s)) lo hi=
 (bOk lo/\bOk hi/\bV lo 0<=bV hi s.size/\bV hi s.size<=s.size/\K (.sc (.string (s.extract (bV lo 0) (bV hi s.size)))) []):=rfl
theorem Hx:bOk none=True:=rfl
theorem Xj(q:IntKind)(j:Int):bOk (some (.sc (.int q j)))=(0<=j):=rfl
theorem RI(n:Nat):bV none n=n:=rfl
theorem bV_i(n:Nat)(q:IntKind)(j:Int):bV (some (.sc (.int q j))) n=j.toNat:=rfl
theorem Rl(ok:Oks)(g:X->AV)(ρ:Nat->Option Row)(d:Nat)(K:AV->List (Nat×Row)->Prop)(off:Nat)(x:X):eff ok g ρ d (.fad off x) K=lZ K ρ off (g x):=rfl
theorem SD(ρ:Nat->Option Row)(K:AV->List (Nat×Row)->Prop)(off o:Nat)(f:Fl)(y:AV):lZ K ρ off (.bp f y o)=K (.bp f y (o+off)) []:=rfl
theorem OG(ρ:Nat->Option Row)(K:AV->List (Nat×Row)->Prop)(off r i o:Nat):lZ K ρ off (.pt r i o)=(cA (ρ r)/\K (.pt r i (o+off)) []):=rfl
theorem Ss(ok:Oks)(g:X->AV)(ρ:Nat->Option Row)(d:Nat)(K:AV->List (Nat×Row)->Prop)(n:Nat)(x i:X):eff ok g ρ d (.idx n x i) K=jM K ρ n (g x) (g i):=rfl
theorem RF(ok:Oks)(g:X->AV)(ρ:Nat->Option Row)(d:Nat)(K:AV->List (Nat×Row)->Prop)(av:List Nat)(n:Nat)(x i:X):eff ok g ρ d (.idv av n x i) K=(iPt av (g x)/\jM K ρ n (g x) (g i)):=rfl
theorem VG(av:List Nat)(r i n:Nat):iPt av (.sl r i n)=(r∉av):=rfl
theorem QZ(av:List Nat)(f:Fl)(n:Nat)(xs:List AV):iPt av (.lst f n xs)=True:=rfl
theorem Wk(av:List Nat)(r i off:Nat):lPt av (.pt r i off)=(r∉av):=rfl
theorem TX(av:List Nat)(f:Fl)(y:AV)(off:Nat):lPt av (.bp f y off)=True:=rfl
theorem OC(ok:Oks)(g:X->AV)(ρ:Nat->Option Row)(d:Nat)(K:AV->List (Nat×Row)->Prop)(av:List Nat)(x:X):eff ok g ρ d (.lnv av x) K=(iPt av (g x)/\lF K ρ (g x)):=rfl
theorem Sm(ok:Oks)(g:X->AV)(ρ:Nat->Option Row)(d:Nat)(K:AV->List (Nat×Row)->Prop)(r n:Nat)(x v:X):eff ok g ρ d (.stw r n x v) K=(wPt r ρ (g x)/\dL K ρ n (g x) (g v)):=rfl
theorem UE(ρ:Nat->Option Row)(r q i off:Nat):wPt r ρ (.pt q i off)=(q=r/\yA (ρ q)):=rfl
theorem Gh(ρ:Nat->Option Row)(K:AV->List (Nat×Row)->Prop)(n w:Nat)(f:Fl)(xs:List AV)(q:IntKind)(j:Int):jM K ρ n (.lst f w xs) (.sc (.int q j))=(w=n/\0<=j/\opt xs[j.toNat]? (VQ K f.als)):=rfl
theorem RE(K:AV->List (Nat×Row)->Prop)(f:Fl)(y:AV):VQ K f y=K (.bp f y 0) []:=rfl
theorem WV:Fl.als .o=.o:=rfl
theorem Xp:Fl.als .s=.s:=rfl
theorem WZ:Fl.als .m=.m:=rfl
theorem Xb:Fl.als .u=.m:=rfl
theorem Qf(ρ:Nat->Option Row)(K:AV->List (Nat×Row)->Prop)(n r a m:Nat)(q:IntKind)(j:Int):jM K ρ n (.sl r a m) (.sc (.int q j))=((∃es,ρ r=some (.arr n es))/\0<=j/\j<m/\K (.pt r (a+j.toNat) 0) []):=rfl
theorem Pt(ok:Oks)(g:X->AV)(ρ:Nat->Option Row)(d:Nat)(K:AV->List (Nat×Row)->Prop)(off n:Nat)(ag:Bool)(x:X):eff ok g ρ d (.fld off n ag x) K=yR K off n ag (g x):=rfl
theorem Ku(K:AV->List (Nat×Row)->Prop)(off n:Nat)(ag:Bool)(cs:List AV):yR K off n ag (.agg cs)=opt (part (.agg cs) off n ag) (k1 K):=by simp[yR,AV.isAgg]
theorem Kl(ok:Oks)(g:X->AV)(ρ:Nat->Option Row)(d:Nat)(K:AV->List (Nat×Row)->Prop)(x i:X):eff ok g ρ d (.stri x i) K=pH K (g x) (g i):=rfl
theorem RZ(K:AV->List (Nat×Row)->Prop)(s:ByteArray)(q:IntKind)(j:Int):pH K (.sc (.string s)) (.sc (.int q j))=(0<=j/\opt s[j.toNat]? (UH K)):=rfl
theorem RP(K:AV->List (Nat×Row)->Prop)(c:UInt8):UH K c=K (.sc (.int .u8 c.toNat)) []:=rfl
theorem PH(ok:Oks)(g:X->AV)(ρ:Nat->Option Row)(d:Nat)(K:AV->List (Nat×Row)->Prop)(x:X)(j:Nat):eff ok g ρ d (.ext x j) K=yE K (g x) j:=rfl
theorem KS(K:AV->List (Nat×Row)->Prop)(vs:List AV)(j:Nat):yE K (.tup vs) j=opt vs[j]? (k1 K):=rfl
theorem LS(ok:Oks)(g:X->AV)(ρ:Nat->Option Row)(d:Nat)(K:AV->List (Nat×Row)->Prop)(f:Nat)(xs:List X):eff ok g ρ d (.call f xs) K=gi ok ρ d f (xs.map g) K:=rfl
theorem Sp(ok:Oks)(g:X->AV)(ρ:Nat->Option Row)(d:Nat)(K:AV->List (Nat×Row)->Prop)(x:X)(xs:List X):eff ok g ρ d (.dyn x xs) K=wR ok ρ d (g x) (xs.map g) K:=rfl
theorem EH(ok:Oks)(g:X->AV)(ρ:Nat->Option Row)(d:Nat)(K:AV->List (Nat×Row)->Prop)(f:Nat)(xs:List X)(rs:List Nat):eff ok g ρ d (.callM f xs rs) K=callM ok ρ d f (xs.map g) rs K:=rfl
theorem Lr(ok:Oks)(g:X->AV)(ρ:Nat->Option Row)(d:Nat)(K:AV->List (Nat×Row)->Prop)(x:X)(xs:List X)(rs:List Nat):eff ok g ρ d (.dynM x xs rs) K=rn ok ρ d (g x) (xs.map g) rs K:=rfl
theorem Jg(ok:Oks)(ρ:Nat->Option Row)(d:Nat)(K:AV->List (Nat×Row)->Prop)(f:Nat)(cs xs:List AV)(rs:List Nat):rn ok ρ d (.fn f cs) xs rs K=callM ok ρ d f (xs++cs) rs K:=rfl
theorem Si(ok:Oks)(ρ:Nat->Option Row)(d:Nat)(K:AV->List (Nat×Row)->Prop)(f:Nat)(cs xs:List AV):wR ok ρ d (.fn f cs) xs K=gi ok ρ d f (xs++cs) K:=rfl
theorem OQ(ok:Oks)(g:X->AV)(ρ:Nat->Option Row)(d:Nat)(K:AV->List (Nat×Row)->Prop)(x:X):eff ok g ρ d (.len x) K=lF K ρ (g x):=rfl
theorem Jy(ρ:Nat->Option Row)(K:AV->List (Nat×Row)->Prop)(f:Fl)(n:Nat)(xs:List AV):lF K ρ (.lst f n xs)=K (.sc (.int .i64 xs.length)) []:=rfl
theorem PR(ρ:Nat->Option Row)(K:AV->List (Nat×Row)->Prop)(f:Fl)(n:Nat)(xs:List AV):lF K ρ (.tg f n xs)=K (.sc (.int .i64 xs.length)) []:=rfl
theorem Pi(ρ:Nat->Option Row)(K:AV->List (Nat×Row)->Prop)(r i n:Nat):lF K ρ (.sl r i n)=((∃w es,ρ r=some (.arr w es))/\K (.sc (.int .i64 n)) []):=rfl
theorem KL(ok:Oks)(g:X->AV)(ρ:Nat->Option Row)(d:Nat)(K:AV->List (Nat×Row)->Prop)(x:X):eff ok g ρ d (.lenz x) K=pO K (g x):=rfl
theorem LZ(ok:Oks)(g:X->AV)(ρ:Nat->Option Row)(d:Nat)(K:AV->List (Nat×Row)->Prop)(x:X):eff ok g ρ d (.capn x) K=pQ K (g x):=rfl
theorem QG(K:AV->List (Nat×Row)->Prop)(n:Nat):pQ K (.lst .u n [])=K (.i 0) []:=rfl
theorem RJ(ok:Oks)(g:X->AV)(ρ:Nat->Option Row)(d:Nat)(K:AV->List (Nat×Row)->Prop)(n:Nat)(x hi:X):eff ok g ρ d (.slg n x hi) K=zF K n (g x) (g hi):=rfl
theorem TW(K:AV->List (Nat×Row)->Prop)(n w:Nat)(k:IntKind)(h:Int):zF K n (.lst .u w []) (.sc (.int k h))=(w=n/\h=0/\K (.lst .u n []) []):=rfl
theorem PV(ok:Oks)(g:X->AV)(ρ:Nat->Option Row)(d:Nat)(K:AV->List (Nat×Row)->Prop)(n:Nat)(z:AV)(bytes:Nat)(x l:X):eff ok g ρ d (.apz n z bytes x l) K=Dh K (ρ d) d n z bytes (g x) (g l):=rfl
theorem Vo(K:AV->List (Nat×Row)->Prop)(o:Option Row)(d n w:Nat)(z:AV)(bytes:Nat)(l:Int):Dh K o d n z bytes (.lst .u w []) (.sc (.int .i64 l))=(o=none/\w=n/\z.width=n/\n=1/\0<l/\l*bytes<=140737488355328/\K (.sl d 0 l.toNat) [(d,.arr n (List.replicate l.toNat z))]):=rfl
theorem Sn(K:AV->List (Nat×Row)->Prop)(s:ByteArray):pO K (.sc (.string s))=K (.sc (.int .i64 s.size)) []:=rfl
theorem Rt(ok:Oks)(g:X->AV)(ρ:Nat->Option Row)(d:Nat)(K:AV->List (Nat×Row)->Prop)(x:X):eff ok g ρ d (.b2s x) K=xV K ρ (g x):=rfl
theorem NQ(ρ:Nat->Option Row)(K:AV->List (Nat×Row)->Prop)(f:Fl)(n:Nat)(xs:List AV):xV K ρ (.lst f n xs)=(n=1/\opt (u8s xs) (Jr K)):=rfl
theorem OE(ρ:Nat->Option Row)(K:AV->List (Nat×Row)->Prop)(r i n:Nat):xV K ρ (.sl r i n)=vU K (ρ r) i n:=rfl
theorem BW(K:AV->List (Nat×Row)->Prop)(w:Nat)(es:List AV)(i m:Nat):vU K (some (.arr w es)) i m=(w=1/\opt (u8s (sub es i m)) (Jr K)):=rfl
theorem Ra(K:AV->List (Nat×Row)->Prop)(ns:List Int):Jr K ns=K (.sc (.string (b2s ns))) []:=rfl
theorem Sb(ok:Oks)(g:X->AV)(ρ:Nat->Option Row)(d:Nat)(K:AV->List (Nat×Row)->Prop)(neg:Bool)(x:X):eff ok g ρ d (.isn neg x) K=ws K ρ neg (g x):=rfl
theorem MQ(ρ:Nat->Option Row)(K:AV->List (Nat×Row)->Prop)(neg:Bool)(f:Fl)(n:Nat)(xs:List AV):ws K ρ neg (.lst f n xs)=rQ K neg xs.isEmpty:=rfl
theorem Rv(ρ:Nat->Option Row)(K:AV->List (Nat×Row)->Prop)(neg:Bool)(f:Fl)(n:Nat)(xs:List AV):ws K ρ neg (.tg f n xs)=rQ K neg xs.isEmpty:=rfl
theorem RS(ρ:Nat->Option Row)(K:AV->List (Nat×Row)->Prop)(neg:Bool)(r i n:Nat):ws K ρ neg (.sl r i n)=((∃w es,ρ r=some (.arr w es))/\rQ K neg (n==0)):=rfl
theorem So(K:AV->List (Nat×Row)->Prop)(neg e:Bool):rQ K neg e=K (cond e .ub (.sc (.bool neg))) []:=rfl
theorem Wy(x:AV):cond true AV.ub x=AV.ub:=rfl
theorem Un(x:AV):cond false AV.ub x=x:=rfl
theorem Fm{α β:Type}(f:α->β)(xs:List α):(xs.map f).isEmpty=xs.isEmpty:=List.isEmpty_map
theorem SF(ρ:Nat->Option Row)(K:AV->List (Nat×Row)->Prop)(n r i m:Nat)(y:AV):Vp K ρ n (.sl r i m) y=opt (cV n ρ y) (QA K (ρ r) r n i m):=rfl
theorem JB(K:AV->List (Nat×Row)->Prop)(w n r i m:Nat)(es ys:List AV):QA K (some (.arr w es)) r n i m ys=(w=n/\i+m+ys.length<=es.length/\K (.sl r i (m+ys.length)) [(r,.arr w (dZ es (i+m) ys))]):=rfl
theorem Ox(ρ:Nat->Option Row)(K:AV->List (Nat×Row)->Prop)(n r i m:Nat)(lo hi mx:AV):Ui K ρ n (.sl r i m) lo hi mx=AN K (ρ r) n m lo hi mx:=rfl
theorem CZ(K:AV->List (Nat×Row)->Prop)(w n m:Nat)(es:List AV)(k1 k2 k3:IntKind)(l h q:Int):AN K (some (.arr w es)) n m (.sc (.int k1 l)) (.sc (.int k2 h)) (.sc (.int k3 q))=(w=n/\0<=l/\l<=h/\h<=q/\q<=(m:Int)/\K .top []):=rfl
theorem QW(ρ:Nat->Option Row)(K:AV->List (Nat×Row)->Prop)(n r i m:Nat)(lo hi:Option AV):Gf K ρ n (.sl r i m) lo hi=xh K (ρ r) r n i m lo hi:=rfl
theorem DF(K:AV->List (Nat×Row)->Prop)(w n r i m:Nat)(es:List AV)(lo hi:Option AV):xh K (some (.arr w es)) r n i m lo hi=
 (w=n/\bOk lo/\bOk hi/\bV lo 0<=bV hi m/\i+bV hi m<=es.length/\K (.sl r (i+bV lo 0) (bV hi m-bV lo 0)) []):=rfl
theorem SA(ok:Oks)(g:X->AV)(ρ:Nat->Option Row)(d:Nat)(K:AV->List (Nat×Row)->Prop)(n:Nat)(z:AV)(x:X):eff ok g ρ d (.clr n z x) K=Cm K ρ n z (g x):=rfl
theorem Pv(ρ:Nat->Option Row)(K:AV->List (Nat×Row)->Prop)(n r i m:Nat)(z:AV):Cm K ρ n z (.sl r i m)=wz K (ρ r) r n z i m:=rfl
theorem FS(K:AV->List (Nat×Row)->Prop)(w n r i m:Nat)(es:List AV)(z:AV):wz K (some (.arr w es)) r n z i m=(w=n/\z.width=n/\K (.tup []) [(r,.arr w (dZ es i (List.replicate m z)))]):=rfl
theorem Rb(ok:Oks)(g:X->AV)(ρ:Nat->Option Row)(d:Nat)(K:AV->List (Nat×Row)->Prop)(n:Nat)(x y:X):eff ok g ρ d (.cpy n x y) K=DT K ρ n (g x) (g y):=rfl
theorem Rr(ρ:Nat->Option Row)(K:AV->List (Nat×Row)->Prop)(n r i m:Nat)(y:AV):DT K ρ n (.sl r i m) y=opt (cV n ρ y) (vo K (ρ r) r n i m):=rfl
theorem DQ(K:AV->List (Nat×Row)->Prop)(w n r i m:Nat)(es ys:List AV):vo K (some (.arr w es)) r n i m ys=(w=n/\K (.sc (.int .i64 (min ys.length m:Nat))) [(r,.arr w (dZ es i (ys.take (min ys.length m))))]):=rfl
theorem Sd(ok:Oks)(g:X->AV)(ρ:Nat->Option Row)(d:Nat)(K:AV->List (Nat×Row)->Prop)(n bytes:Nat)(mv:Bool)(x y:X):eff ok g ρ d (.app n bytes mv x y) K=qq K ρ d n bytes mv (g x) (g y):=rfl
theorem PZ(ρ:Nat->Option Row)(d:Nat)(K:AV->List (Nat×Row)->Prop)(n bytes:Nat)(mv:Bool)(r i m:Nat)(y:AV):qq K ρ d n bytes mv (.sl r i m) y=(ρ d=none/\opt (jA ρ n mv y) (nr K (ρ r) d n bytes r i m)):=rfl
theorem PU(ρ:Nat->Option Row)(d:Nat)(K:AV->List (Nat×Row)->Prop)(n bytes:Nat)(mv:Bool)(f:Fl)(w:Nat)(es:List AV)(y:AV):qq K ρ d n bytes mv (.tg f w es) y=(ρ d=none/\opt (jA ρ n mv y) (vj K d n bytes w es)):=rfl
theorem Gk(d:Nat)(K:AV->List (Nat×Row)->Prop)(n bytes w:Nat)(es ys:List AV)(u:List (Nat×Row)):vj K d n bytes w es (ys,u)=
 (w=n/\0<ys.length/\(es.length+ys.length)*bytes<=140737488355328/\K (.sl d 0 (es.length+ys.length)) (u++[(d,.arr n (es.map AV.als++ys))])):=by simp[vj,iZ]
theorem Rx(ρ:Nat->Option Row)(n r m:Nat):jA ρ n true (.sl r 0 m)=wJ n r m (ρ r):=rfl
theorem FO(n m r w:Nat)(ys:List AV):wJ n r m (some (.arr w ys))=if w=n/\m=ys.length then some (ys,[(r,.dead)]) else none:=rfl
theorem Qd(ρ:Nat->Option Row)(n:Nat)(y:AV):jA ρ n false y=im (cV n ρ y):=rfl
theorem xF(ys:List AV):im (some ys)=some (ys,[]):=rfl
theorem DA(ρ:Nat->Option Row)(n w:Nat)(f:Fl)(xs:List AV):cV n ρ (.lst f w xs)=if w=n then some xs else none:=rfl
theorem IM(ρ:Nat->Option Row)(n w:Nat)(f:Fl)(xs:List AV):cV n ρ (.tg f w xs)=if w=n then some xs else none:=rfl
theorem GZ(ρ:Nat->Option Row)(n r i k:Nat):cV n ρ (.sl r i k)=mT n (ρ r) i k:=rfl
theorem vB(n w i k:Nat)(es:List AV):mT n (some (.arr w es)) i k=if w=n then some ((sub es i k).map AV.als) else none:=by simp[mT,iZ]
theorem Fs(d:Nat)(K:AV->List (Nat×Row)->Prop)(n bytes r i m w:Nat)(es ys:List AV)(u:List (Nat×Row)):nr K (some (.arr w es)) d n bytes r i m (ys,u)=
 (w=n/\r∉u.map (·.1)/\(m+ys.length)*bytes<=140737488355328/\K (.sl d 0 (m+ys.length)) ((r,.dead)::u++[(d,.arr n (sub es i m++ys))])):=rfl
theorem Kd(ok:Oks)(g:X->AV)(ρ:Nat->Option Row)(d:Nat)(K:AV->List (Nat×Row)->Prop)(x:X):eff ok g ρ d (.nilc x) K=rX K ρ (g x):=rfl
theorem Ov(ρ:Nat->Option Row)(K:AV->List (Nat×Row)->Prop)(f:Fl)(y:AV)(o:Nat):rX K ρ (.bp f y o)=K (.bp f y o) []:=rfl
theorem Oz(ρ:Nat->Option Row)(K:AV->List (Nat×Row)->Prop)(r i o:Nat):rX K ρ (.pt r i o)=(cA (ρ r)/\K (.pt r i o) []):=rfl
theorem WF(ok:Oks)(g:X->AV)(ρ:Nat->Option Row)(d:Nat)(K:AV->List (Nat×Row)->Prop)(x y:X):eff ok g ρ d (.mn x y) K=eMn K (g x) (g y):=rfl
theorem WS(K:AV->List (Nat×Row)->Prop)(a b:Int):eMn K (.sc (.int .i64 a)) (.sc (.int .i64 b))=K (.sc (.int .i64 (if b<a then b else a))) []:=by simp[eMn]
theorem Wr(ok:Oks)(g:X->AV)(ρ:Nat->Option Row)(d:Nat)(K:AV->List (Nat×Row)->Prop)(x y:X):eff ok g ρ d (.mx x y) K=eMx K (g x) (g y):=rfl
theorem Xm(K:AV->List (Nat×Row)->Prop)(a b:Int):eMx K (.sc (.int .i64 a)) (.sc (.int .i64 b))=K (.sc (.int .i64 (if a<b then b else a))) []:=by simp[eMx]
theorem Rk(K:AV->Prop)(k:IntKind)(a b:Int):dx .add (.sc (.int k a)) (.sc (.int k b)) K=K (.sc (.int k (k.wrap (a+b)))):=by simp[dx,dX,ofI]
theorem QI(K:AV->Prop)(k:IntKind)(a b:Int):dx .sub (.sc (.int k a)) (.sc (.int k b)) K=K (.sc (.int k (k.wrap (a-b)))):=by simp[dx,dX,ofI]
theorem OM(K:AV->Prop)(k:IntKind)(a b:Int):dx .mul (.sc (.int k a)) (.sc (.int k b)) K=K (.sc (.int k (k.wrap (a*b)))):=by simp[dx,dX,ofI]
theorem OH(K:AV->Prop)(k:IntKind)(a b:Int):dx .quo (.sc (.int k a)) (.sc (.int k b)) K=(b≠0/\K (.sc (.int k (k.wrap (a.tdiv b))))):=by simp[dx,dX,ofI]
theorem OD(K:AV->Prop)(k:IntKind)(a b:Int):dx .rem (.sc (.int k a)) (.sc (.int k b)) K=(b≠0/\K (.sc (.int k (a.tmod b)))):=by simp[dx,dX]
theorem Sc(K:AV->Prop)(k:IntKind)(a b:Int):dx .and (.sc (.int k a)) (.sc (.int k b)) K=K (.sc (.int k (bits .and k a b))):=by simp[dx,dX]
theorem Uv(K:AV->Prop)(k:IntKind)(a b:Int):dx .or (.sc (.int k a)) (.sc (.int k b)) K=K (.sc (.int k (bits .or k a b))):=by simp[dx,dX]
theorem QM(K:AV->Prop)(k:IntKind)(a b:Int):dx .xor (.sc (.int k a)) (.sc (.int k b)) K=K (.sc (.int k (bits .xor k a b))):=by simp[dx,dX]
theorem zu(K:AV->Prop)(k:IntKind)(a b:Int):dx .andNot (.sc (.int k a)) (.sc (.int k b)) K=K (.sc (.int k (bits .andNot k a b))):=by simp[dx,dX]
theorem QU(K:AV->Prop)(k:IntKind)(a b:Int):dx .eql (.sc (.int k a)) (.sc (.int k b)) K=K (.sc (.bool (a==b))):=by simp[dx,dX]
theorem OK(K:AV->Prop)(k:IntKind)(a b:Int):dx .neq (.sc (.int k a)) (.sc (.int k b)) K=K (.sc (.bool (a !=b))):=by simp[dx,dX]
theorem Sl(K:AV->Prop)(k:IntKind)(a b:Int):dx .lss (.sc (.int k a)) (.sc (.int k b)) K=K (.sc (.bool (decide (a<b)))):=by simp[dx,dX]
theorem PF(K:AV->Prop)(k:IntKind)(a b:Int):dx .leq (.sc (.int k a)) (.sc (.int k b)) K=K (.sc (.bool (decide (a<=b)))):=by simp[dx,dX]
theorem Qs(K:AV->Prop)(k:IntKind)(a b:Int):dx .gtr (.sc (.int k a)) (.sc (.int k b)) K=K (.sc (.bool (decide (b<a)))):=by simp[dx,dX]
theorem Sk(K:AV->Prop)(k:IntKind)(a b:Int):dx .geq (.sc (.int k a)) (.sc (.int k b)) K=K (.sc (.bool (decide (b<=a)))):=by simp[dx,dX]
theorem Qx(K:AV->Prop)(k k':IntKind)(a b:Int):dx .shl (.sc (.int k a)) (.sc (.int k' b)) K=eP .shl k a b K:=by simp[dx]
theorem QS(K:AV->Prop)(k k':IntKind)(a b:Int):dx .shr (.sc (.int k a)) (.sc (.int k' b)) K=eP .shr k a b K:=by simp[dx]
theorem WR(K:AV->Prop)(k:IntKind)(a b:Int):eP .shl k a b K=(0<=b/\K (.sc (.int k (k.wrap (a*2^(min b.toNat k.bits)))))):=by simp[eP,ofI]
theorem Xf(K:AV->Prop)(k:IntKind)(a b:Int):eP .shr k a b K=(0<=b/\K (.sc (.int k (a.fdiv (2^(min b.toNat k.bits)))))):=by simp[eP]
theorem Hu(K:AV->Prop)(a b:ByteArray):dx .add (.sc (.string a)) (.sc (.string b)) K=(a.size+b.size<=9223372036854775807/\K (.sc (.string (a++b)))):=rfl
theorem Mo(K:AV->Prop)(a b:ByteArray):dx .eql (.sc (.string a)) (.sc (.string b)) K=K (.sc (.bool (a.toList==b.toList))):=rfl
theorem Ir(K:AV->Prop)(a b:ByteArray):dx .neq (.sc (.string a)) (.sc (.string b)) K=K (.sc (.bool (!(a.toList==b.toList)))):=rfl
theorem Uh(K:AV->Prop)(k:IntKind)(a:Int):unV .neg (.sc (.int k a)) K=K (.sc (.int k (k.wrap (0-a)))):=by simp[unV,ofI]
theorem VL(K:AV->Prop)(a:Bool):unV .not (.sc (.bool a)) K=K (.sc (.bool (!a))):=rfl
theorem ND{α:Type}(x:α)(K:α->Prop):opt (some x) K=K x:=rfl
theorem Dq(ok:Oks)(σ:St)(K:St->Prop):dF ok [] K σ=K σ:=rfl
theorem zx(ok:Oks)(σ:St)(K:St->Prop)(d:Option Nat)(o:AOp)(os:List aX):dF ok (⟨d,o,none⟩::os) K σ=eff ok σ.gx σ.row (d.getD 0) o (Sg d (dF ok os K) σ):=rfl
theorem zC(ok:Oks)(σ:St)(K:St->Prop)(d:Option Nat)(o:AOp)(s:Nat)(w:Bool)(os:List aX):dF ok (⟨d,o,some (s,w)⟩::os) K σ=
 eU σ s w (σ.get s) (zX ok d o (dF ok os K)) (JA d (dF ok os K)):=rfl
theorem Pe(ok:Oks)(σ:St)(K:St->Prop)(t n k:Nat)(x:X)(mids:List (Nat×X))(d f:Nat)(xs:List X):stH ok (.inn t n k x mids d f xs) K σ=HA ok K σ (pY mids (σ.app (some t) .top [])) t n k d f xs (σ.gx x):=rfl
theorem Sz(ok:Oks)(σ:St)(K:St->Prop)(d f:Nat)(xs:List X)(rs:List Nat):stH ok (.har d f xs rs) K σ=(σ.fz=true/\callM ⟨ok.p,ok.h,ok.h⟩ σ.row d f (xs.map σ.gx) rs (Wg d K σ)):=rfl
theorem Pd(σ:St)(K:St->Prop)(d:Nat)(v:AV)(u:List (Nat×Row)):Wg d K σ v u=K (σ.app (some d) v u):=rfl
theorem Nv(σ:St):pY [] σ=σ:=rfl
theorem CR(σ:St)(d:Nat)(x:X)(ms:List (Nat×X)):pY ((d,x)::ms) σ=pY ms (σ.app (some d) (σ.gx x) []):=rfl
theorem OX(ok:Oks)(σ:St)(K:St->Prop)(t n k d f:Nat)(xs:List X)(r i off:Nat)(τ:St):HA ok K σ τ t n k d f xs (.pt r i off)=GI ok K τ t n k d f xs r i off (σ.row r):=rfl
theorem Hz(ok:Oks)(σ:St)(K:St->Prop)(t n k d f:Nat)(xs:List X)(r i off w:Nat)(es:List AV):GI ok K σ t n k d f xs r i off (some (.arr w es))=(w=n/\opt es[i]? fun y=>opt (part y off 1 false) (Jw ok K σ t n k d f xs r i off es y)):=rfl
theorem GX(ok:Oks)(σ:St)(K:St->Prop)(t n k d f:Nat)(xs:List X)(r i off w:Nat)(es ys:List AV)(y:AV):Jw ok K σ t n k d f xs r i off es y (.lst .u w ys)=(w=k/\Ur ok K σ t n k d f xs r i off es y ys):=rfl
theorem Vm(σ:St)(t len j:Nat):rK σ t len (.t j)=if j=t then .sl 1000000000 0 len else σ.get j:=rfl
theorem Ut(σ:St)(t len:Nat)(a:AV):rK σ t len (.c a)=a:=rfl
theorem LU(σ:St)(t j:Nat):tD σ t (.t j)=(j=t\/(σ.get j).ments=[]):=rfl
theorem GV(σ:St)(t:Nat)(a:AV):tD σ t (.c a)=(a.ments=[]):=rfl
theorem Sr(ok:Oks)(σ:St)(K:St->Prop)(d:Option Nat)(o:AOp):zX ok d o K σ=eff ok σ.gx σ.row (d.getD 0) o (Sg d K σ):=rfl
theorem Sa(σ:St)(K:St->Prop)(d:Option Nat):JA d K σ=K (σ.app d (.tup []) []):=rfl
theorem Bh(σ:St)(K:St->Prop)(d:Option Nat)(v:AV)(u:List (Nat×Row)):Sg d K σ v u=K (σ.app d v u):=rfl
theorem Sq(σ:St)(Q:Ex->St->Prop)(can:List Can):xo Q can σ=Q .nrm (σ.can can):=rfl
theorem CU(σ:St)(s:Nat)(A B:St->Prop):eU σ s true (.sc (.bool true)) A B=A (σ.know s true):=by simp[eU]
theorem DS(σ:St)(s:Nat)(A B:St->Prop):eU σ s true (.sc (.bool false)) A B=B (σ.know s false):=by simp[eU]
theorem CP(σ:St)(s:Nat)(A B:St->Prop):eU σ s false (.sc (.bool true)) A B=B (σ.know s true):=by simp[eU]
theorem DV(σ:St)(s:Nat)(A B:St->Prop):eU σ s false (.sc (.bool false)) A B=A (σ.know s false):=by simp[eU]
theorem HL(σ:St)(s:Nat)(w:Bool)(A B:St->Prop):eU σ s w (.tup []) A B=B σ:=rfl
theorem RL(σ:St):σ.can []=σ:=rfl
theorem Jc(σ:St)(d:Nat)(ds:List Can):σ.can (.s d::ds)=(σ.canV d (σ.get d)).can ds:=rfl
theorem CS(σ:St)(far:Bool)(d r j:Nat)(ds:List Can):σ.can (.f far d r j::ds)=(σ.canG far d r j (gZ j (az r σ.rows))).can ds:=rfl
theorem CY(σ:St)(d:Nat)(ds:List Can):σ.can (.r d::ds)=(σ.canW d (σ.get d)).can ds:=rfl
theorem Qv(σ:St)(d r i n:Nat):σ.canW d (.sl r i n)=σ.canSr d r i n:=rfl
theorem KK(σ:St)(d n:Nat):σ.canW d (.lst .u n [])=σ.canNil d n:=rfl
theorem US(σ:St)(d n:Nat)(xs:List AV):σ.canW d (.lst .o n xs)=σ:=rfl
theorem Vn(σ:St)(d n:Nat)(xs:List AV):σ.canW d (.lst .m n xs)=σ:=rfl
theorem UM(σ:St)(d n:Nat)(xs:List AV):σ.canW d (.lst .s n xs)=σ:=rfl
theorem Vf(σ:St)(far:Bool)(d r j n:Nat)(xs:List AV):σ.canG far d r j (.lst .o n xs)=σ:=rfl
theorem Wl(σ:St)(far:Bool)(d r j n:Nat)(xs:List AV):σ.canG far d r j (.lst .m n xs)=σ:=rfl
theorem Ul(σ:St)(far:Bool)(d r j n:Nat)(xs:List AV):σ.canG far d r j (.lst .s n xs)=σ:=rfl
theorem Fh(σ:St)(d:Nat)(ds:List Can):σ.can (.z d::ds)=(σ.canZ d (σ.get d)).can ds:=rfl
theorem Rc(σ:St)(d r i m:Nat):σ.canZ d (.sl r i m)=σ.canZr d i m r (az r σ.rows):=rfl
theorem IP(σ:St)(d n:Nat)(f:Fl)(xs:List AV):σ.canZ d (.lst f n xs)=σ:=rfl
theorem JI(σ:St)(d:Nat)(cs:List AV):σ.canZ d (.agg cs)=σ.canZc d cs 0 cs:=rfl
theorem Ed(σ:St)(d j:Nat)(all:List AV):σ.canZc d all j []=σ:=by unfold St.canZc;rfl
theorem Ij(σ:St)(d j:Nat)(all cs:List AV)(r i m:Nat):σ.canZc d all j (.sl r i m::cs)=σ.canZcr d all j r i m (az r σ.rows):=by rw[St.canZc]
theorem EO(σ:St)(d j:Nat)(all cs:List AV)(f:Fl)(n:Nat)(xs:List AV):σ.canZc d all j (.lst f n xs::cs)=σ.canZc d all (j+1) cs:=by rw[St.canZc];intros;contradiction
theorem KT(σ:St)(d j:Nat)(all cs:List AV)(v:Value):σ.canZc d all j (.sc v::cs)=σ.canZc d all (j+1) cs:=by rw[St.canZc];intros;contradiction
theorem CA(env:List (Nat×AV))(rows:List (Nat×Row))(d j:Nat)(all:List AV)(r i m q:Nat)(es:List AV):St.canZcr ⟨env,rows⟩ d all j r i m (some (.arr q es))=⟨put d (.agg (gS all j (.lst .m q (dK (sub es i m))))) env,put r .dead rows⟩:=rfl
theorem Ep(σ:St)(far:Bool)(d k j:Nat)(ds:List Can):σ.can (.e far d k j::ds)=(σ.canE far d k j (gZ j (some (.var (σ.get k))))).can ds:=rfl
theorem Rs(env:List (Nat×AV))(rows:List (Nat×Row))(far:Bool)(d k j q i m:Nat):St.canE ⟨env,rows⟩ far d k j (.sl q i m)=if q=d\/far=false/\1000000000<=q then⟨env,rows⟩ else⟨(env.map fun p=>(p.1,p.2.hush d)).map fun p=>(p.1,p.2.ren q d),((del d rows).map fun p=>(p.1,p.2.hush d)).map fun p=>(if p.1=q then d else p.1,p.2.map (·.ren q d))⟩:=rfl
theorem IY(env:List (Nat×AV))(rows:List (Nat×Row))(far:Bool)(d k j m:Nat):St.canE ⟨env,rows⟩ far d k j (.lst .u m [])=St.canEN ⟨env,rows⟩ d k j m (az k (env.map fun p=>(p.1,p.2.hush d))):=rfl
theorem Vb(σ:St)(far:Bool)(d r j n:Nat)(xs:List AV):σ.canE far d r j (.lst .o n xs)=σ:=rfl
theorem VH(σ:St)(far:Bool)(d r j n:Nat)(xs:List AV):σ.canE far d r j (.lst .m n xs)=σ:=rfl
theorem Vd(σ:St)(far:Bool)(d r j n:Nat)(xs:List AV):σ.canE far d r j (.lst .s n xs)=σ:=rfl
theorem Ht(env:List (Nat×AV))(rows:List (Nat×Row))(d k j m:Nat)(cs:List AV):St.canEN ⟨env,rows⟩ d k j m (some (.agg cs))=⟨put k (.agg (gS cs j (.sl d 0 0))) (env.map fun p=>(p.1,p.2.hush d)),put d (.arr m []) ((del d rows).map fun p=>(p.1,p.2.hush d))⟩:=rfl
theorem CD(σ:St)(r:Nat)(ds:List Can):σ.can (.w r::ds)=(σ.canX r (az r σ.rows)).can ds:=rfl
theorem Hc(env:List (Nat×AV))(rows:List (Nat×Row))(r n:Nat)(es:List AV):St.canX ⟨env,rows⟩ r (some (.arr n es))=⟨env,put r (.arr n (es.map AV.als)) rows⟩:=by simp[St.canX,iZ]
theorem Db(σ:St)(r:Nat):σ.canX r none=σ:=rfl
theorem KE(σ:St)(r:Nat)(cs:List AV):σ.canX r (some (.var (.agg cs)))=σ.canXc r cs 0 cs:=rfl
theorem CM(σ:St)(r j:Nat)(all:List AV):σ.canXc r all j []=σ:=by unfold St.canXc;rfl
theorem Hg(σ:St)(r j:Nat)(all cs:List AV)(q i m:Nat):σ.canXc r all j (.sl q i m::cs)=σ.canXcr r all j q i m (az q σ.rows):=by rw[St.canXc]
theorem yI(σ:St)(r j:Nat)(all cs:List AV)(n:Nat)(xs:List AV):σ.canXc r all j (.lst .o n xs::cs)=σ.canXc r all (j+1) cs:=by rw[St.canXc]<;>(intros;simp_all)
theorem xG(σ:St)(r j:Nat)(all cs:List AV)(n:Nat)(xs:List AV):σ.canXc r all j (.lst .m n xs::cs)=σ.canXc r all (j+1) cs:=by rw[St.canXc]<;>(intros;simp_all)
theorem yZ(σ:St)(r j:Nat)(all cs:List AV)(n:Nat)(xs:List AV):σ.canXc r all j (.lst .s n xs::cs)=σ.canXc r all (j+1) cs:=by rw[St.canXc]<;>(intros;simp_all)
theorem yq(σ:St)(r j:Nat)(all cs:List AV)(n:Nat):σ.canXc r all j (.lst .u n []::cs)=⟨σ.env,put r (.var (.agg (gS all j (.lst .m n [])))) σ.rows⟩:=by rw[St.canXc]
theorem LA(σ:St)(r j:Nat)(all cs:List AV)(v:Value):σ.canXc r all j (.sc v::cs)=σ.canXc r all (j+1) cs:=by rw[St.canXc]<;>(intros;contradiction)
theorem EQ(env:List (Nat×AV))(rows:List (Nat×Row))(r j:Nat)(all:List AV)(q i m k:Nat)(es:List AV):St.canXcr ⟨env,rows⟩ r all j q i m (some (.arr k es))=⟨env,put r (.var (.agg (gS all j (.lst .m k (dK (sub es i m)))))) (put q .dead rows)⟩:=rfl
theorem Ez(σ:St)(r:Nat):σ.canX r (some .dead)=σ:=rfl
theorem xE(j:Nat)(cs:List AV):gZ j (some (.var (.agg cs)))=rE cs j:=rfl
theorem Dt(q i m:Nat):gZ 0 (some (.var (.sl q i m)))=.sl q i m:=rfl
theorem Ak(f:Fl)(m:Nat)(xs:List AV):gZ 0 (some (.var (.lst f m xs)))=.lst f m xs:=rfl
theorem Wx(x:AV)(xs:List AV):rE (x::xs) 0=x:=rfl
theorem VO(x:AV)(xs:List AV)(j:Nat):rE (x::xs) (j+1)=rE xs j:=rfl
theorem Uu(x y:AV)(xs:List AV):gS (x::xs) 0 y=y::xs:=rfl
theorem VY(x y:AV)(xs:List AV)(j:Nat):gS (x::xs) (j+1) y=x::gS xs j y:=rfl
theorem Se(env:List (Nat×AV))(rows:List (Nat×Row))(far:Bool)(d r j q i m:Nat):St.canG ⟨env,rows⟩ far d r j (.sl q i m)=if q=d\/far=false/\1000000000<=q then⟨env,rows⟩ else⟨(env.map fun p=>(p.1,p.2.hush d)).map fun p=>(p.1,p.2.ren q d),((del d rows).map fun p=>(p.1,p.2.hush d)).map fun p=>(if p.1=q then d else p.1,p.2.map (·.ren q d))⟩:=rfl
theorem MT(env:List (Nat×AV))(rows:List (Nat×Row))(far:Bool)(d r j m:Nat):St.canG ⟨env,rows⟩ far d r j (.lst .u m [])=St.canFN ⟨env,rows⟩ d r j m (az r ((del d rows).map fun p=>(p.1,p.2.hush d))):=rfl
theorem MD(env:List (Nat×AV))(rows:List (Nat×Row))(d r j m k:Nat):St.canFN ⟨env,rows⟩ d r j m (some (.var (.lst .u k [])))=⟨env.map fun p=>(p.1,p.2.hush d),put d (.arr m []) (put r (.var (.sl d 0 0)) ((del d rows).map fun p=>(p.1,p.2.hush d)))⟩:=rfl
theorem HK(env:List (Nat×AV))(rows:List (Nat×Row))(d r j m:Nat)(cs:List AV):St.canFN ⟨env,rows⟩ d r j m (some (.var (.agg cs)))=⟨env.map fun p=>(p.1,p.2.hush d),put d (.arr m []) (put r (.var (.agg (gS cs j (.sl d 0 0)))) ((del d rows).map fun p=>(p.1,p.2.hush d)))⟩:=rfl
theorem Qp(σ:St)(d r i n:Nat):σ.canV d (.sl r i n)=σ.canSl d r i n:=rfl
theorem MB(σ:St)(d n:Nat):σ.canV d (.lst .u n [])=σ.canNil d n:=rfl
theorem UI(σ:St)(d n:Nat)(xs:List AV):σ.canV d (.lst .o n xs)=σ:=rfl
theorem Ub(σ:St)(d n:Nat)(xs:List AV):σ.canV d (.lst .m n xs)=σ:=rfl
theorem VS(σ:St)(d n:Nat)(xs:List AV):σ.canV d (.lst .s n xs)=σ:=rfl
theorem Wz(env:List (Nat×AV))(rows:List (Nat×Row))(k:Nat):St.get ⟨env,rows⟩ k=(az k env).getD .top:=rfl
theorem VX(env:List (Nat×AV))(rows:List (Nat×Row))(k:Nat):St.row ⟨env,rows⟩ k=az k rows:=rfl
theorem gx_t(σ:St)(n:Nat):σ.gx (.t n)=σ.get n:=rfl
theorem gx_c(σ:St)(a:AV):σ.gx (.c a)=a:=rfl
theorem xi(env:List (Nat×AV))(rows:List (Nat×Row))(d:Nat)(v:AV)(u:List (Nat×Row)):St.app ⟨env,rows⟩ (some d) v u=⟨put d v env,bi u rows⟩:=rfl
theorem vM(env:List (Nat×AV))(rows:List (Nat×Row))(v:AV)(u:List (Nat×Row)):St.app ⟨env,rows⟩ none v u=⟨env,bi u rows⟩:=rfl
theorem ra(rows:List (Nat×Row)):bi [] rows=rows:=rfl
theorem nV(p:Nat×Row)(u rows:List (Nat×Row)):bi (p::u) rows=bi u (put p.1 p.2 rows):=rfl
theorem Pz(env:List (Nat×AV))(rows:List (Nat×Row))(s:Nat)(b:Bool):St.know ⟨env,rows⟩ s b=⟨put s (.sc (.bool b)) env,rows⟩:=rfl
theorem Jh{α:Type}(k:Nat):az k ([]:List (Nat×α))=none:=rfl
theorem EL{α:Type}(k j:Nat)(x:α)(l:List (Nat×α)):az k ((j,x)::l)=if j=k then some x else az k l:=rfl
theorem Am{α:Type}(k:Nat)(x:α):put k x []=[(k,x)]:=rfl
theorem vL{α:Type}(k j:Nat)(x y:α)(l:List (Nat×α)):put k x ((j,y)::l)=if j=k then(k,x)::l else(j,y)::put k x l:=rfl
theorem Qk{α:Type}(k:Nat):del k ([]:List (Nat×α))=[]:=rfl
theorem Jf{α:Type}(k j:Nat)(x:α)(l:List (Nat×α)):del k ((j,x)::l)=if j=k then del k l else(j,x)::del k l:=rfl
theorem getD_some{α:Type}(x y:α):(some x).getD y=x:=rfl
theorem Dr{α:Type}(y:α):(none:Option α).getD y=y:=rfl
theorem Lc(env:List (Nat×AV))(rows:List (Nat×Row))(d r i n:Nat):St.canSr ⟨env,rows⟩ d r i n=if r=d then⟨env,rows⟩ else
 ⟨put d (.sl d i n) ((env.map fun p=>(p.1,p.2.hush d)).map fun p=>(p.1,p.2.ren r d)),
  ((del d rows).map fun p=>(p.1,p.2.hush d)).map fun p=>(if p.1=r then d else p.1,p.2.map (·.ren r d))⟩:=rfl
theorem Nz(env:List (Nat×AV))(rows:List (Nat×Row))(d i m r q:Nat)(es:List AV):St.canZr ⟨env,rows⟩ d i m r (some (.arr q es))=⟨put d (.lst .m q (dK (sub es i m))) env,put r .dead rows⟩:=rfl
theorem HG(env:List (Nat×AV))(rows:List (Nat×Row))(d r i n:Nat):St.canSl ⟨env,rows⟩ d r i n=if r=d\/1000000000<=r then⟨env,rows⟩ else
 ⟨put d (.sl d i n) ((env.map fun p=>(p.1,p.2.hush d)).map fun p=>(p.1,p.2.ren r d)),
  ((del d rows).map fun p=>(p.1,p.2.hush d)).map fun p=>(if p.1=r then d else p.1,p.2.map (·.ren r d))⟩:=rfl
theorem DB(env:List (Nat×AV))(rows:List (Nat×Row))(d n:Nat):St.canNil ⟨env,rows⟩ d n=
 ⟨put d (.sl d 0 0) (env.map fun p=>(p.1,p.2.hush d)),put d (.arr n []) ((del d rows).map fun p=>(p.1,p.2.hush d))⟩:=rfl
theorem VT(σ:St)(lv lr:List Nat):σ.res lv lr=⟨lv.map fun k=>(k,σ.get k),lr.map fun r=>(r,(σ.row r).getD .dead)⟩:=rfl
theorem FZ(σ:St)(lv lr:List Nat):σ.resOk lv lr=((∀k∈lv,∀r∈(σ.get k).ments,r∈lr)/\(∀q∈lr,∀r∈((σ.row q).getD .dead).ments,r∈lr)/\lr.Nodup):=rfl
theorem DZ(r:Nat)(x:AV):Row.hush r (.var x)=if r∈x.ments then .dead else .var x:=rfl
theorem Cu(r:Nat)(n:Nat)(x:List AV):Row.hush r (.arr n x)=.arr n x:=rfl
theorem zP(r:Nat):Row.hush r .dead=.dead:=rfl
theorem JC(h:AV->AV)(x:AV):Row.map h (.var x)=.var (h x):=rfl
theorem Mx(h:AV->AV)(n:Nat)(x:List AV):Row.map h (.arr n x)=.arr n x:=rfl
theorem CB(h:AV->AV):Row.map h .dead=.dead:=rfl
theorem xD(x:AV):Row.ments (.var x)=x.ments:=rfl
theorem yW(n:Nat)(x:List AV):Row.ments (.arr n x)=[]:=rfl
theorem vI:Row.ments .dead=[]:=rfl
theorem QN(r:Nat)(a:AV):a.hush r=if r∈a.ments then .top else a:=rfl
theorem HU(v:Value):(AV.sc v).ments=[]:=by simp[AV.ments]
theorem BZ(f:Fl)(n:Nat)(x:List AV):(AV.lst f n x).ments=[]:=by simp[AV.ments]
theorem HJ(f:Fl)(n:Nat)(x:List AV):(AV.tg f n x).ments=[]:=by simp[AV.ments]
theorem KQ(f:Fl)(x:AV)(n:Nat):(AV.bp f x n).ments=[]:=by simp[AV.ments]
theorem Cy:AV.top.ments=[]:=by simp[AV.ments]
theorem Im(r i n:Nat):(AV.sl r i n).ments=[r]:=by simp[AV.ments]
theorem IK(r i n:Nat):(AV.pt r i n).ments=[r]:=by simp[AV.ments]
theorem Fg(cs:List AV):(AV.agg cs).ments=aM cs:=by simp[AV.ments]
theorem LE(f:Nat)(cs:List AV):(AV.fn f cs).ments=aM cs:=by simp[AV.ments]
theorem Ek(cs:List AV):(AV.tup cs).ments=aM cs:=by simp[AV.ments]
theorem xN:aM []=[]:=by simp[aM]
theorem vO(c:AV)(cs:List AV):aM (c::cs)=c.ments++aM cs:=by simp[aM]
theorem sP(env:List (Nat×AV))(rows:List (Nat×Row)):St.fz ⟨env,rows⟩=(env.all (fun p=>p.2.fz)&&rows.all (fun p=>p.2.fz)):=rfl
theorem eK(v:Value):(AV.sc v).fz=true:=by simp[AV.fz]
theorem cE(n:Nat)(xs:List AV):(AV.lst .o n xs).fz=fzL xs:=by simp[AV.fz]
theorem nw(x:AV)(n:Nat):(AV.bp .o x n).fz=x.fz:=by simp[AV.fz]
theorem dq(cs:List AV):(AV.agg cs).fz=fzL cs:=by simp[AV.fz]
theorem nB(cs:List AV):(AV.tup cs).fz=fzL cs:=by simp[AV.fz]
theorem su(f:Nat)(cs:List AV):(AV.fn f cs).fz=fzL cs:=by simp[AV.fz]
theorem th(r i n:Nat):(AV.sl r i n).fz=true:=by simp[AV.fz]
theorem sX(r i n:Nat):(AV.pt r i n).fz=true:=by simp[AV.fz]
theorem nz:AV.top.fz=true:=by simp[AV.fz]
theorem cG:fzL []=true:=by simp[fzL]
theorem cd(c:AV)(cs:List AV):fzL (c::cs)=(c.fz&&fzL cs):=by simp[fzL]
theorem eL(v:Value):(AV.sc v).ouB=true:=by simp[AV.ouB]
theorem cJ(n:Nat)(xs:List AV):(AV.lst .u n xs).ouB=dC xs:=by simp[AV.ouB]
theorem kS(n:Nat)(xs:List AV):(AV.lst .o n xs).ouB=fzL xs:=by simp[AV.ouB]
theorem dh(cs:List AV):(AV.agg cs).ouB=dC cs:=by simp[AV.ouB]
theorem cH:dC []=true:=by simp[dC]
theorem ce(c:AV)(cs:List AV):dC (c::cs)=(c.ouB&&dC cs):=by simp[dC]
theorem kT(x:AV):(Row.var x).fz=x.fz:=rfl
theorem lp(n:Nat)(xs:List AV):(Row.arr n xs).fz=dC xs:=rfl
theorem iO:Row.dead.fz=true:=rfl
theorem dr(xs:List Int):fzL (xs.map AV.i)=true:=by induction xs<;>simp_all [fzL,AV.fz]
theorem di(xs:List Bool):fzL (xs.map AV.b)=true:=by induction xs<;>simp_all [fzL,AV.fz]
theorem dl(xs:List ByteArray):fzL (xs.map AV.z)=true:=by induction xs<;>simp_all [fzL,AV.fz]
theorem df(xs:List Int):fzL (xs.map AV.u8)=true:=by induction xs<;>simp_all [fzL,AV.fz]
theorem cF(xs:List Int):fzL (xs.map AV.u64)=true:=by induction xs<;>simp_all [fzL,AV.fz]
theorem dm(xs:List Int):dC (xs.map AV.u8)=true:=by induction xs<;>simp_all [dC,AV.ouB]
theorem cI(xs:List Int):dC (xs.map AV.u64)=true:=by induction xs<;>simp_all [dC,AV.ouB]
theorem dp(xs:List Int):dC (xs.map AV.i)=true:=by induction xs<;>simp_all [dC,AV.ouB]
theorem dg(xs:List Bool):dC (xs.map AV.b)=true:=by induction xs<;>simp_all [dC,AV.ouB]
theorem dj(xs:List ByteArray):dC (xs.map AV.z)=true:=by induction xs<;>simp_all [dC,AV.ouB]
theorem xX(x:AV)(off n:Nat):part x off n false=x.cells[off]?:=rfl
theorem BX(cs:List AV)(off n:Nat):part (.agg cs) off n true=if off+n<=cs.length then some (if off=0/\n=cs.length then .agg cs else .agg ((cs.drop off).take n)) else none:=by
 unfold part;by_cases h:off+n<=cs.length
 ·rw[if_pos rfl,if_pos ⟨rfl,h⟩,if_pos h];rfl
 ·rw[if_pos rfl,if_neg (fun e=>h e.2),if_neg h]
theorem ua(cs:List AV)(off:Nat)(v:Value):setPart (.agg cs) off (.sc v)=if off+1<=cs.length then some (.agg (fill cs off (.sc v))) else none:=rfl
theorem uS(cs:List AV)(off r i n:Nat):setPart (.agg cs) off (.sl r i n)=if off+1<=cs.length then some (.agg (fill cs off (.sl r i n))) else none:=rfl
theorem tC(cs:List AV)(off n:Nat)(f:Fl)(xs:List AV):setPart (.agg cs) off (.lst f n xs)=if off+1<=cs.length then some (.agg (fill cs off (.lst f n xs))) else none:=rfl
theorem uc(cs vs:List AV)(off:Nat):setPart (.agg cs) off (.agg vs)=if off=0/\vs.length=cs.length then some (.agg vs) else if off+vs.length<=cs.length then some (.agg (fill cs off (.agg vs))) else none:=rfl
theorem Aj(x v:Value):setPart (.sc x) 0 (.sc v)=some (.sc v):=by simp[setPart,AV.isAgg,AV.width]
theorem vt(f:Fl)(n:Nat)(xs:List AV)(f':Fl)(n':Nat)(xs':List AV):setPart (.lst f n xs) 0 (.lst f' n' xs')=some (.lst f' n' xs'):=by simp[setPart,AV.isAgg,AV.width]
theorem sj(f:Fl)(n:Nat)(xs:List AV)(r i k:Nat):setPart (.lst f n xs) 0 (.sl r i k)=some (.sl r i k):=by simp[setPart,AV.isAgg,AV.width]
theorem tM(r' i' k' r i k:Nat):setPart (.sl r' i' k') 0 (.sl r i k)=some (.sl r i k):=by simp[setPart,AV.isAgg,AV.width]
theorem Fr(cs:List AV):(AV.agg cs).cells=cs:=rfl
theorem Il(v:Value):(AV.sc v).cells=[.sc v]:=rfl
theorem Eg(f:Fl)(n:Nat)(xs:List AV):(AV.lst f n xs).cells=[.lst f n xs]:=rfl
theorem Mt(r i n:Nat):(AV.sl r i n).cells=[.sl r i n]:=rfl
theorem NL(f:Nat)(cs:List AV):(AV.fn f cs).cells=[.fn f cs]:=rfl
theorem EZ(cs:List AV):(AV.agg cs).width=cs.length:=rfl
theorem Mu(v:Value):(AV.sc v).width=1:=rfl
theorem Ct(f:Fl)(n:Nat)(xs:List AV):(AV.lst f n xs).width=1:=rfl
theorem Hf(r i n:Nat):(AV.sl r i n).width=1:=rfl
theorem Lm(f:Nat)(cs:List AV):(AV.fn f cs).width=1:=rfl
theorem Pb(cs:List AV)(off:Nat)(v:AV):fill cs off v=cs.take off++v.cells++cs.drop (off+v.cells.length):=rfl
theorem EA(cs:List AV):lX cs []=cs:=rfl
theorem zj(cs:List AV)(off:Nat)(v:AV)(l:List (Nat×AV)):lX cs ((off,v)::l)=lX (fill cs off v) l:=rfl
theorem Py(rs:List RV)(res:AV)(σ:St):fin rs res .ret σ=opt (RVs.val σ rs) fun xs=>(aM xs).Nodup/\lift σ.row 3 (gO xs)=res:=by
 simp only[fin,opt];cases RVs.val σ rs<;>simp
theorem PN(rs:List RV)(res:AV)(σ:St):fin rs res .nrm σ=opt (RVs.val σ rs) fun xs=>(aM xs).Nodup/\lift σ.row 3 (gO xs)=res:=by
 simp only[fin,opt];cases RVs.val σ rs<;>simp
def WA(o:Option Row)(k:Nat)(ag:Bool):Option AV:=match o with
 |some (.var y)=>part y 0 k ag
 |_=>none
def rvC(σ:St)(a:AV)(k:Nat)(ag:Bool):Option AV:=match a with
 | .pt r 0 0=>WA (σ.row r) k ag
 |_=>none
theorem rv_t(σ:St)(n:Nat):RV.val σ (.t n)=some (σ.get n):=rfl
theorem rv_c(σ:St)(n k:Nat)(ag:Bool):RV.val σ (.c n k ag)=rvC σ (σ.get n) k ag:=by simp only[RV.val];rfl
theorem Up(σ:St)(r k:Nat)(ag:Bool):rvC σ (.pt r 0 0) k ag=WA (σ.row r) k ag:=rfl
theorem IJ(y:AV)(k:Nat)(ag:Bool):WA (some (.var y)) k ag=part y 0 k ag:=rfl
def TH(x:Option AV)(xs:Option (List AV)):Option (List AV):=match x,xs with
 |some x,some xs=>some (x::xs)
 |_,_=>none
theorem RD(σ:St):RVs.val σ []=some []:=rfl
theorem NJ(σ:St)(r:RV)(rs:List RV):RVs.val σ (r::rs)=TH (r.val σ) (RVs.val σ rs):=by simp only[RVs.val];rfl
theorem Ah(x:AV)(xs:List AV):TH (some x) (some xs)=some (x::xs):=rfl
theorem JE(x:AV):gO [x]=x:=rfl
theorem LM(x y:AV)(l:List AV):gO (x::y::l)=.tup (x::y::l):=rfl
theorem NB(args:List AV):St.start args=⟨St.start.go 0 args,[]⟩:=rfl
theorem Dy(n:Nat):St.start.go n []=[]:=rfl
theorem xI(n:Nat)(a:AV)(l:List AV):St.start.go n (a::l)=(n,a)::St.start.go (n+1) l:=rfl
theorem aB(ok:Oks)(a:aw)(rs:List RV)(args:List AV)(res:AV):Vx ok a rs args res=AWP ok a (fin rs res) (St.start args):=rfl
theorem fl1:Fl.als .u=.m:=rfl
theorem fl2:Fl.als .o=.o:=rfl
theorem fl3:Fl.als .s=.s:=rfl
theorem fl4:Fl.als .m=.m:=rfl
theorem fl5:Fl.fix .u=.u:=rfl
theorem fl6:Fl.fix .o=.s:=rfl
theorem fl7:Fl.fix .s=.s:=rfl
theorem fl8:Fl.fix .m=.m:=rfl
theorem pG{α β:Type}(f:α->β)(x:α)(l:List α):(x::l).map f=f x::l.map f:=rfl
theorem sC{α β:Type}(f:α->β):[].map f=[]:=rfl
theorem CO{α:Type}(l:List α):l++[]=l:=List.append_nil l
theorem sH{α:Type}(l:List α):[]++l=l:=rfl
theorem pg{α:Type}(x:α)(k l:List α):(x::k)++l=x::(k++l):=rfl
theorem xL{α:Type}(x:α)(l:List α):(x::l).length=l.length+1:=rfl
theorem Ee{α:Type}:([]:List α).length=0:=rfl
theorem sQ{α β:Type}(f:α->β)(l:List α):(l.map f).length=l.length:=List.length_map ..
theorem Ww{α:Type}(x:α)(l:List α):(x::l)[0]?=some x:=rfl
theorem Uw{α:Type}(x:α)(l:List α)(n:Nat):(x::l)[n+1]?=l[n]?:=rfl
theorem Gi{α β:Type}(f:α->β)(l:List α)(n:Nat):(l.map f)[n]?=(l[n]?).map f:=List.getElem?_map ..
theorem xS{α β:Type}(f:α->β)(x:α):(some x).map f=some (f x):=rfl
theorem xJ{α β:Type}(f:α->β):(none:Option α).map f=none:=rfl
theorem Mh{α:Type}(l:List α):l.take 0=[]:=rfl
theorem Gz{α:Type}(x:α)(l:List α)(n:Nat):(x::l).take (n+1)=x::l.take n:=rfl
theorem Gg{α:Type}(l:List α):l.drop 0=l:=rfl
theorem JQ{α:Type}(x:α)(l:List α)(n:Nat):(x::l).drop (n+1)=l.drop n:=rfl
theorem Nk{α:Type}(n:Nat):([]:List α).drop n=[]:=List.drop_nil
theorem NM{α:Type}(n:Nat):([]:List α).take n=[]:=List.take_nil
theorem Pa(l:List Int):u8s (l.map AV.u8)=some l:=by induction l<;>simp_all [u8s]
theorem yT(n:Nat):((n:Int)).toNat=n:=rfl
theorem NX{ok:Oks}{a:aw}{Q:Ex->St->Prop}{σ:St}(lv lr:List Nat)(I:St->Prop)(μ:St->Nat)(h0:σ.resOk lv lr)(h1:I (σ.res lv lr))(h2:∀τ,I τ->AWP ok a (thn (fun τ'=>τ'.resOk lv lr/\I (τ'.res lv lr)/\μ (τ'.res lv lr)<μ τ) Q) τ):AWP ok (.loop a) Q σ:=by
 simp only[AWP];exact⟨lv,lr,I,μ,h0,h1,h2⟩
theorem Nb{ok:Oks}{ρ:Nat->Option Row}{d f:Nat}{args:List AV}{K:AV->List (Nat×Row)->Prop}{res:AV}(h:ok.p f (args.map (snp ρ 4)) res)(hu:res.allU)(hn:∀p∈(adopt 4 d res).2.1,ρ p.1=none/\p.1<1000000000)(hk:K (adopt 4 d res).1 (adopt 4 d res).2.1):gi ok ρ d f args K:=⟨res,h,.inl hu,hn,hk⟩
theorem Ml{ok:Oks}{ρ:Nat->Option Row}{d f:Nat}{args:List AV}{K:AV->List (Nat×Row)->Prop}{v:Value}(h:ok.p f (args.map (snp ρ 4)) (.sc v))(hk:K (.sc v) []):gi ok ρ d f args K:=⟨.sc v,h,.inl (by simp[AV.allU]),by simp[nv],by simpa[nv] using hk⟩
theorem jv{ok:Oks}{ρ:Nat->Option Row}{d f:Nat}{args:List AV}{rs:List Nat}{K:AV->List (Nat×Row)->Prop}{res:AV}{outs:List (Nat×Row)}(h:ok.m f (args.map (AV.rg (cnm rs))) (rs.map (ig ρ rs)) res outs)(h1:rs.Nodup/\(∀r∈rs,cA (ρ r))/\(∀r∈rs,∀q∈ny (ρ r),q∈rs)/\(∀r∈aM args,r∈rs))(h2:(outs.map fun p=>bkn d rs p.1).Nodup/\(∀p∈outs,1000000000<=p.1->p.1-1000000000<rs.length)/\(∀p∈outs,p.1<1000000000->ρ (bkn d rs p.1)=none/\bkn d rs p.1<1000000000))(hk:K (res.rg (bkn d rs)) (bW rs++outs.map (de d rs))):callM ok ρ d f args rs K:=⟨res,outs,h,h1,h2,hk⟩
theorem kr{α:Type}{e:α->AV}(h:∀x,(e x).fz=true)(xs:List α):fzL (xs.map e)=true:=by induction xs<;>simp_all [fzL]
theorem kw{α:Type}{e:α->AV}(h:∀x,(e x).ouB=true)(xs:List α):dC (xs.map e)=true:=by induction xs<;>simp_all [dC]
theorem Xs{ok:Oks}{K:St->Prop}{τ:St}{t n k d f:Nat}{xs:List X}{r i off:Nat}{es:List AV}{y:AV}{ys:List AV}{v:Value}{ys':List AV}{z:AV}(h:ok.m f (xs.map (rK τ t ys.length)) [(1000000000,.arr k ys)] (.sc v) [(1000000000,.arr k ys')])(hfl:ys.all AV.flat=true)(hfz:τ.fz=true)(harg:∀x∈xs,tD τ t x)(hfl':ys'.all AV.flat=true)(hz:setPart y off (.lst .u k ys')=some z)(hk:K (τ.app (some d) (.sc v) [(r,.arr n (es.set i z))])):Ur ok K τ t n k d f xs r i off es y ys:=⟨hfl,hfz,harg,v,ys',h,hfl',by rw[hz];exact hk⟩
theorem ZI{A B:Prop}(a:A)(b:B):A/\B:=⟨a,b⟩
def VS1:=ZI @iV (ZI @iZ (ZI @ga (ZI @Wj (ZI @Qh (ZI @UW (ZI @Rd (ZI @UZ (ZI @Us (ZI @VP (ZI @EU (ZI @Wc (ZI @Ev (ZI @PJ (ZI @Li (ZI @Hp (ZI @KH (ZI @PC (ZI @zJ (ZI @nv (ZI @Bs (ZI @AW (ZI @BA (ZI @Aq (ZI @sy (ZI @sE (ZI @sr (ZI @ry (ZI @dS (ZI @gl (ZI @gn (ZI @Vc (ZI @eM (ZI @gp (ZI @gB (ZI @fE (ZI @fV (ZI @fW (ZI @fU (ZI @fT (ZI @fk (ZI @Em (ZI @CN (ZI @tj (ZI @jb (ZI @iX (ZI @gF (ZI @zD (ZI @EF (ZI @Eu (ZI @CC (ZI @yu (ZI @rm (ZI @RK (ZI @c_eq (ZI @WX (ZI @WI (ZI @SC (ZI @KC (ZI @UB (ZI @TS (ZI @QK (ZI @OY (ZI @Ms (ZI @HZ (ZI @Gq (ZI @VZ (ZI @VB (ZI @Wt (ZI @Xl (ZI @Xd (ZI @Xh (ZI @WQ (ZI @TY (ZI @Uo (ZI @WT (ZI @Xn (ZI @Pg (ZI @nc (ZI @SO (ZI @KX (ZI @TD (ZI @Tp (ZI @GA @Le)))))))))))))))))))))))))))))))))))))))))))))))))))))))))))))))))))))))))))))))))))
def VS2:=ZI @Tj (ZI @Hl (ZI @TK (ZI @TJ (ZI @Ar (ZI @Br (ZI @wb (ZI @uO (ZI @GM (ZI @MZ (ZI @Jv (ZI @wZ (ZI @zM (ZI @yn (ZI @Bz (ZI @AG (ZI @WB (ZI @SB (ZI @Wb (ZI @Uy (ZI @Pf (ZI @PS (ZI @UX (ZI @OU (ZI @WC (ZI @UG (ZI @Ng (ZI @Rn (ZI @Pm (ZI @Me (ZI @OW (ZI @GQ (ZI @VK (ZI @UJ (ZI @VI (ZI @Kr (ZI @He (ZI @WW (ZI @WG (ZI @PP (ZI @PD (ZI @MM (ZI @QR (ZI @PY (ZI @WH (ZI @OO (ZI @Oq (ZI @Wp (ZI @QV (ZI @UV (ZI @Nr (ZI @Rp (ZI @QP (ZI @BU (ZI @PE (ZI @FA (ZI @QX (ZI @xA (ZI @yp (ZI @AZ (ZI @WL (ZI @LN (ZI @Gv (ZI @Hj (ZI @wc (ZI @vp (ZI @JF (ZI @DM (ZI @En (ZI @tQ (ZI @Lu (ZI @uJ (ZI @LO (ZI @Cd (ZI @Pr (ZI @Sv (ZI @Ri (ZI @RY (ZI @UN (ZI @Vq (ZI @Vi (ZI @Ry (ZI @Sj (ZI @PO @Uz)))))))))))))))))))))))))))))))))))))))))))))))))))))))))))))))))))))))))))))))))))
def VS3:=ZI @Wo (ZI @UU (ZI @Jz (ZI @HE (ZI @OS (ZI @Qz (ZI @WD (ZI @TV (ZI @TU (ZI @VJ (ZI @Uf (ZI @NO (ZI @Pk (ZI @QT (ZI @Qt (ZI @VM (ZI @Qr (ZI @LJ (ZI @Dd (ZI @Rj (ZI @Vt (ZI @Hx (ZI @Xj (ZI @RI (ZI @bV_i (ZI @Rl (ZI @SD (ZI @OG (ZI @Ss (ZI @RF (ZI @VG (ZI @QZ (ZI @Wk (ZI @TX (ZI @OC (ZI @Sm (ZI @UE (ZI @Gh (ZI @RE (ZI @WV (ZI @Xp (ZI @WZ (ZI @Xb (ZI @Qf (ZI @Pt (ZI @Ku (ZI @Kl (ZI @RZ (ZI @RP (ZI @PH (ZI @KS (ZI @LS (ZI @Sp (ZI @EH (ZI @Lr (ZI @Jg (ZI @Si (ZI @OQ (ZI @Jy (ZI @PR (ZI @Pi (ZI @KL (ZI @LZ (ZI @QG (ZI @RJ (ZI @TW (ZI @PV (ZI @Vo (ZI @Sn (ZI @Rt (ZI @NQ (ZI @OE (ZI @BW (ZI @Ra (ZI @Sb (ZI @MQ (ZI @Rv (ZI @RS (ZI @So (ZI @Wy (ZI @Un @Fm))))))))))))))))))))))))))))))))))))))))))))))))))))))))))))))))))))))))))))))))
def VS4:=ZI @SF (ZI @JB (ZI @Ox (ZI @CZ (ZI @QW (ZI @DF (ZI @SA (ZI @Pv (ZI @FS (ZI @Rb (ZI @Rr (ZI @DQ (ZI @Sd (ZI @PZ (ZI @PU (ZI @Gk (ZI @Rx (ZI @FO (ZI @Qd (ZI @xF (ZI @DA (ZI @IM (ZI @GZ (ZI @vB (ZI @Fs (ZI @Kd (ZI @Ov (ZI @Oz (ZI @WF (ZI @WS (ZI @Wr (ZI @Xm (ZI @Rk (ZI @QI (ZI @OM (ZI @OH (ZI @OD (ZI @Sc (ZI @Uv (ZI @QM (ZI @zu (ZI @QU (ZI @OK (ZI @Sl (ZI @PF (ZI @Qs (ZI @Sk (ZI @Qx (ZI @QS (ZI @WR (ZI @Xf (ZI @Hu (ZI @Mo (ZI @Ir (ZI @Uh (ZI @VL (ZI @ND (ZI @Dq (ZI @zx (ZI @zC (ZI @Pe (ZI @Sz (ZI @Pd (ZI @Nv (ZI @CR (ZI @OX (ZI @Hz (ZI @GX (ZI @Vm (ZI @Ut (ZI @LU (ZI @GV (ZI @Sr (ZI @Sa (ZI @Bh (ZI @Sq (ZI @CU (ZI @DS (ZI @CP (ZI @DV (ZI @HL (ZI @RL @Jc)))))))))))))))))))))))))))))))))))))))))))))))))))))))))))))))))))))))))))))))))
def VS5:=ZI @CS (ZI @CY (ZI @Qv (ZI @KK (ZI @US (ZI @Vn (ZI @UM (ZI @Vf (ZI @Wl (ZI @Ul (ZI @Fh (ZI @Rc (ZI @IP (ZI @JI (ZI @Ed (ZI @Ij (ZI @EO (ZI @KT (ZI @CA (ZI @Ep (ZI @Rs (ZI @IY (ZI @Vb (ZI @VH (ZI @Vd (ZI @Ht (ZI @CD (ZI @Hc (ZI @Db (ZI @KE (ZI @CM (ZI @Hg (ZI @yI (ZI @xG (ZI @yZ (ZI @yq (ZI @LA (ZI @EQ (ZI @Ez (ZI @xE (ZI @Dt (ZI @Ak (ZI @Wx (ZI @VO (ZI @Uu (ZI @VY (ZI @Se (ZI @MT (ZI @MD (ZI @HK (ZI @Qp (ZI @MB (ZI @UI (ZI @Ub (ZI @VS (ZI @Wz (ZI @VX (ZI @gx_t (ZI @gx_c (ZI @xi (ZI @vM (ZI @ra (ZI @nV (ZI @Pz (ZI @Jh (ZI @EL (ZI @Am (ZI @vL (ZI @Qk (ZI @Jf (ZI @getD_some (ZI @Dr (ZI @Lc (ZI @Nz (ZI @HG (ZI @DB (ZI @VT (ZI @FZ (ZI @DZ (ZI @Cu (ZI @zP (ZI @JC (ZI @Mx (ZI @CB @xD)))))))))))))))))))))))))))))))))))))))))))))))))))))))))))))))))))))))))))))))))))
def VS6:=ZI @yW (ZI @vI (ZI @QN (ZI @HU (ZI @BZ (ZI @HJ (ZI @KQ (ZI @Cy (ZI @Im (ZI @IK (ZI @Fg (ZI @LE (ZI @Ek (ZI @xN (ZI @vO (ZI @xX (ZI @BX (ZI @ua (ZI @uS (ZI @tC (ZI @uc (ZI @Aj (ZI @vt (ZI @sj (ZI @tM (ZI @Fr (ZI @Il (ZI @Eg (ZI @Mt (ZI @NL (ZI @EZ (ZI @Mu (ZI @Ct (ZI @Hf (ZI @Lm (ZI @Pb (ZI @EA (ZI @zj (ZI @Py (ZI @PN (ZI @rv_t (ZI @rv_c (ZI @Up (ZI @IJ (ZI @RD (ZI @NJ (ZI @Ah (ZI @JE (ZI @LM (ZI @NB (ZI @Dy (ZI @xI (ZI @aB (ZI @fl1 (ZI @fl2 (ZI @fl3 (ZI @fl4 (ZI @fl5 (ZI @fl6 (ZI @fl7 (ZI @fl8 (ZI @pG (ZI @sC (ZI @CO (ZI @sH (ZI @pg (ZI @xL (ZI @Ee (ZI @sQ (ZI @Ww (ZI @Uw (ZI @Gi (ZI @xS (ZI @xJ (ZI @Mh (ZI @Gz (ZI @Gg (ZI @JQ (ZI @Nk (ZI @NM (ZI @Pa @yT))))))))))))))))))))))))))))))))))))))))))))))))))))))))))))))))))))))))))))))))
def VA:=ZI @ga (ZI @nv (ZI @Bs (ZI @AW (ZI @BA (ZI @Aq (ZI @sy (ZI @sE (ZI @sr (ZI @ry (ZI @fE (ZI @fV (ZI @fW (ZI @fk (ZI @tj (ZI @gF (ZI @rm (ZI @HZ (ZI @Gq (ZI @nc (ZI @SO (ZI @KX (ZI @TD (ZI @Tp (ZI @GA (ZI @Le (ZI @Tj (ZI @Hl (ZI @TK (ZI @TJ (ZI @Ar (ZI @Br (ZI @wb (ZI @uO (ZI @GM (ZI @MZ (ZI @wZ (ZI @Bz (ZI @AG (ZI @AZ (ZI @Bh (ZI @xi (ZI @vM (ZI @ra (ZI @nV (ZI @Am (ZI @vL (ZI @fl5 (ZI @fl6 (ZI @fl7 (ZI @fl8 (ZI @pG (ZI @sC (ZI @sH (ZI @pg (@sQ)))))))))))))))))))))))))))))))))))))))))))))))))))))))
end Vs

