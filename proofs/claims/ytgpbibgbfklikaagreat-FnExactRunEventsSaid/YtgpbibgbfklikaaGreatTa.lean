/-
  Part of the proof that FnExactRunEvents returns true at every input.
-/
import Derived.Calls
import Derived.Below
set_option linter.defProp false
set_option linter.unusedSimpArgs false
set_option linter.unusedVariables false
open List renaming replicate -> A0
namespace Vs
open Go
inductive Fl where|o|s|m|u
 deriving DecidableEq
def Fl.als:Fl->Fl
 | .u=>.m
 |f=>f
def Fl.fix:Fl->Fl
 | .o=>.s
 |f=>f
inductive AV where
 |sc (v:Value)
 |lst (f:Fl) (n:Nat) (xs:List AV)
 |tg (f:Fl) (n:Nat) (xs:List AV)
 |agg (cs:List AV)
 |bp (f:Fl) (x:AV) (off:Nat)
 |sl (r i n:Nat)
 |pt (r i off:Nat)
 |fn (f:Nat) (cs:List AV)
 |tup (vs:List AV)
 |ub
 |top
instance:Inhabited AV:=⟨.top⟩
abbrev AV.i(n:Int):AV:=.sc (.int .i64 n)
abbrev AV.u8(n:Int):AV:=.sc (.int .u8 n)
abbrev AV.u64(n:Int):AV:=.sc (.int .u64 n)
abbrev AV.b(b:Bool):AV:=.sc (.bool b)
abbrev AV.z(s:ByteArray):AV:=.sc (.string s)
def AV.width:AV->Nat
 | .agg cs=>cs.length
 | .top=>0
 | .tup _=>0
 |_=>1
def AV.isAgg:AV->Bool
 | .agg _=>true
 |_=>false
def AV.cells:AV->List AV
 | .agg cs=>cs
 | .top=>[]
 | .tup _=>[]
 |x=>[x]
def AV.flat:AV->Bool
 | .sc _=>true
 | .agg cs=>cs.all fun| .sc _=>true|_=>false
 |_=>false
mutual
def AV.nrm:AV->AV
 | .sc v=>.sc v
 | .lst _ n xs=>.lst .o n (iC xs)
 | .tg _ n xs=>.lst .o n (iC xs)
 | .agg cs=>.agg (iC cs)
 | .bp _ x off=>.bp .o x.nrm off
 | .fn f cs=>.fn f (iC cs)
 |_=>.top
def iC:List AV->List AV
 |[]=>[]
 |c::cs=>c.nrm::iC cs
end
mutual
def AV.als:AV->AV
 | .sc v=>.sc v
 | .lst f n xs=>.lst f.als n (dA xs)
 | .agg cs=>.agg (dA cs)
 |_=>.top
def dA:List AV->List AV
 |[]=>[]
 |c::cs=>c.als::dA cs
end
mutual
def AV.fix:AV->AV
 | .sc v=>.sc v
 | .lst f n xs=>.lst f.fix n (gX xs)
 | .agg cs=>.agg (gX cs)
 | .tup cs=>.tup (gX cs)
 | .fn f cs=>.fn f (gX cs)
 |_=>.top
def gX:List AV->List AV
 |[]=>[]
 |c::cs=>c.fix::gX cs
end
mutual
def AV.ments:AV->List Nat
 | .sl r _ _=>[r]
 | .pt r _ _=>[r]
 | .agg cs=>aK cs
 | .fn _ cs=>aK cs
 | .tup cs=>aK cs
 |_=>[]
def aK:List AV->List Nat
 |[]=>[]
 |c::cs=>c.ments++aK cs
end
mutual
def AV.allU:AV->Prop
 | .sc _=>True
 | .lst f _ xs=>f=.u/\kX xs
 | .agg cs=>kX cs
 | .tup cs=>kX cs
 |_=>False
def kX:List AV->Prop
 |[]=>True
 |c::cs=>c.allU/\kX cs
end
mutual
def AV.allO:AV->Prop
 | .sc _=>True
 | .lst f _ xs=>f=.o/\qh xs
 | .agg cs=>qh cs
 | .tup cs=>qh cs
 |_=>False
def qh:List AV->Prop
 |[]=>True
 |c::cs=>c.allO/\qh cs
end
mutual
def AV.ou:AV->Prop
 | .sc _=>True
 | .lst f _ xs=>(f=.u/\ouL xs)\/(f=.o/\qh xs)
 | .agg cs=>ouL cs
 | .tup cs=>ouL cs
 |_=>False
def ouL:List AV->Prop
 |[]=>True
 |c::cs=>c.ou/\ouL cs
end
mutual
def AV.noU:AV->Prop
 | .sc _=>True
 | .lst f _ xs=>f≠.u/\CC xs
 | .agg cs=>CC cs
 | .tup cs=>CC cs
 |_=>False
def CC:List AV->Prop
 |[]=>True
 |c::cs=>c.noU/\CC cs
end
def sub(es:List AV)(i n:Nat):List AV:=if i=0/\n=es.length then es else(es.drop i).take n
def dz{α:Type}(es:List α)(i:Nat)(ys:List α):List α:=if i+ys.length<=es.length then es.take i++ys++es.drop (i+ys.length) else es
inductive Row where
 |var (x:AV)
 |arr (n:Nat) (es:List AV)
 |dead
def cM:Option Row->Prop
 |some (.var _)=>True
 |some (.arr _ _)=>True
 |_=>False
def az{α:Type}(k:Nat):List (Nat×α)->Option α
 |[]=>none
 |(j,x)::l=>if j=k then some x else az k l
def put{α:Type}(k:Nat)(x:α):List (Nat×α)->List (Nat×α)
 |[]=>[(k,x)]
 |(j,y)::l=>if j=k then(k,x)::l else(j,y)::put k x l
def pV(o:Option Row)(i n:Nat):AV:=match o with
 |some (.arr w es)=>.lst .o w (iC (sub es i n))
 |_=>.top
def nJ(h:AV->AV)(o:Option Row)(i off:Nat):AV:=match o with
 |some (.var y)=>if i=0 then .bp .o (h y) off else .top
 | some (.arr _ es) => match es[i]? with
   |some y=>.bp .o y.nrm off
   |none=>.top
 |_=>.top
def snp(ρ:Nat->Option Row):Nat->AV->AV
 |0,_=>.top
 | k + 1, x => match x with
   | .sl r i n=>pV (ρ r) i n
   | .pt r i off=>nJ (snp ρ k) (ρ r) i off
   | .agg cs=>.agg (cs.map (snp ρ k))
   | .fn f cs=>.fn f (cs.map (snp ρ k))
   |x=>x.nrm
def nq(o:Option Row)(i n:Nat):AV:=match o with
 |some (.arr w es)=>.lst .u w (sub es i n)
 |_=>.top
def lift(ρ:Nat->Option Row):Nat->AV->AV
 |0,_=>.top
 | k + 1, x => match x with
   | .sl r i n=>nq (ρ r) i n
   | .agg cs=>.agg (cs.map (lift ρ k))
   | .tup cs=>.tup (cs.map (lift ρ k))
   | .sc v=>.sc v
   | .lst f n xs=>.lst f n xs
   |_=>.top
def adopt:Nat->Nat->AV->AV×List (Nat×Row)×Nat
 |0,c,_=>(.top,[],c)
 | k + 1, c, x => match x with
   | .lst .u n es=>(.sl c 0 es.length,[(c,.arr n (gX es))],c+1000)
   | .agg cs=>let(l,u,c):=go k c cs;(.agg l,u,c)
   | .tup cs=>let(l,u,c):=go k c cs;(.tup l,u,c)
   |x=>(x.fix,[],c)
where
 go (k:Nat):Nat->List AV->List AV×List (Nat×Row)×Nat
  |c,[]=>([],[],c)
  | c, x :: xs =>
    let(y,u,c):=adopt k c x;let(ys,us,c):=go k c xs
    (y::ys,u++us,c)
inductive X where
 |t (n:Nat)
 |c (a:AV)
inductive AOp where
 |mv (x:X)
 |pick (c a b:X)
 |alloc (z:AV)
 |box (n:Nat) (x:X)
 |build (z:List AV) (ps:List (Nat×Nat×X))
 |bsl (n:Nat) (fr:Bool) (ps:List X)
 |load (n:Nat) (ag:Bool) (x:X)
 |store (n:Nat) (x v:X)
 |bin (op:BinOp) (x y:X)
 |beq (neg:Bool) (x y:X)
 |un (op:UnOp) (x:X)
 |conv (k:IntKind) (x:X)
 |mkf (f:Nat) (cs:List X)
 |mks (n:Nat) (z:AV) (bytes:Nat) (l c:X)
 |slc (n:Nat) (x:X) (lo hi mx:Option X)
 |slz (x:X) (lo hi:Option X)
 |fad (off:Nat) (x:X)
 |idx (n:Nat) (x i:X)
 |fld (off n:Nat) (ag:Bool) (x:X)
 |stri (x i:X)
 |ext (x:X) (j:Nat)
 |call (f:Nat) (xs:List X)
 |dyn (x:X) (xs:List X)
 |callM (f:Nat) (xs:List X) (rs:List Nat)
 |dynM (x:X) (xs:List X) (rs:List Nat)
 |len (x:X)
 |lenz (x:X)
 |capn (x:X)
 |slg (n:Nat) (x hi:X)
 |apz (n:Nat) (z:AV) (bytes:Nat) (x l:X)
 |b2s (x:X)
 |isn (neg:Bool) (x:X)
 |aeq (neg:Bool) (x y:X)
 |apq (n:Nat) (x y:X)
 |slx (n:Nat) (x:X) (lo hi:Option X)
 |slm (n:Nat) (x lo hi mx:X)
 |clr (n:Nat) (z:AV) (x:X)
 |cpy (n:Nat) (x y:X)
 |ldv (av:List Nat) (n:Nat) (ag:Bool) (x:X)
 |lde (av:List Nat) (n:Nat) (ag:Bool) (x:X)
 |str (n:Nat) (x v:X)
 |lda (n:Nat) (ag:Bool) (x:X)
 |stv (n:Nat) (x v:X)
 |fdv (av:List Nat) (off:Nat) (x:X)
 |idv (av:List Nat) (n:Nat) (x i:X)
 |lnv (av:List Nat) (x:X)
 |stw (r n:Nat) (x v:X)
 |bsm (n:Nat) (ps:List X)
 |app (n bytes:Nat) (mv:Bool) (x y:X)
 |nilc (x:X)
 |mn (x y:X)
 |mx (x y:X)
 |bad
structure br where
 d:Option Nat
 op:AOp
 gd:Option (Nat×Bool)
inductive HOp where
 |inn (t n k:Nat) (x:X) (mids:List (Nat×X)) (d f:Nat) (xs:List X)
 |har (d f:Nat) (xs:List X) (rs:List Nat)
inductive Can where
 |s (d:Nat)
 |f (far:Bool) (d r j:Nat)
 |r (d:Nat)
 |z (d:Nat)
 |e (far:Bool) (d k j:Nat)
 |w (r:Nat)
inductive aq where
 |skip
 |reg (ops:List br) (can:List Can)
 |regh (pre:List br) (h:HOp) (post:List br) (can:List Can)
 |drw (ops:List br) (can:List Can)
 |seq (a b:aq)
 |seqr (a:aq) (lv lr:List Nat) (b:aq)
 |seqa (x a:aq) (lv lr:List Nat) (b:aq)
 |seqb (a:aq) (lv:List Nat) (b:aq)
 |cond (x:X) (a b:aq)
 |blk (id:Nat) (a:aq)
 |loop (a:aq)
 |exit (id:Nat)
 |ret
structure St where
 env:List (Nat×AV)
 rows:List (Nat×Row)
def St.get(σ:St)(k:Nat):AV:=(az k σ.env).getD .top
def St.row(σ:St)(r:Nat):Option Row:=az r σ.rows
def St.gx(σ:St):X->AV
 | .t n=>σ.get n
 | .c a=>a
def bi(l:List (Nat×Row))(rows:List (Nat×Row)):List (Nat×Row):=l.foldl (fun rs p=>put p.1 p.2 rs) rows
def St.app(σ:St)(d:Option Nat)(v:AV)(u:List (Nat×Row)):St:=
 {env:=match d with|some d=>put d v σ.env|none=>σ.env,rows:=bi u σ.rows}
def St.know(σ:St)(s:Nat)(b:Bool):St:={σ with env:=put s (.b b) σ.env}
def I64(n:Int):Prop:=-9223372036854775808<=n/\n<=9223372036854775807
def fill(cs:List AV)(off:Nat)(v:AV):List AV:=cs.take off++v.cells++cs.drop (off+v.cells.length)
def mM:List AV->List (Nat×AV)->List AV
 |cs,[]=>cs
 |cs,(off,v)::l=>mM (fill cs off v) l
def part(x:AV)(off n:Nat)(ag:Bool):Option AV:=
 if ag then(if x.isAgg=true/\off+n<=x.width then some (if off=0/\n=x.width then .agg x.cells else .agg ((x.cells.drop off).take n)) else none)
 else x.cells[off]?
def setPart(x:AV)(off:Nat)(v:AV):Option AV:=
 if x.isAgg=true then
  (if v.isAgg=true then(if off=0/\v.width=x.width then some v else if off+v.width<=x.width then some (.agg (fill x.cells off v)) else none)
   else if off+1<=x.width then some (.agg (fill x.cells off v)) else none)
 else if off=0/\v.isAgg=false/\x.width=1 then some v else none
def bits(op:BinOp)(k:IntKind)(x y:Int):Int:=
 let a:=BitVec.ofInt k.bits x;let b:=BitVec.ofInt k.bits y
 k.wrap (match op with| .and=>(a &&& b).toNat| .or=>(a ||| b).toNat| .xor=>(a ^^^ b).toNat|_=>(a &&& ~~~b).toNat)
def ofI(k:IntKind)(n:Int)(K:AV->Prop):Prop:=K (.sc (.int k (k.wrap n)))
def eA(op:BinOp)(k:IntKind)(a b:Int)(K:AV->Prop):Prop:=
 match op with
 | .add=>ofI k (a+b) K
 | .sub=>ofI k (a-b) K
 | .mul=>ofI k (a*b) K
 | .quo=>b≠0/\ofI k (a.tdiv b) K
 | .rem=>b≠0/\K (.sc (.int k (a.tmod b)))
 | .and=>K (.sc (.int k (bits .and k a b)))
 | .or=>K (.sc (.int k (bits .or k a b)))
 | .xor=>K (.sc (.int k (bits .xor k a b)))
 | .andNot=>K (.sc (.int k (bits .andNot k a b)))
 | .eql=>K (.b (a==b))
 | .neq=>K (.b (a !=b))
 | .lss=>K (.b (decide (a<b)))
 | .leq=>K (.b (decide (a<=b)))
 | .gtr=>K (.b (decide (a>b)))
 | .geq=>K (.b (decide (a>=b)))
 |_=>False
def fg(op:BinOp)(k:IntKind)(a y:Int)(K:AV->Prop):Prop:=
 0<=y/\match op with
 | .shl=>ofI k (a*2^(min y.toNat k.bits)) K
 | .shr=>K (.sc (.int k (a.fdiv (2^(min y.toNat k.bits)))))
 |_=>False
def dI(op:BinOp)(x y:AV)(K:AV->Prop):Prop:=
 match x,y with
 | .sc (.int k a), .sc (.int k' b) =>
   match op with
   | .shl=>fg .shl k a b K
   | .shr=>fg .shr k a b K
   |op=>k=k'/\eA op k a b K
 | .sc (.string a), .sc (.string b) =>
   match op with
   | .add=>a.size+b.size<=9223372036854775807/\K (.z (a++b))
   | .eql=>K (.b (a.toList==b.toList))
   | .neq=>K (.b (!(a.toList==b.toList)))
   |_=>False
 |_,_=>False
def unV(op:UnOp)(x:AV)(K:AV->Prop):Prop:=
 match op,x with
 | .neg,.sc (.int k n)=>ofI k (0-n) K
 | .not,.sc (.bool b)=>K (.b (!b))
 |_,_=>False
def cd(rs:List Nat):List (Nat×Row):=rs.map fun r=>(r,.dead)
def nU(n:Nat)(o:Option Row)(i k:Nat):Option (List AV):=match o with
 |some (.arr w es)=>if w=n then some (dA (sub es i k)) else none
 |_=>none
def eD(n:Nat)(ρ:Nat->Option Row):AV->Option (List AV)
 | .lst _ w xs=>if w=n then some xs else none
 | .tg _ w xs=>if w=n then some xs else none
 | .sl r i k=>nU n (ρ r) i k
 |_=>none
def yo(n r m:Nat)(o:Option Row):Option (List AV×List (Nat×Row)):=match o with
 |some (.arr w ys)=>if w=n/\m=ys.length then some (ys,[(r,.dead)]) else none
 |_=>none
def mW(o:Option (List AV)):Option (List AV×List (Nat×Row)):=match o with
 |some ys=>some (ys,[])
 |none=>none
def oz(ρ:Nat->Option Row)(n:Nat)(mv:Bool)(y:AV):Option (List AV×List (Nat×Row)):=match mv,y with
 |true,.sl r 0 m=>yo n r m (ρ r)
 |_,y=>mW (eD n ρ y)
def bOk(o:Option AV):Prop:=match o with
 |none=>True
 |some (.sc (.int _ n))=>0<=n
 |_=>False
def bV(o:Option AV)(dflt:Nat):Nat:=match o with
 |some (.sc (.int _ n))=>n.toNat
 |_=>dflt
def u8s:List AV->Option (List Int)
 |[]=>some []
 | .sc (.int .u8 n) :: xs => match u8s xs with
   |some ns=>some (n::ns)
   |none=>none
 |_=>none
def b2s(ns:List Int):ByteArray:=ns.foldl (fun r n=>r.push (UInt8.ofNat n.toNat)) ByteArray.empty
def opt{α:Type}(o:Option α)(K:α->Prop):Prop:=match o with
 |some v=>K v
 |none=>False
section
variable(K:AV->List (Nat×Row)->Prop)
def k1(v:AV):Prop:=K v []
def mS(c a b:AV):Prop:=match c with
 | .sc (.bool t)=>(t=true->K a [])/\(t=false->K b [])
 |_=>False
def Sw(off n:Nat)(ag:Bool)(y:AV):Prop:=opt (part y.als off n ag) (k1 K)
def eY(o:Option Row)(i off n:Nat)(ag:Bool):Prop:=match o with
 |some (.var y)=>i=0/\opt (part y off n ag) (k1 K)
 |some (.arr _ es)=>opt es[i]? (Sw K off n ag)
 |_=>False
def eO(ρ:Nat->Option Row)(n:Nat)(ag:Bool)(x:AV):Prop:=match x with
 | .bp _ y off=>opt (part y off n ag) (k1 K)
 | .pt r i off=>eY K (ρ r) i off n ag
 |_=>False
def My(r:Nat)(y:AV):Prop:=K .top [(r,.var y)]
def Cd(u:List (Nat×Row))(r w i:Nat)(es:List AV)(y:AV):Prop:=K .top (u++[(r,.arr w (es.set i y))])
def sY(ρ:Nat->Option Row)(r w i off:Nat)(es:List AV)(v y:AV):Prop:=
 r∉v.ments/\v.ments.Nodup/\(lift ρ 2 v).width=v.width/\opt (setPart y off (lift ρ 2 v)) (Cd K (cd v.ments) r w i es)
def eF(ρ:Nat->Option Row)(o:Option Row)(r i off:Nat)(v:AV):Prop:=match o with
 |some (.var y)=>i=0/\opt (setPart y off v) (My K r)
 |some (.arr w es)=>opt es[i]? (sY K ρ r w i off es v)
 |_=>False
def ed(ρ:Nat->Option Row)(n:Nat)(x v:AV):Prop:=match x with
 | .pt r i off=>v.width=n/\eF K ρ (ρ r) r i off v
 |_=>False
def iPt(av:List Nat):AV->Prop
 | .sl r _ _=>r∉av
 | .lst _ _ _=>True
 |_=>False
def Dr:Option Row->Prop
 |some (.var _)=>True
 |_=>False
def CM:Option Row->Prop
 |some (.arr _ _)=>True
 |_=>False
def lPt(av:List Nat):AV->Prop
 | .pt r _ _=>r∉av
 | .bp _ _ _=>True
 |_=>False
def vPt(av:List Nat)(ρ:Nat->Option Row):AV->Prop
 | .pt r _ _=>r∉av/\Dr (ρ r)
 | .bp _ _ _=>True
 |_=>False
def aPt(ρ:Nat->Option Row):AV->Prop
 | .pt r _ _=>CM (ρ r)
 |_=>False
def aPb(ρ:Nat->Option Row):AV->Prop
 | .pt r _ _=>CM (ρ r)
 | .bp _ _ _=>True
 |_=>False
def wPt(r:Nat)(ρ:Nat->Option Row):AV->Prop
 | .pt q _ _=>q=r/\Dr (ρ q)
 |_=>False
def vPv(ρ:Nat->Option Row):AV->Prop
 | .pt r _ _=>Dr (ρ r)
 |_=>False
def AF(neg:Bool)(x y:AV):Prop:=match x,y with
 | .sc (.bool a),.sc (.bool b)=>K (.sc (.bool (if neg then !(a==b) else(a==b)))) []
 |_,_=>False
def zJ(neg:Bool)(x y:AV):Prop:=match x,y with
 | .agg [.sc (.int .i64 a),.sc (.int .i64 b)],.agg [.sc (.int .i64 c),.sc (.int .i64 e)]=>K (.sc (.bool (if neg then !(a==c&&b==e) else(a==c&&b==e)))) []
 |_,_=>False
def sf(k:IntKind)(x:AV):Prop:=match x with
 | .sc (.int _ n)=>K (.sc (.int k (k.wrap n))) []
 |_=>False
def tS(o:Option Row)(d n:Nat)(z:AV)(bytes:Nat)(l c:AV):Prop:=match l,c with
 | .sc (.int .i64 l),.sc (.int .i64 c)=>o=none/\z.width=n/\0<=l/\l<=c/\c*bytes<=140737488355328/\c<=9223372036854775807/\K (.sl d 0 l.toNat) [(d,.arr n (A0 l.toNat z))]
 |_,_=>False
def rS(ρ:Nat->Option Row)(n:Nat)(x:AV)(lo hi mx:Option AV):Prop:=match x with
 | .lst f w xs=>w=n/\bOk lo/\bOk hi/\bV lo 0<=bV hi xs.length/\bV hi xs.length<=xs.length/\
  match mx with
  |none=>K (.lst f n (sub xs (bV lo 0) (bV hi xs.length-bV lo 0))) []
  |some m=>hi.isSome/\bOk (some m)/\bV (some m) 0=bV hi xs.length/\K (.tg f n (sub xs (bV lo 0) (bV hi xs.length-bV lo 0))) []
 | .sl r i m=>(∃es,ρ r=some (.arr n es))/\bOk lo/\bOk hi/\bV lo 0<=bV hi m/\bV hi m<=m/\mx=none/\K (.sl r (i+bV lo 0) (bV hi m-bV lo 0)) []
 |_=>False
def VU(x:AV)(lo hi:Option AV):Prop:=match x with
 | .sc (.string s)=>bOk lo/\bOk hi/\bV lo 0<=bV hi s.size/\bV hi s.size<=s.size/\K (.sc (.string (s.extract (bV lo 0) (bV hi s.size)))) []
 |_=>False
def nu(ρ:Nat->Option Row)(off:Nat)(x:AV):Prop:=match x with
 | .bp f y o=>K (.bp f y (o+off)) []
 | .pt r i o=>cM (ρ r)/\K (.pt r i (o+off)) []
 |_=>False
def adr(f:Fl)(y:AV):Prop:=K (.bp f y 0) []
def lf(ρ:Nat->Option Row)(n:Nat)(x i:AV):Prop:=match x,i with
 | .lst f w xs,.sc (.int _ j)=>w=n/\0<=j/\opt xs[j.toNat]? (adr K f.als)
 | .sl r a m,.sc (.int _ j)=>(∃es,ρ r=some (.arr n es))/\0<=j/\j<m/\K (.pt r (a+j.toNat) 0) []
 |_,_=>False
def Bm(off n:Nat)(ag:Bool)(x:AV):Prop:=x.isAgg=true/\opt (part x off n ag) (k1 K)
def ady(c:UInt8):Prop:=K (.sc (.int .u8 c.toNat)) []
def sL(x i:AV):Prop:=match x,i with
 | .sc (.string s),.sc (.int _ j)=>0<=j/\opt s[j.toNat]? (ady K)
 |_,_=>False
def CJ(x:AV)(j:Nat):Prop:=match x with
 | .tup vs=>opt vs[j]? (k1 K)
 |_=>False
def mH(ρ:Nat->Option Row)(x:AV):Prop:=match x with
 | .lst _ _ xs=>K (.i xs.length) []
 | .tg _ _ xs=>K (.i xs.length) []
 | .sl r _ n=>(∃w es,ρ r=some (.arr w es))/\K (.i n) []
 |_=>False
def sR(x:AV):Prop:=match x with
 | .lst .u _ []=>K (.i 0) []
 |_=>False
def Cw(n:Nat)(x hi:AV):Prop:=match x,hi with
 | .lst .u w [],.sc (.int _ h)=>w=n/\h=0/\K (.lst .u n []) []
 |_,_=>False
def rL(x:AV):Prop:=match x with
 | .sc (.string s)=>K (.i s.size) []
 |_=>False
def Nd(ns:List Int):Prop:=K (.sc (.string (b2s ns))) []
def zT(o:Option Row)(i m:Nat):Prop:=match o with
 |some (.arr w es)=>w=1/\opt (u8s (sub es i m)) (Nd K)
 |_=>False
def DB(ρ:Nat->Option Row)(x:AV):Prop:=match x with
 | .lst _ w xs=>w=1/\opt (u8s xs) (Nd K)
 | .sl r i m=>zT K (ρ r) i m
 |_=>False
def yp(o:Option Row)(r n:Nat)(z:AV)(i m:Nat):Prop:=match o with
 |some (.arr w es)=>w=n/\z.width=n/\K (.tup []) [(r,.arr w (dz es i (A0 m z)))]
 |_=>False
def Kh(ρ:Nat->Option Row)(n:Nat)(z x:AV):Prop:=match x with
 | .sl r i m=>yp K (ρ r) r n z i m
 |_=>False
def yK(o:Option Row)(r n i m:Nat)(ys:List AV):Prop:=match o with
 |some (.arr w es)=>w=n/\K (.i (min ys.length m:Nat)) [(r,.arr w (dz es i (ys.take (min ys.length m))))]
 |_=>False
def Kp(ρ:Nat->Option Row)(n:Nat)(x y:AV):Prop:=match x with
 | .sl r i m=>opt (eD n ρ y) (yK K (ρ r) r n i m)
 |_=>False
def ur(neg e:Bool):Prop:=K (cond e .ub (.b neg)) []
def Af(ρ:Nat->Option Row)(neg:Bool)(x:AV):Prop:=match x with
 | .lst _ _ xs=>ur K neg xs.isEmpty
 | .tg _ _ xs=>ur K neg xs.isEmpty
 | .sl r _ n=>(∃w es,ρ r=some (.arr w es))/\ur K neg (n==0)
 |_=>False
def Xw(o:Option Row)(r n i m:Nat)(ys:List AV):Prop:=match o with
 |some (.arr w es)=>w=n/\i+m+ys.length<=es.length/\K (.sl r i (m+ys.length)) [(r,.arr w (dz es (i+m) ys))]
 |_=>False
def acb(ρ:Nat->Option Row)(n:Nat)(x y:AV):Prop:=match x with
 | .sl r i m=>opt (eD n ρ y) (Xw K (ρ r) r n i m)
 |_=>False
def Ap(o:Option Row)(r n i m:Nat)(lo hi:Option AV):Prop:=match o with
 |some (.arr w es)=>w=n/\bOk lo/\bOk hi/\bV lo 0<=bV hi m/\i+bV hi m<=es.length/\K (.sl r (i+bV lo 0) (bV hi m-bV lo 0)) []
 |_=>False
def Ls(ρ:Nat->Option Row)(n:Nat)(x:AV)(lo hi:Option AV):Prop:=match x with
 | .sl r i m=>Ap K (ρ r) r n i m lo hi
 |_=>False
def Ej(o:Option Row)(n m:Nat)(lo hi mx:AV):Prop:=match o,lo,hi,mx with
 |some (.arr w _),.sc (.int _ l),.sc (.int _ h),.sc (.int _ q)=>w=n/\0<=l/\l<=h/\h<=q/\q<=(m:Int)/\K .top []
 |_,_,_,_=>False
def acg(ρ:Nat->Option Row)(n:Nat)(x lo hi mx:AV):Prop:=match x with
 | .sl r _ m=>Ej K (ρ r) n m lo hi mx
 |_=>False
def sM(o:Option Row)(d n bytes r i m:Nat)(p:List AV×List (Nat×Row)):Prop:=match o with
 |some (.arr w es)=>w=n/\r∉p.2.map (·.1)/\(m+p.1.length)*bytes<=140737488355328/\K (.sl d 0 (m+p.1.length)) ((r,.dead)::p.2++[(d,.arr n (sub es i m++p.1))])
 |_=>False
def zF(d n bytes w:Nat)(es:List AV)(p:List AV×List (Nat×Row)):Prop:=
 w=n/\0<p.1.length/\(es.length+p.1.length)*bytes<=140737488355328/\K (.sl d 0 (es.length+p.1.length)) (p.2++[(d,.arr n (dA es++p.1))])
def wz(ρ:Nat->Option Row)(d n bytes:Nat)(mv:Bool)(x y:AV):Prop:=match x with
 | .sl r i m=>ρ d=none/\opt (oz ρ n mv y) (sM K (ρ r) d n bytes r i m)
 | .tg _ w es=>ρ d=none/\opt (oz ρ n mv y) (zF K d n bytes w es)
 |_=>False
def Ik(o:Option Row)(d n:Nat)(z:AV)(bytes:Nat)(x l:AV):Prop:=match x,l with
 | .lst .u w [],.sc (.int .i64 l)=>o=none/\w=n/\z.width=n/\n=1/\0<l/\l*bytes<=140737488355328/\K (.sl d 0 l.toNat) [(d,.arr n (A0 l.toNat z))]
 |_,_=>False
def ux(ρ:Nat->Option Row)(x:AV):Prop:=match x with
 | .bp f y o=>K (.bp f y o) []
 | .pt r i o=>cM (ρ r)/\K (.pt r i o) []
 |_=>False
def eMn(x y:AV):Prop:=match x,y with
 | .sc (.int k a),.sc (.int k' b)=>k=k'/\K (.sc (.int k (if b<a then b else a))) []
 |_,_=>False
def eMx(x y:AV):Prop:=match x,y with
 | .sc (.int k a),.sc (.int k' b)=>k=k'/\K (.sc (.int k (if a<b then b else a))) []
 |_,_=>False
end
structure Oks where
 p:Nat->List AV->AV->Prop
 m:Nat->List AV->List (Nat×Row)->AV->List (Nat×Row)->Prop
 h:Nat->List AV->List (Nat×Row)->AV->List (Nat×Row)->Prop
mutual
def AV.rg(h:Nat->Nat):AV->AV
 | .sl q i n=>.sl (h q) i n
 | .pt q i o=>.pt (h q) i o
 | .agg cs=>.agg (rgL h cs)
 | .fn f cs=>.fn f (rgL h cs)
 | .tup cs=>.tup (rgL h cs)
 |x=>x
def rgL(h:Nat->Nat):List AV->List AV
 |[]=>[]
 |c::cs=>c.rg h::rgL h cs
end
def Row.rg(h:Nat->Nat):Row->Row
 | .var x=>.var (x.rg h)
 |x=>x
def pos(r:Nat):List Nat->Nat
 |[]=>0
 |x::xs=>if x=r then 0 else pos r xs+1
def cnm(rs:List Nat)(r:Nat):Nat:=1000000000+pos r rs
def bkn(d:Nat)(rs:List Nat)(q:Nat):Nat:=if 1000000000<=q then rs.getD (q-1000000000) 0 else q+100000*(d+1)
def iy(ρ:Nat->Option Row)(rs:List Nat)(r:Nat):Nat×Row:=(cnm rs r,((ρ r).getD .dead).rg (cnm rs))
def dy(d:Nat)(rs:List Nat)(p:Nat×Row):Nat×Row:=(bkn d rs p.1,p.2.rg (bkn d rs))
def ni:Option Row->List Nat
 |some (.var x)=>x.ments
 |_=>[]
section
variable(ok:Oks)
def callM(ρ:Nat->Option Row)(d f:Nat)(args:List AV)(rs:List Nat)(K:AV->List (Nat×Row)->Prop):Prop:=
 ∃ res outs, ok.m f (args.map (AV.rg (cnm rs))) (rs.map (iy ρ rs)) res outs ∧
   (rs.Nodup/\(∀r∈rs,cM (ρ r))/\(∀r∈rs,∀q∈ni (ρ r),q∈rs)/\(∀r∈aK args,r∈rs))/\
   ((outs.map fun p => bkn d rs p.1).Nodup ∧ (∀ p ∈ outs, 1000000000 ≤ p.1 → p.1 - 1000000000 < rs.length) ∧
     (∀p∈outs,p.1<1000000000->ρ (bkn d rs p.1)=none/\bkn d rs p.1<1000000000))/\
   K (res.rg (bkn d rs)) (cd rs++outs.map (dy d rs))
def rv(ρ:Nat->Option Row)(d:Nat)(x:AV)(xs:List AV)(rs:List Nat)(K:AV->List (Nat×Row)->Prop):Prop:=match x with
 | .fn f cs=>callM ok ρ d f (xs++cs) rs K
 |_=>False
def gR(ρ:Nat->Option Row)(d f:Nat)(args:List AV)(K:AV->List (Nat×Row)->Prop):Prop:=
 ∃ res, ok.p f (args.map (snp ρ 4)) res ∧ (res.allU ∨ aK args = [] ∧ (res.ou ∨ res.noU)) ∧ (∀ p ∈ (adopt 4 d res).2.1, ρ p.1 = none ∧ p.1 < 1000000000) ∧
   K (adopt 4 d res).1 (adopt 4 d res).2.1
def zC(ρ:Nat->Option Row)(d:Nat)(x:AV)(xs:List AV)(K:AV->List (Nat×Row)->Prop):Prop:=match x with
 | .fn f cs=>gR ok ρ d f (xs++cs) K
 |_=>False
def eff(g:X->AV)(ρ:Nat->Option Row)(d:Nat):AOp->(AV->List (Nat×Row)->Prop)->Prop
 | .mv x,K=>K (g x) []
 | .pick c a b,K=>mS K (g c) (g a) (g b)
 | .alloc z,K=>ρ d=none/\K (.pt d 0 0) [(d,.var z)]
 | .box n x,K=>ρ d=none/\(g x).width=n/\K (.pt d 0 0) [(d,.var (g x))]
 | .build z ps,K=>(∀p∈ps,(g p.2.2).width=p.2.1/\p.1+p.2.1<=z.length)/\K (.agg (mM z (ps.map fun p=>(p.1,g p.2.2)))) []
 | .bsl n fr ps,K=>(fr=true->aK (ps.map g)=[])/\ρ d=none/\(∀p∈ps,(g p).width=n)/\(aK (ps.map g)).Nodup/\
  K (.sl d 0 ps.length) (cd (aK (ps.map g))++[(d,.arr n ((ps.map g).map (lift ρ 2)))])
 | .load n ag x,K=>eO K ρ n ag (g x)
 | .store n x v,K=>ed K ρ n (g x) (g v)
 | .bin op x y,K=>dI op (g x) (g y) (k1 K)
 | .beq neg x y,K=>AF K neg (g x) (g y)
 | .un op x,K=>unV op (g x) (k1 K)
 | .conv k x,K=>sf K k (g x)
 | .mkf f cs,K=>K (.fn f (cs.map g)) []
 | .mks n z bytes l c,K=>tS K (ρ d) d n z bytes (g l) (g c)
 | .slc n x lo hi mx,K=>rS K ρ n (g x) (lo.map g) (hi.map g) (mx.map g)
 | .slz x lo hi,K=>VU K (g x) (lo.map g) (hi.map g)
 | .fad off x,K=>nu K ρ off (g x)
 | .idx n x i,K=>lf K ρ n (g x) (g i)
 | .idv av n x i,K=>iPt av (g x)/\lf K ρ n (g x) (g i)
 | .lnv av x,K=>iPt av (g x)/\mH K ρ (g x)
 | .stw r n x v,K=>wPt r ρ (g x)/\ed K ρ n (g x) (g v)
 | .fld off n ag x,K=>Bm K off n ag (g x)
 | .stri x i,K=>sL K (g x) (g i)
 | .ext x j,K=>CJ K (g x) j
 | .call f xs,K=>gR ok ρ d f (xs.map g) K
 | .dyn x xs,K=>zC ok ρ d (g x) (xs.map g) K
 | .callM f xs rs,K=>callM ok ρ d f (xs.map g) rs K
 | .dynM x xs rs,K=>rv ok ρ d (g x) (xs.map g) rs K
 | .len x,K=>mH K ρ (g x)
 | .lenz x,K=>rL K (g x)
 | .capn x,K=>sR K (g x)
 | .slg n x hi,K=>Cw K n (g x) (g hi)
 | .apz n z bytes x l,K=>Ik K (ρ d) d n z bytes (g x) (g l)
 | .b2s x,K=>DB K ρ (g x)
 | .isn neg x,K=>Af K ρ neg (g x)
 | .aeq neg x y,K=>zJ K neg (g x) (g y)
 | .apq n x y,K=>acb K ρ n (g x) (g y)
 | .slx n x lo hi,K=>Ls K ρ n (g x) (lo.map g) (hi.map g)
 | .slm n x lo hi mx,K=>acg K ρ n (g x) (g lo) (g hi) (g mx)
 | .clr n z x,K=>Kh K ρ n z (g x)
 | .cpy n x y,K=>Kp K ρ n (g x) (g y)
 | .ldv av n ag x,K=>vPt av ρ (g x)/\eO K ρ n ag (g x)
 | .lde av n ag x,K=>lPt av (g x)/\eO K ρ n ag (g x)
 | .str n x v,K=>aPt ρ (g x)/\(g v).ments=[]/\ed K ρ n (g x) (g v)
 | .lda n ag x,K=>aPb ρ (g x)/\eO K ρ n ag (g x)
 | .stv n x v,K=>vPv ρ (g x)/\ed K ρ n (g x) (g v)
 | .fdv av off x,K=>vPt av ρ (g x)/\nu K ρ off (g x)
 | .bsm n ps,K=>(∀r∈aK (ps.map g),CM (ρ r))/\ρ d=none/\(∀p∈ps,(g p).width=n)/\(aK (ps.map g)).Nodup/\
  K (.sl d 0 ps.length) (cd (aK (ps.map g))++[(d,.arr n ((ps.map g).map (lift ρ 2)))])
 | .app n bytes mv x y,K=>wz K ρ d n bytes mv (g x) (g y)
 | .nilc x,K=>ux K ρ (g x)
 | .mn x y,K=>eMn K (g x) (g y)
 | .mx x y,K=>eMx K (g x) (g y)
 | .bad,_=>False
def fD(σ:St)(s:Nat)(w:Bool)(x:AV)(A B:St->Prop):Prop:=match x with
 | .sc (.bool t)=>(t=w->A (σ.know s w))/\(t=!w->B (σ.know s (!w)))
 | .tup []=>B σ
 |_=>False
def Tu(d:Option Nat)(R:St->Prop)(σ:St)(v:AV)(u:List (Nat×Row)):Prop:=R (σ.app d v u)
def Cs(d:Option Nat)(o:AOp)(R:St->Prop)(σ:St):Prop:=eff ok σ.gx σ.row (d.getD 0) o (Tu d R σ)
def MW(d:Option Nat)(R:St->Prop)(σ:St):Prop:=R (σ.app d (.tup []) [])
def afw(o:br)(σ:St)(R:St->Prop):Prop:=
 match o.gd with
 |none=>Cs ok o.d o.op R σ
 |some (s,w)=>fD σ s w (σ.get s) (Cs ok o.d o.op R) (MW o.d R)
def dV:List br->(St->Prop)->St->Prop
 |[],K,σ=>K σ
 |o::os,K,σ=>afw ok o σ (dV os K)
mutual
def AV.fz:AV->Bool
 | .sc _=>true
 | .lst f _ xs=>(match f with| .o=>fzL xs|_=>false)
 | .agg cs=>fzL cs
 | .tup cs=>fzL cs
 | .fn _ cs=>fzL cs
 | .bp f x _=>(match f with| .o=>x.fz|_=>false)
 | .sl _ _ _=>true
 | .pt _ _ _=>true
 | .top=>true
 | .ub=>true
 |_=>false
def fzL:List AV->Bool
 |[]=>true
 |c::cs=>c.fz&&fzL cs
end
mutual
def AV.ouB:AV->Bool
 | .sc _=>true
 | .lst f _ xs=>(match f with| .o=>fzL xs| .u=>gk xs|_=>false)
 | .agg cs=>gk cs
 | .top=>true
 |_=>false
def gk:List AV->Bool
 |[]=>true
 |c::cs=>c.ouB&&gk cs
end
def Row.fz:Row->Bool
 | .var x=>x.fz
 | .arr _ es=>gk es
 | .dead=>true
def St.fz(σ:St):Bool:=σ.env.all (fun p=>p.2.fz)&&σ.rows.all (fun p=>p.2.fz)
def rl:List (Nat×X)->St->St
 |[],σ=>σ
 |(d,x)::ms,σ=>rl ms (σ.app (some d) (σ.gx x) [])
def uH(τ:St)(t len:Nat):X->AV
 | .t j=>if j=t then .sl 1000000000 0 len else τ.get j
 | .c a=>a
def vV(τ:St)(t:Nat):X->Prop
 | .t j=>j=t\/(τ.get j).ments=[]
 | .c a=>a.ments=[]
def aes(K:St->Prop)(τ:St)(t n k d f:Nat)(xs:List X)(r i off:Nat)(es:List AV)(y:AV)(ys:List AV):Prop:=
 ys.all AV.flat=true/\τ.fz=true/\(∀x∈xs,vV τ t x)/\
 ∃ v ys', ok.m f (xs.map (uH τ t ys.length)) [(1000000000, .arr k ys)] (.sc v) [(1000000000, .arr k ys')] ∧ ys'.all AV.flat = true ∧
   opt (setPart y off (.lst .u k ys')) fun z=>K (τ.app (some d) (.sc v) [(r,.arr n (es.set i z))])
def Rt(K:St->Prop)(τ:St)(t n k d f:Nat)(xs:List X)(r i off:Nat)(es:List AV)(y:AV):AV->Prop
 | .lst .u w ys=>w=k/\aes ok K τ t n k d f xs r i off es y ys
 |_=>False
def ND(K:St->Prop)(τ:St)(t n k d f:Nat)(xs:List X)(r i off:Nat):Option Row->Prop
 |some (.arr w es)=>w=n/\opt es[i]? fun y=>opt (part y off 1 false) (Rt ok K τ t n k d f xs r i off es y)
 |_=>False
def OT(K:St->Prop)(σ τ:St)(t n k d f:Nat)(xs:List X):AV->Prop
 | .pt r i off=>ND ok K τ t n k d f xs r i off (σ.row r)
 |_=>False
def adf(d:Nat)(K:St->Prop)(σ:St)(v:AV)(u:List (Nat×Row)):Prop:=K (σ.app (some d) v u)
def stH(h:HOp)(K:St->Prop)(σ:St):Prop:=match h with
 | .inn t n k x mids d f xs=>OT ok K σ (rl mids (σ.app (some t) .top [])) t n k d f xs (σ.gx x)
 | .har d f xs rs=>σ.fz=true/\callM ⟨ok.p,ok.h,ok.h⟩ σ.row d f (xs.map σ.gx) rs (adf d K σ)
def AV.hush(r:Nat)(a:AV):AV:=if r∈a.ments then .top else a
mutual
def AV.ren(r d:Nat):AV->AV
 | .sl q i n=>.sl (if q=r then d else q) i n
 | .pt q i o=>.pt (if q=r then d else q) i o
 | .agg cs=>.agg (jq r d cs)
 | .fn f cs=>.fn f (jq r d cs)
 | .tup cs=>.tup (jq r d cs)
 |x=>x
def jq(r d:Nat):List AV->List AV
 |[]=>[]
 |c::cs=>c.ren r d::jq r d cs
end
def Row.map(h:AV->AV):Row->Row
 | .var x=>.var (h x)
 |x=>x
def Row.hush(r:Nat):Row->Row
 | .var x=>if r∈x.ments then .dead else .var x
 |x=>x
def del{α:Type}(k:Nat):List (Nat×α)->List (Nat×α)
 |[]=>[]
 |(j,x)::l=>if j=k then del k l else(j,x)::del k l
def St.canSl (σ : St) (d r i n : Nat) : St :=
    if r=d\/1000000000<=r then σ
    else
     { env:=put d (.sl d i n) ((σ.env.map fun p=>(p.1,p.2.hush d)).map fun p=>(p.1,p.2.ren r d)),
       rows:=((del d σ.rows).map fun p=>(p.1,p.2.hush d)).map fun p=>(if p.1=r then d else p.1,p.2.map (·.ren r d))}
def St.canSr (σ : St) (d r i n : Nat) : St :=
    if r=d then σ
    else
     { env:=put d (.sl d i n) ((σ.env.map fun p=>(p.1,p.2.hush d)).map fun p=>(p.1,p.2.ren r d)),
       rows:=((del d σ.rows).map fun p=>(p.1,p.2.hush d)).map fun p=>(if p.1=r then d else p.1,p.2.map (·.ren r d))}
def St.canNil (σ : St) (d n : Nat) : St :=
    { env:=put d (.sl d 0 0) (σ.env.map fun p=>(p.1,p.2.hush d)),
      rows:=put d (.arr n []) ((del d σ.rows).map fun p=>(p.1,p.2.hush d))}
def St.canV(σ:St)(d:Nat)(x:AV):St:=match x with
 | .sl r i n=>σ.canSl d r i n
 | .lst .u n []=>σ.canNil d n
 |_=>σ
def St.canW(σ:St)(d:Nat)(x:AV):St:=match x with
 | .sl r i n=>σ.canSr d r i n
 | .lst .u n []=>σ.canNil d n
 |_=>σ
def St.canZr(σ:St)(d i m:Nat)(r:Nat):Option Row->St
 |some (.arr q es)=>⟨put d (.lst .m q (dA (sub es i m))) σ.env,put r .dead σ.rows⟩
 |_=>σ
def ip:List AV->Nat->AV->List AV
 |[],_,_=>[]
 |_::xs,0,y=>y::xs
 |x::xs,j+1,y=>x::ip xs j y
def St.canZcr(σ:St)(d:Nat)(all:List AV)(j r i m:Nat):Option Row->St
 |some (.arr q es)=>⟨put d (.agg (ip all j (.lst .m q (dA (sub es i m))))) σ.env,put r .dead σ.rows⟩
 |_=>σ
def St.canZc(σ:St)(d:Nat)(all:List AV):Nat->List AV->St
 |_,[]=>σ
 |j,.sl r i m::_=>σ.canZcr d all j r i m (az r σ.rows)
 |j,_::cs=>σ.canZc d all (j+1) cs
def St.canZ(σ:St)(d:Nat)(x:AV):St:=match x with
 | .sl r i m=>σ.canZr d i m r (az r σ.rows)
 | .agg cs=>σ.canZc d cs 0 cs
 |_=>σ
def uC:List AV->Nat->AV
 |[],_=>.top
 |x::_,0=>x
 |_::xs,j+1=>uC xs j
def ik(j:Nat):Option Row->AV
 |some (.var (.agg cs))=>uC cs j
 |some (.var (.sl q i m))=>if j=0 then .sl q i m else .top
 |some (.var (.lst f m xs))=>if j=0 then .lst f m xs else .top
 |_=>.top
def St.canFN(σ:St)(d r j m:Nat):Option Row->St
 |some (.var (.agg cs))=>⟨σ.env.map fun p=>(p.1,p.2.hush d),put d (.arr m []) (put r (.var (.agg (ip cs j (.sl d 0 0)))) ((del d σ.rows).map fun p=>(p.1,p.2.hush d)))⟩
 |some (.var (.lst .u _ []))=>⟨σ.env.map fun p=>(p.1,p.2.hush d),put d (.arr m []) (put r (.var (.sl d 0 0)) ((del d σ.rows).map fun p=>(p.1,p.2.hush d)))⟩
 |_=>σ
def St.canG(σ:St)(far:Bool)(d r j:Nat):AV->St
 | .sl q _ _=>if q=d\/far=false/\1000000000<=q then σ else
  ⟨(σ.env.map fun p=>(p.1,p.2.hush d)).map fun p=>(p.1,p.2.ren q d),((del d σ.rows).map fun p=>(p.1,p.2.hush d)).map fun p=>(if p.1=q then d else p.1,p.2.map (·.ren q d))⟩
 | .lst .u m []=>σ.canFN d r j m (az r ((del d σ.rows).map fun p=>(p.1,p.2.hush d)))
 |_=>σ
def St.canEN(σ:St)(d k j m:Nat):Option AV->St
 |some (.agg cs)=>⟨put k (.agg (ip cs j (.sl d 0 0))) (σ.env.map fun p=>(p.1,p.2.hush d)),put d (.arr m []) ((del d σ.rows).map fun p=>(p.1,p.2.hush d))⟩
 |_=>σ
def St.canE(σ:St)(far:Bool)(d k j:Nat):AV->St
 | .sl q _ _=>if q=d\/far=false/\1000000000<=q then σ else
  ⟨(σ.env.map fun p=>(p.1,p.2.hush d)).map fun p=>(p.1,p.2.ren q d),((del d σ.rows).map fun p=>(p.1,p.2.hush d)).map fun p=>(if p.1=q then d else p.1,p.2.map (·.ren q d))⟩
 | .lst .u m []=>σ.canEN d k j m (az k (σ.env.map fun p=>(p.1,p.2.hush d)))
 |_=>σ
def St.canXcr(σ:St)(r:Nat)(all:List AV)(j q i m:Nat):Option Row->St
 |some (.arr k es)=>⟨σ.env,put r (.var (.agg (ip all j (.lst .m k (dA (sub es i m)))))) (put q .dead σ.rows)⟩
 |_=>σ
def St.canXc(σ:St)(r:Nat)(all:List AV):Nat->List AV->St
 |_,[]=>σ
 |j,.sl q i m::_=>σ.canXcr r all j q i m (az q σ.rows)
 |j,.lst .u n []::_=>⟨σ.env,put r (.var (.agg (ip all j (.lst .m n [])))) σ.rows⟩
 |j,_::cs=>σ.canXc r all (j+1) cs
def St.canX(σ:St)(r:Nat):Option Row->St
 |some (.arr n es)=>⟨σ.env,put r (.arr n (dA es)) σ.rows⟩
 |some (.var (.agg cs))=>σ.canXc r cs 0 cs
 |_=>σ
def St.can1(σ:St):Can->St
 | .s d=>σ.canV d (σ.get d)
 | .f far d r j=>σ.canG far d r j (ik j (az r σ.rows))
 | .r d=>σ.canW d (σ.get d)
 | .z d=>σ.canZ d (σ.get d)
 | .e far d k j=>σ.canE far d k j (ik j (some (.var (σ.get k))))
 | .w r=>σ.canX r (az r σ.rows)
def St.can(σ:St):List Can->St
 |[]=>σ
 |d::ds=>(σ.can1 d).can ds
def Can.low(n:Nat):Can->Bool
 | .s d=>decide (d<n)
 | .f _ d _ _=>decide (d<1000000000)&&decide (n<=d)
 | .r d=>decide (d<n)
 | .z d=>decide (d<n)
 | .e _ d k _=>decide (d<1000000000)&&decide (n<=d)&&decide (k<n)
 | .w _=>true
def St.res(σ:St)(lv lr:List Nat):St:=
 {env:=lv.map fun k=>(k,σ.get k),rows:=lr.map fun r=>(r,(σ.row r).getD .dead)}
def Row.ments:Row->List Nat
 | .var x=>x.ments
 |_=>[]
def St.resOk(σ:St)(lv lr:List Nat):Prop:=
 (∀k∈lv,∀r∈(σ.get k).ments,r∈lr)/\(∀q∈lr,∀r∈((σ.row q).getD .dead).ments,r∈lr)/\lr.Nodup
inductive Ex where
 |nrm
 |ex (id:Nat)
 |ret
def thn(K:St->Prop)(Q:Ex->St->Prop):Ex->St->Prop
 | .nrm,σ=>K σ
 |e,σ=>Q e σ
def inb(id:Nat)(Q:Ex->St->Prop):Ex->St->Prop
 | .ex j,σ=>if j=id then Q .nrm σ else Q (.ex j) σ
 |e,σ=>Q e σ
def tst(x:AV)(A B:Prop):Prop:=match x with
 | .sc (.bool t)=>(t=true->A)/\(t=false->B)
 | .ub=>A/\B
 |_=>False
def DH(Q:Ex->St->Prop)(can:List Can)(σ:St):Prop:=Q .nrm (σ.can can)
def St.rb(σ:St)(lv:List Nat):St:=⟨lv.map fun k=>(k,snp σ.row 4 (σ.get k)),[]⟩
def AV.scal:AV->AV
 | .sc v=>.sc v
 |_=>.top
def St.scal(σ:St):St:=⟨σ.env.map fun p=>(p.1,p.2.scal),[]⟩
def rbQ(Q:Ex->St->Prop)(e:Ex)(τ:St):Prop:=Q e τ.scal
def AWP:aq->(Ex->St->Prop)->St->Prop
 | .skip,Q,σ=>Q .nrm σ
 | .reg ops can,Q,σ=>dV ok ops (DH Q can) σ
 | .drw ops can,Q,σ=>dV ok ops (DH Q can) σ
 | .regh pre h post can,Q,σ=>dV ok pre (stH ok h (dV ok post (DH Q can))) σ
 | .seq a b,Q,σ=>AWP a (thn (AWP b Q) Q) σ
 | .seqr a lv lr b,Q,σ=>AWP a (thn (fun τ=>τ.resOk lv lr/\AWP b Q (τ.res lv lr)) Q) σ
 | .seqa x a lv lr b,Q,σ=>AWP x (thn (AWP a (thn (fun τ=>τ.resOk lv lr/\AWP b Q (τ.res lv lr)) Q)) Q) σ
 | .seqb a lv b,Q,σ=>AWP a (thn (fun τ=>AWP b (rbQ Q) (τ.rb lv)) Q) σ
 | .cond x a b,Q,σ=>tst (σ.gx x) (AWP a Q σ) (AWP b Q σ)
 | .blk id a,Q,σ=>AWP a (inb id Q) σ
 | .loop a,Q,σ=>∃(lv lr:List Nat)(I:St->Prop)(μ:St->Nat),σ.resOk lv lr/\I (σ.res lv lr)/\
  ∀τ,I τ->AWP a (thn (fun τ'=>τ'.resOk lv lr/\I (τ'.res lv lr)/\μ (τ'.res lv lr)<μ τ) Q) τ
 | .exit id,Q,σ=>Q (.ex id) σ
 | .ret,Q,σ=>Q .ret σ
inductive RV where
 |t (n:Nat)
 |c (n k:Nat) (ag:Bool)
def RV.val(σ:St):RV->Option AV
 | .t n=>some (σ.get n)
 | .c n k ag => match σ.get n with
   | .pt r 0 0 => match σ.row r with
     |some (.var y)=>part y 0 k ag
     |_=>none
   |_=>none
def RVs.val(σ:St):List RV->Option (List AV)
 |[]=>some []
 | r :: rs => match r.val σ, RVs.val σ rs with
   |some x,some xs=>some (x::xs)
   |_,_=>none
def iw:List AV->AV
 |[x]=>x
 |xs=>.tup xs
def fin(rs:List RV)(res:AV):Ex->St->Prop
 | .nrm,σ| .ret,σ=>∃xs,RVs.val σ rs=some xs/\(aK xs).Nodup/\lift σ.row 3 (iw xs)=res
 |_,_=>False
def St.start(args:List AV):St:={env:=go 0 args,rows:=[]}
where go:Nat->List AV->List (Nat×AV)
 |_,[]=>[]
 |n,a::as=>(n,a)::go (n+1) as
def UA(a:aq)(rs:List RV)(args:List AV)(res:AV):Prop:=AWP ok a (fin rs res) (St.start args)
end
end Vs

namespace Vs
open Go
variable(n d:Nat)(K:AV->List (Nat×Row)->Prop)(ρ:Nat->Option Row)(r:Nat)(σ:St)(ok:Oks)(i:Nat)(xs cs:List AV)(g:X->AV)(k:Nat)(x:X)(f:Fl)(off j m:Nat)(es:List AV)(w:Nat)(y:AV)(rows:List (Nat×Row))(a b:Int)(Q:Ex->St->Prop)(env:List (Nat×AV))(v:Value)(h:Nat->Nat)(ag:Bool)(q:Nat)(all:List AV)(far:Bool)(av:List Nat)(c:Nat)(rs:List Nat)(bytes:Nat)(p:Prop)(z:AV)(u:List (Nat×Row))(t:Nat)(neg:Bool)(ys:List AV)(s:Nat)(lv:List Nat)(lo hi:Option AV)(ds:List Can)(A B:St->Prop)(can:List Can)(lr:List Nat)(o:Nat)(mv:Bool)(res:AV)
theorem jY:iC xs=xs.map AV.nrm:=by
 induction xs with
 |nil=>simp[iC]
 |cons x xs ih=>simp[iC,ih]
theorem jI:dA xs=xs.map AV.als:=by
 induction xs with
 |nil=>simp[dA]
 |cons x xs ih=>simp[dA,ih]
theorem gI:gX xs=xs.map AV.fix:=by
 induction xs with
 |nil=>simp[gX]
 |cons x xs ih=>simp[gX,ih]
theorem ov:jq r d xs=xs.map (AV.ren r d):=by
 induction xs with
 |nil=>simp[jq]
 |cons x xs ih=>simp[jq,ih]
theorem vJ:kX xs↔∀x∈xs,x.allU:=by
 induction xs with
 |nil=>simp[kX]
 |cons x xs ih=>simp[kX,ih]
def agn:snp ρ (k+1) (.sc v)=.sc v:=by simp[snp,AV.nrm]
def Uz:snp ρ (k+1) (.lst f n xs)=.lst .o n (xs.map AV.nrm):=by simp[snp,AV.nrm,jY]
def afg:snp ρ (k+1) (.tg f n xs)=.lst .o n (xs.map AV.nrm):=by simp[snp,AV.nrm,jY]
def Ye:snp ρ (k+1) (.agg cs)=.agg (cs.map (snp ρ k)):=by simp[snp]
def agi(f:Nat):snp ρ (k+1) (.fn f cs)=.fn f (cs.map (snp ρ k)):=by simp[snp]
def aco(x:AV):snp ρ (k+1) (.bp f x off)=.bp .o x.nrm off:=by simp[snp,AV.nrm]
def afp:snp ρ (k+1) (.sl r i n)=pV (ρ r) i n:=by simp only[snp]
def Ki:pV (some (.arr w es)) i n=.lst .o w ((sub es i n).map AV.nrm):=by simp[pV,jY]
def adc:snp ρ (k+1) (.pt r i off)=nJ (snp ρ k) (ρ r) i off:=by simp only[snp]
def Jw(h:AV->AV):nJ h (some (.var y)) 0 off=.bp .o (h y) off:=by simp[nJ]
def Wu:lift ρ (k+1) (.sc v)=.sc v:=by simp[lift]
def NY:lift ρ (k+1) (.lst f n xs)=.lst f n xs:=by simp[lift]
def OL:lift ρ (k+1) (.agg cs)=.agg (cs.map (lift ρ k)):=by simp[lift]
def KP:lift ρ (k+1) (.tup cs)=.tup (cs.map (lift ρ k)):=by simp[lift]
def TF:lift ρ (k+1) (.sl r i n)=nq (ρ r) i n:=by simp only[lift]
def CO:nq (some (.arr w es)) i n=.lst .u w (sub es i n):=rfl
theorem nH:adopt (k+1) c (.sc v)=(.sc v,[],c):=by simp[adopt,AV.fix]
def Fm:adopt (k+1) c (.lst .u n es)=(.sl c 0 es.length,[(c,.arr n (es.map AV.fix))],c+1000):=by simp[adopt,gI]
def Ei:adopt (k+1) c (.lst .o n es)=(.lst .s n (es.map AV.fix),[],c):=by simp[adopt,AV.fix,gI,Fl.fix]
def FO:adopt (k+1) c (.lst .m n es)=(.lst .m n (es.map AV.fix),[],c):=by simp[adopt,AV.fix,gI,Fl.fix]
def Ee:adopt (k+1) c (.lst .s n es)=(.lst .s n (es.map AV.fix),[],c):=by simp[adopt,AV.fix,gI,Fl.fix]
def vh:adopt (k+1) c (.tup xs)=(.tup (adopt.go k c xs).1,(adopt.go k c xs).2.1,(adopt.go k c xs).2.2):=by simp[adopt]
def vx:adopt (k+1) c (.agg xs)=(.agg (adopt.go k c xs).1,(adopt.go k c xs).2.1,(adopt.go k c xs).2.2):=by simp[adopt]
def vu:adopt.go k c []=([],[],c):=by simp[adopt.go]
def ru(x:AV):adopt.go k c (x::xs)=
 ((adopt k c x).1::(adopt.go k (adopt k c x).2.2 xs).1,(adopt k c x).2.1++(adopt.go k (adopt k c x).2.2 xs).2.1,(adopt.go k (adopt k c x).2.2 xs).2.2):=by simp[adopt.go]
theorem dN:(AV.sc v).nrm=.sc v:=by simp[AV.nrm]
theorem fO:(AV.lst f n xs).nrm=.lst .o n (xs.map AV.nrm):=by simp[AV.nrm,jY]
theorem gf:(AV.agg cs).nrm=.agg (cs.map AV.nrm):=by simp[AV.nrm,jY]
def ade(x:AV):(AV.bp f x off).nrm=.bp .o x.nrm off:=by simp[AV.nrm]
theorem eL:(AV.sc v).als=.sc v:=by simp[AV.als]
theorem fV:(AV.lst f n xs).als=.lst f.als n (xs.map AV.als):=by simp[AV.als,jI]
theorem ga:(AV.agg cs).als=.agg (cs.map AV.als):=by simp[AV.als,jI]
theorem fe:(AV.sc v).fix=.sc v:=by simp[AV.fix]
theorem fu:(AV.lst f n xs).fix=.lst f.fix n (xs.map AV.fix):=by simp[AV.fix,gI]
theorem ft:(AV.agg cs).fix=.agg (cs.map AV.fix):=by simp[AV.fix,gI]
theorem fd(xs:List Int):(xs.map AV.i).map AV.nrm=xs.map AV.i:=by simp[dN]
theorem eZ(xs:List Int):(xs.map AV.i).map AV.als=xs.map AV.i:=by simp[eL]
theorem eK(xs:List Int):(xs.map AV.i).map AV.fix=xs.map AV.i:=by simp[fe]
def HI(xs:List Bool):(xs.map AV.b).map AV.nrm=xs.map AV.b:=by simp[dN]
def Ko(xs:List Bool):(xs.map AV.b).map AV.als=xs.map AV.b:=by simp[eL]
def vF(xs:List Bool):(xs.map AV.b).map AV.fix=xs.map AV.b:=by simp[fe]
theorem jU(xs:List ByteArray):(xs.map AV.z).map AV.nrm=xs.map AV.z:=by simp[dN]
theorem jG(xs:List ByteArray):(xs.map AV.z).map AV.als=xs.map AV.z:=by simp[eL]
theorem ie(xs:List ByteArray):(xs.map AV.z).map AV.fix=xs.map AV.z:=by simp[fe]
def Dp(xs:List Int):(xs.map AV.u8).map AV.nrm=xs.map AV.u8:=by simp[dN]
def Ii:AV.als∘AV.i=AV.i:=by funext x;simp[eL]
def Gd:AV.als∘AV.b=AV.b:=by funext x;simp[eL]
def GQ:AV.als∘AV.z=AV.z:=by funext x;simp[eL]
def Bw(xs:List Int):(xs.map AV.u8).map AV.als=xs.map AV.u8:=by simp[eL]
def sK(xs:List Int):(xs.map AV.u8).map AV.fix=xs.map AV.u8:=by simp[fe]
def Wp{α:Type}(a:α):(some a).isSome=true:=rfl
def c_eq{α:Type}(a:α):(a=a)=True:=eq_self a
def ais:(True/\p)=p:=true_and p
def afl:(p/\True)=p:=and_true p
def UI:(∃es,some (Row.arr n xs)=some (Row.arr n es))=True:=by simp
def QC:(∃w es,some (Row.arr n xs)=some (Row.arr w es))=True:=by simp
def aaz:(False->p)=True:=by simp
def abu:(True->p)=p:=by simp
def WM{α:Type}(q:α->Prop):(∀p∈([]:List α),q p)=True:=by simp
def Tq{α:Type}(x:α)(l:List α)(q:α->Prop):(∀p∈x::l,q p)=(q x/\∀p∈l,q p):=by simp
def OG:sub [] 0 0=[]:=rfl
def Qs:0+n=n:=Nat.zero_add n
def SF:n+0=n:=Nat.add_zero n
def afo:n-0=n:=Nat.sub_zero n
def aen:(d∈([]:List Nat))=False:=by simp
def aev(x:Nat)(l:List Nat):(d∈x::l)=(d=x\/d∈l):=by simp
def aih:(p\/False)=p:=or_false p
def ail:(False\/p)=p:=false_or p
def ahh:(p\/True)=True:=or_true p
def ahk:(True\/p)=True:=true_or p
def aej:(¬False)=True:=not_false_eq_true
def abk:(¬True)=False:=not_true_eq_false
def ahx:(n<=n)=True:=by simp
def ahn:(0<=n)=True:=by simp
def UG{α:Type}(f:α->AV)(l:List α):sub (l.map f) 0 l.length=l.map f:=by simp[sub]
theorem oU:rgL h xs=xs.map (AV.rg h):=by
 induction xs with
 |nil=>simp[rgL]
 |cons x xs ih=>simp[rgL,ih]
def aao:(AV.sc v).rg h=.sc v:=by simp[AV.rg]
def Oy:(AV.lst f n xs).rg h=.lst f n xs:=by simp[AV.rg]
def YF:(AV.tg f n xs).rg h=.tg f n xs:=by simp[AV.rg]
def aaq(x:AV):(AV.bp f x off).rg h=.bp f x off:=by simp[AV.rg]
def Lj:AV.top.rg h=.top:=by simp[AV.rg]
def Mo:(AV.agg cs).rg h=.agg (cs.map (AV.rg h)):=by simp[AV.rg,oU]
def YS(f:Nat):(AV.fn f cs).rg h=.fn f (cs.map (AV.rg h)):=by simp[AV.rg,oU]
def Sy:(AV.tup cs).rg h=.tup (cs.map (AV.rg h)):=by simp[AV.rg,oU]
def YC:(AV.sl q i n).rg h=.sl (h q) i n:=by simp[AV.rg]
def YX:(AV.pt q i n).rg h=.pt (h q) i n:=by simp[AV.rg]
def DU(x:AV):(Row.var x).rg h=.var (x.rg h):=rfl
def Ft:(Row.arr n xs).rg h=.arr n xs:=rfl
def zU:Row.dead.rg h=.dead:=rfl
def yu(x:Nat)(xs:List Nat):pos r (x::xs)=if x=r then 0 else pos r xs+1:=rfl
def PV:cnm rs r=1000000000+pos r rs:=rfl
def Mf:bkn d rs q=if 1000000000<=q then rs.getD (q-1000000000) 0 else q+100000*(d+1):=rfl
def SE:iy ρ rs r=(cnm rs r,((ρ r).getD .dead).rg (cnm rs)):=rfl
def Bj(p:Nat×Row):dy d rs p=(bkn d rs p.1,p.2.rg (bkn d rs)):=rfl
def BO(x:AV):ni (some (.var x))=x.ments:=rfl
def Cb:ni (some (.arr n xs))=[]:=rfl
def DM(x y:Nat)(l:List Nat):(x::l).getD 0 y=x:=rfl
def FL(x y:Nat)(l:List Nat):(x::l).getD (n+1) y=l.getD n y:=by simp
def afj:(AV.sc v).ren r d=.sc v:=by simp[AV.ren]
def Tc:(AV.lst f n xs).ren r d=.lst f n xs:=by simp[AV.ren]
def acp:(AV.tg f n xs).ren r d=.tg f n xs:=by simp[AV.ren]
def aea(x:AV):(AV.bp f x off).ren r d=.bp f x off:=by simp[AV.ren]
def Tt:AV.top.ren r d=.top:=by simp[AV.ren]
def WU:(AV.agg cs).ren r d=.agg (cs.map (AV.ren r d)):=by simp[AV.ren,ov]
def acw(f:Nat):(AV.fn f cs).ren r d=.fn f (cs.map (AV.ren r d)):=by simp[AV.ren,ov]
def Vw:(AV.tup cs).ren r d=.tup (cs.map (AV.ren r d)):=by simp[AV.ren,ov]
def abe:(AV.sl q i n).ren r d=.sl (if q=r then d else q) i n:=by simp[AV.ren]
def adb:(AV.pt q i n).ren r d=.pt (if q=r then d else q) i n:=by simp[AV.ren]
def LY:AWP ok .skip Q σ=Q .nrm σ:=by simp only[AWP]
def Wj(ops:List br):AWP ok (.reg ops can) Q σ=dV ok ops (DH Q can) σ:=by simp only[AWP]
def WH(ops:List br):AWP ok (.drw ops can) Q σ=dV ok ops (DH Q can) σ:=by simp only[AWP]
def Og(pre:List br)(h:HOp)(post:List br):AWP ok (.regh pre h post can) Q σ=dV ok pre (stH ok h (dV ok post (DH Q can))) σ:=by simp only[AWP]
def XL(a b:aq):AWP ok (.seq a b) Q σ=AWP ok a (thn (AWP ok b Q) Q) σ:=by simp only[AWP]
def xz(ok:Oks)(v:AV)(a b:aq)(Q:Ex->St->Prop)(σ:St):Prop:=tst v (AWP ok a Q σ) (AWP ok b Q σ)
def QB(a b:aq):AWP ok (.cond x a b) Q σ=xz ok (σ.gx x) a b Q σ:=by simp only[AWP,xz]
def ags(a b:aq):xz ok (.sc (.bool true)) a b Q σ=AWP ok a Q σ:=by simp[xz,tst]
def aci(a b:aq):xz ok .ub a b Q σ=(AWP ok a Q σ/\AWP ok b Q σ):=by simp[xz,tst]
def abc(a b:aq):xz ok (.sc (.bool false)) a b Q σ=AWP ok b Q σ:=by simp[xz,tst]
def MC(x a:aq)(b:aq):AWP ok (.seqa x a lv lr b) Q σ=AWP ok x (thn (AWP ok (.seqr a lv lr b) Q) Q) σ:=by simp only[AWP]
def Rm(a:aq)(b:aq):AWP ok (.seqb a lv b) Q σ=AWP ok a (thn (fun τ=>AWP ok b (rbQ Q) (τ.rb lv)) Q) σ:=by simp only[AWP]
def ahl:St.rb ⟨env,rows⟩ lv=⟨lv.map fun k=>(k,snp (St.row ⟨env,rows⟩) 4 (St.get ⟨env,rows⟩ k)),[]⟩:=rfl
def acx(e:Ex):rbQ Q e ⟨env,rows⟩=Q e ⟨env.map fun p=>(p.1,p.2.scal),[]⟩:=rfl
def WO:(AV.sc v).scal=.sc v:=rfl
def XW(id:Nat)(a:aq):AWP ok (.blk id a) Q σ=AWP ok a (inb id Q) σ:=by simp only[AWP]
def LQ(id:Nat):AWP ok (.exit id) Q σ=Q (.ex id) σ:=by simp only[AWP]
def WW:AWP ok .ret Q σ=Q .ret σ:=by simp only[AWP]
def Tp(K:St->Prop):thn K Q .nrm σ=K σ:=rfl
def adv(K:St->Prop):thn K Q (.ex i) σ=Q (.ex i) σ:=rfl
def XN(K:St->Prop):thn K Q .ret σ=Q .ret σ:=rfl
def Uy:inb i Q .nrm σ=Q .nrm σ:=rfl
def abl:inb i Q (.ex j) σ=if j=i then Q .nrm σ else Q (.ex j) σ:=rfl
def WI:inb i Q .ret σ=Q .ret σ:=rfl
def afm:eff ok g ρ d (.mv x) K=K (g x) []:=rfl
def Ns(c a b:X):eff ok g ρ d (.pick c a b) K=mS K (g c) (g a) (g b):=rfl
def Uf(a b:AV):mS K (.sc (.bool true)) a b=K a []:=by simp[mS]
def UJ(a b:AV):mS K (.sc (.bool false)) a b=K b []:=by simp[mS]
def Hr:eff ok g ρ d (.alloc z) K=(ρ d=none/\K (.pt d 0 0) [(d,.var z)]):=rfl
def TB:eff ok g ρ d (.box n x) K=(ρ d=none/\(g x).width=n/\K (.pt d 0 0) [(d,.var (g x))]):=rfl
def FX(z:List AV)(ps:List (Nat×Nat×X)):eff ok g ρ d (.build z ps) K=
 ((∀p∈ps,(g p.2.2).width=p.2.1/\p.1+p.2.1<=z.length)/\K (.agg (mM z (ps.map fun p=>(p.1,g p.2.2)))) []):=rfl
def VE(fr:Bool)(ps:List X):eff ok g ρ d (.bsl n fr ps) K=((fr=true->aK (ps.map g)=[])/\ρ d=none/\(∀p∈ps,(g p).width=n)/\(aK (ps.map g)).Nodup/\
 K (.sl d 0 ps.length) (cd (aK (ps.map g))++[(d,.arr n ((ps.map g).map (lift ρ 2)))])):=rfl
def CU(x:AV):cM (some (.var x))=True:=rfl
def Cg(x:List AV):cM (some (.arr n x))=True:=rfl
def FJ:cd rs=rs.map fun r=>(r,.dead):=rfl
def aie(v:AV):k1 K v=K v []:=rfl
def RB:eff ok g ρ d (.load n ag x) K=eO K ρ n ag (g x):=rfl
def Qd:eO K ρ n ag (.bp f y off)=opt (part y off n ag) (k1 K):=rfl
def Mi:eO K ρ n ag (.pt r i off)=eY K (ρ r) i off n ag:=rfl
def Ab:eY K (some (.var y)) i off n ag=(i=0/\opt (part y off n ag) (k1 K)):=rfl
def AD:eY K (some (.arr w es)) i off n ag=opt es[i]? (Sw K off n ag):=rfl
def LC:Sw K off n ag y=opt (part y.als off n ag) (k1 K):=rfl
def Gw(v:X):eff ok g ρ d (.store n x v) K=ed K ρ n (g x) (g v):=rfl
def Jc(v:AV):ed K ρ n (.pt r i off) v=(v.width=n/\eF K ρ (ρ r) r i off v):=rfl
def wN(v:AV):eF K ρ (some (.var y)) r i off v=(i=0/\opt (setPart y off v) (My K r)):=rfl
def SC:My K r y=K .top [(r,.var y)]:=rfl
def wW(v:AV):eF K ρ (some (.arr w es)) r i off v=opt es[i]? (sY K ρ r w i off es v):=rfl
def Ps(v:AV):sY K ρ r w i off es v y=
 (r∉v.ments/\v.ments.Nodup/\(lift ρ 2 v).width=v.width/\opt (setPart y off (lift ρ 2 v)) (Cd K (cd v.ments) r w i es)):=rfl
def HR:Cd K u r w i es y=K .top (u++[(r,.arr w (es.set i y))]):=rfl
def UQ(ps:List X):eff ok g ρ d (.bsm n ps) K=((∀r∈aK (ps.map g),CM (ρ r))/\ρ d=none/\(∀p∈ps,(g p).width=n)/\(aK (ps.map g)).Nodup/\
 K (.sl d 0 ps.length) (cd (aK (ps.map g))++[(d,.arr n ((ps.map g).map (lift ρ 2)))])):=rfl
def Ti(v:X):eff ok g ρ d (.stv n x v) K=(vPv ρ (g x)/\ed K ρ n (g x) (g v)):=rfl
def Wc:eff ok g ρ d (.lda n ag x) K=(aPb ρ (g x)/\eO K ρ n ag (g x)):=rfl
def VI:eff ok g ρ d (.fdv av off x) K=(vPt av ρ (g x)/\nu K ρ off (g x)):=rfl
def abf:aPb ρ (.pt r i off)=CM (ρ r):=rfl
def acf:aPb ρ (.bp f y off)=True:=rfl
def afq:vPv ρ (.pt r i off)=Dr (ρ r):=rfl
def Wv:eff ok g ρ d (.ldv av n ag x) K=(vPt av ρ (g x)/\eO K ρ n ag (g x)):=rfl
def UR(v:X):eff ok g ρ d (.str n x v) K=(aPt ρ (g x)/\(g v).ments=[]/\ed K ρ n (g x) (g v)):=rfl
def XC:eff ok g ρ d (.lde av n ag x) K=(lPt av (g x)/\eO K ρ n ag (g x)):=rfl
def acm:vPt av ρ (.pt r i off)=(r∉av/\Dr (ρ r)):=rfl
def abi:vPt av ρ (.bp f y off)=True:=rfl
def acq:aPt ρ (.pt r i off)=CM (ρ r):=rfl
def Mc(x:AV):Dr (some (.var x))=True:=rfl
def Lc(x:List AV):CM (some (.arr n x))=True:=rfl
def Wr(op:BinOp)(y:X):eff ok g ρ d (.bin op x y) K=dI op (g x) (g y) (k1 K):=rfl
def VM(y:X):eff ok g ρ d (.beq neg x y) K=AF K neg (g x) (g y):=rfl
def acr(a b:Bool):AF K false (.sc (.bool a)) (.sc (.bool b))=K (.sc (.bool (a==b))) []:=rfl
def agk(a b:Bool):AF K true (.sc (.bool a)) (.sc (.bool b))=K (.sc (.bool (!(a==b)))) []:=rfl
def UT(y:X):eff ok g ρ d (.aeq neg x y) K=zJ K neg (g x) (g y):=rfl
def acv(c e:Int):zJ K false (.agg [.sc (.int .i64 a),.sc (.int .i64 b)]) (.agg [.sc (.int .i64 c),.sc (.int .i64 e)])=K (.sc (.bool (a==c&&b==e))) []:=rfl
def aaw(c e:Int):zJ K true (.agg [.sc (.int .i64 a),.sc (.int .i64 b)]) (.agg [.sc (.int .i64 c),.sc (.int .i64 e)])=K (.sc (.bool (!(a==c&&b==e)))) []:=rfl
def adh(op:UnOp):eff ok g ρ d (.un op x) K=unV op (g x) (k1 K):=rfl
def Rz(q:IntKind):eff ok g ρ d (.conv q x) K=sf K q (g x):=rfl
def Xc(q q':IntKind)(n:Int):sf K q (.sc (.int q' n))=K (.sc (.int q (q.wrap n))) []:=rfl
def Th(f:Nat)(cs:List X):eff ok g ρ d (.mkf f cs) K=K (.fn f (cs.map g)) []:=rfl
def VW(l c:X):eff ok g ρ d (.mks n z bytes l c) K=tS K (ρ d) d n z bytes (g l) (g c):=rfl
def ago(o:Option Row)(l c:Int):tS K o d n z bytes (.sc (.int .i64 l)) (.sc (.int .i64 c))=
 (o=none/\z.width=n/\0<=l/\l<=c/\c*bytes<=140737488355328/\c<=9223372036854775807/\K (.sl d 0 l.toNat) [(d,.arr n (A0 l.toNat z))]):=rfl
def UL(lo hi mx:Option X):eff ok g ρ d (.slc n x lo hi mx) K=rS K ρ n (g x) (lo.map g) (hi.map g) (mx.map g):=rfl
def Mj:rS K ρ n (.lst f w xs) lo hi none=
 (w=n/\bOk lo/\bOk hi/\bV lo 0<=bV hi xs.length/\bV hi xs.length<=xs.length/\K (.lst f n (sub xs (bV lo 0) (bV hi xs.length-bV lo 0))) []):=rfl
def Kn(m:AV):rS K ρ n (.lst f w xs) lo hi (some m)=
 (w=n/\bOk lo/\bOk hi/\bV lo 0<=bV hi xs.length/\bV hi xs.length<=xs.length/\hi.isSome/\bOk (some m)/\bV (some m) 0=bV hi xs.length/\K (.tg f n (sub xs (bV lo 0) (bV hi xs.length-bV lo 0))) []):=rfl
def Xu(mx:Option AV):rS K ρ n (.sl r i m) lo hi mx=
 ((∃es,ρ r=some (.arr n es))/\bOk lo/\bOk hi/\bV lo 0<=bV hi m/\bV hi m<=m/\mx=none/\K (.sl r (i+bV lo 0) (bV hi m-bV lo 0)) []):=rfl
def abw(s:ByteArray):VU K (.sc (.string s)) lo hi=
 (bOk lo/\bOk hi/\bV lo 0<=bV hi s.size/\bV hi s.size<=s.size/\K (.sc (.string (s.extract (bV lo 0) (bV hi s.size)))) []):=rfl
def LO:bOk none=True:=rfl
def aiv(q:IntKind)(j:Int):bOk (some (.sc (.int q j)))=(0<=j):=rfl
def TP:bV none n=n:=rfl
def bV_i(q:IntKind)(j:Int):bV (some (.sc (.int q j))) n=j.toNat:=rfl
def Uu:eff ok g ρ d (.fad off x) K=nu K ρ off (g x):=rfl
def WB:nu K ρ off (.bp f y o)=K (.bp f y (o+off)) []:=rfl
def Xm:nu K ρ off (.pt r i o)=(cM (ρ r)/\K (.pt r i (o+off)) []):=rfl
def TD(i:X):eff ok g ρ d (.idx n x i) K=lf K ρ n (g x) (g i):=rfl
def XZ(i:X):eff ok g ρ d (.idv av n x i) K=(iPt av (g x)/\lf K ρ n (g x) (g i)):=rfl
def afy:iPt av (.sl r i n)=(r∉av):=rfl
def Vg:iPt av (.lst f n xs)=True:=rfl
def abg:lPt av (.pt r i off)=(r∉av):=rfl
def abm:lPt av (.bp f y off)=True:=rfl
def Tm:eff ok g ρ d (.lnv av x) K=(iPt av (g x)/\mH K ρ (g x)):=rfl
def VL(v:X):eff ok g ρ d (.stw r n x v) K=(wPt r ρ (g x)/\ed K ρ n (g x) (g v)):=rfl
def aft:wPt r ρ (.pt q i off)=(q=r/\Dr (ρ q)):=rfl
def RX(q:IntKind)(j:Int):lf K ρ n (.lst f w xs) (.sc (.int q j))=(w=n/\0<=j/\opt xs[j.toNat]? (adr K f.als)):=rfl
def Xk:adr K f y=K (.bp f y 0) []:=rfl
def aib:Fl.als .o=.o:=rfl
def ahu:Fl.als .s=.s:=rfl
def ahr:Fl.als .m=.m:=rfl
def ahi:Fl.als .u=.m:=rfl
def Yg(a:Nat)(q:IntKind)(j:Int):lf K ρ n (.sl r a m) (.sc (.int q j))=((∃es,ρ r=some (.arr n es))/\0<=j/\j<m/\K (.pt r (a+j.toNat) 0) []):=rfl
def Va:eff ok g ρ d (.fld off n ag x) K=Bm K off n ag (g x):=rfl
def Rv:Bm K off n ag (.agg cs)=opt (part (.agg cs) off n ag) (k1 K):=by simp[Bm,AV.isAgg]
def QE(i:X):eff ok g ρ d (.stri x i) K=sL K (g x) (g i):=rfl
def US(s:ByteArray)(q:IntKind)(j:Int):sL K (.sc (.string s)) (.sc (.int q j))=(0<=j/\opt s[j.toNat]? (ady K)):=rfl
def Vy(c:UInt8):ady K c=K (.sc (.int .u8 c.toNat)) []:=rfl
def TM:eff ok g ρ d (.ext x j) K=CJ K (g x) j:=rfl
def Ld(vs:List AV):CJ K (.tup vs) j=opt vs[j]? (k1 K):=rfl
def Rp(f:Nat)(xs:List X):eff ok g ρ d (.call f xs) K=gR ok ρ d f (xs.map g) K:=rfl
def UD(xs:List X):eff ok g ρ d (.dyn x xs) K=zC ok ρ d (g x) (xs.map g) K:=rfl
def IQ(f:Nat)(xs:List X):eff ok g ρ d (.callM f xs rs) K=callM ok ρ d f (xs.map g) rs K:=rfl
def Qw(xs:List X):eff ok g ρ d (.dynM x xs rs) K=rv ok ρ d (g x) (xs.map g) rs K:=rfl
def NV(f:Nat):rv ok ρ d (.fn f cs) xs rs K=callM ok ρ d f (xs++cs) rs K:=rfl
def XF(f:Nat):zC ok ρ d (.fn f cs) xs K=gR ok ρ d f (xs++cs) K:=rfl
def TU:eff ok g ρ d (.len x) K=mH K ρ (g x):=rfl
def Oz:mH K ρ (.lst f n xs)=K (.sc (.int .i64 xs.length)) []:=rfl
def Tn:mH K ρ (.tg f n xs)=K (.sc (.int .i64 xs.length)) []:=rfl
def TY:mH K ρ (.sl r i n)=((∃w es,ρ r=some (.arr w es))/\K (.sc (.int .i64 n)) []):=rfl
def OX:eff ok g ρ d (.lenz x) K=rL K (g x):=rfl
def QY:eff ok g ρ d (.capn x) K=sR K (g x):=rfl
def Vp:sR K (.lst .u n [])=K (.i 0) []:=rfl
def Xb(hi:X):eff ok g ρ d (.slg n x hi) K=Cw K n (g x) (g hi):=rfl
def aem(k:IntKind)(h:Int):Cw K n (.lst .u w []) (.sc (.int k h))=(w=n/\h=0/\K (.lst .u n []) []):=rfl
def Vu(l:X):eff ok g ρ d (.apz n z bytes x l) K=Ik K (ρ d) d n z bytes (g x) (g l):=rfl
def ack(o:Option Row)(l:Int):Ik K o d n z bytes (.lst .u w []) (.sc (.int .i64 l))=(o=none/\w=n/\z.width=n/\n=1/\0<l/\l*bytes<=140737488355328/\K (.sl d 0 l.toNat) [(d,.arr n (A0 l.toNat z))]):=rfl
def Xx(s:ByteArray):rL K (.sc (.string s))=K (.sc (.int .i64 s.size)) []:=rfl
def VG:eff ok g ρ d (.b2s x) K=DB K ρ (g x):=rfl
def LT:DB K ρ (.lst f n xs)=(n=1/\opt (u8s xs) (Nd K)):=rfl
def XU:DB K ρ (.sl r i n)=zT K (ρ r) i n:=rfl
def JH:zT K (some (.arr w es)) i m=(w=1/\opt (u8s (sub es i m)) (Nd K)):=rfl
def Wg(ns:List Int):Nd K ns=K (.sc (.string (b2s ns))) []:=rfl
def VY:eff ok g ρ d (.isn neg x) K=Af K ρ neg (g x):=rfl
def Ss:Af K ρ neg (.lst f n xs)=ur K neg xs.isEmpty:=rfl
def Ux:Af K ρ neg (.tg f n xs)=ur K neg xs.isEmpty:=rfl
def TJ:Af K ρ neg (.sl r i n)=((∃w es,ρ r=some (.arr w es))/\ur K neg (n==0)):=rfl
def Te(e:Bool):ur K neg e=K (cond e .ub (.sc (.bool neg))) []:=rfl
def ada(x:AV):cond true AV.ub x=AV.ub:=rfl
def agb(x:AV):cond false AV.ub x=x:=rfl
def Iu{α β:Type}(f:α->β)(xs:List α):(xs.map f).isEmpty=xs.isEmpty:=List.isEmpty_map
def Yk:acb K ρ n (.sl r i m) y=opt (eD n ρ y) (Xw K (ρ r) r n i m):=rfl
def Qq:Xw K (some (.arr w es)) r n i m ys=(w=n/\i+m+ys.length<=es.length/\K (.sl r i (m+ys.length)) [(r,.arr w (dz es (i+m) ys))]):=rfl
def Uq(lo hi mx:AV):acg K ρ n (.sl r i m) lo hi mx=Ej K (ρ r) n m lo hi mx:=rfl
def GJ(k1 k2 k3:IntKind)(l h q:Int):Ej K (some (.arr w es)) n m (.sc (.int k1 l)) (.sc (.int k2 h)) (.sc (.int k3 q))=(w=n/\0<=l/\l<=h/\h<=q/\q<=(m:Int)/\K .top []):=rfl
def Wb:Ls K ρ n (.sl r i m) lo hi=Ap K (ρ r) r n i m lo hi:=rfl
def Ky:Ap K (some (.arr w es)) r n i m lo hi=
 (w=n/\bOk lo/\bOk hi/\bV lo 0<=bV hi m/\i+bV hi m<=es.length/\K (.sl r (i+bV lo 0) (bV hi m-bV lo 0)) []):=rfl
def Xi:eff ok g ρ d (.clr n z x) K=Kh K ρ n z (g x):=rfl
def Uc:Kh K ρ n z (.sl r i m)=yp K (ρ r) r n z i m:=rfl
def Iq:yp K (some (.arr w es)) r n z i m=(w=n/\z.width=n/\K (.tup []) [(r,.arr w (dz es i (A0 m z)))]):=rfl
def Vx(y:X):eff ok g ρ d (.cpy n x y) K=Kp K ρ n (g x) (g y):=rfl
def Tl:Kp K ρ n (.sl r i m) y=opt (eD n ρ y) (yK K (ρ r) r n i m):=rfl
def Ib:yK K (some (.arr w es)) r n i m ys=(w=n/\K (.sc (.int .i64 (min ys.length m:Nat))) [(r,.arr w (dz es i (ys.take (min ys.length m))))]):=rfl
def WS(y:X):eff ok g ρ d (.app n bytes mv x y) K=wz K ρ d n bytes mv (g x) (g y):=rfl
def Uk:wz K ρ d n bytes mv (.sl r i m) y=(ρ d=none/\opt (oz ρ n mv y) (sM K (ρ r) d n bytes r i m)):=rfl
def Vh:wz K ρ d n bytes mv (.tg f w es) y=(ρ d=none/\opt (oz ρ n mv y) (zF K d n bytes w es)):=rfl
def Sb:zF K d n bytes w es (ys,u)=
 (w=n/\0<ys.length/\(es.length+ys.length)*bytes<=140737488355328/\K (.sl d 0 (es.length+ys.length)) (u++[(d,.arr n (es.map AV.als++ys))])):=by simp[zF,jI]
def Xp:oz ρ n true (.sl r 0 m)=yo n r m (ρ r):=rfl
def Kj:yo n r m (some (.arr w ys))=if w=n/\m=ys.length then some (ys,[(r,.dead)]) else none:=rfl
def XT:oz ρ n false y=mW (eD n ρ y):=rfl
def BE:mW (some ys)=some (ys,[]):=rfl
def Ix:eD n ρ (.lst f w xs)=if w=n then some xs else none:=rfl
def Oh:eD n ρ (.tg f w xs)=if w=n then some xs else none:=rfl
def OW:eD n ρ (.sl r i k)=nU n (ρ r) i k:=rfl
def AL:nU n (some (.arr w es)) i k=if w=n then some ((sub es i k).map AV.als) else none:=by simp[nU,jI]
def Gx:sM K (some (.arr w es)) d n bytes r i m (ys,u)=
 (w=n/\r∉u.map (·.1)/\(m+ys.length)*bytes<=140737488355328/\K (.sl d 0 (m+ys.length)) ((r,.dead)::u++[(d,.arr n (sub es i m++ys))])):=rfl
def Qa:eff ok g ρ d (.nilc x) K=ux K ρ (g x):=rfl
def TL:ux K ρ (.bp f y o)=K (.bp f y o) []:=rfl
def Ue:ux K ρ (.pt r i o)=(cM (ρ r)/\K (.pt r i o) []):=rfl
def acd(y:X):eff ok g ρ d (.mn x y) K=eMn K (g x) (g y):=rfl
def agy:eMn K (.sc (.int .i64 a)) (.sc (.int .i64 b))=K (.sc (.int .i64 (if b<a then b else a))) []:=by simp[eMn]
def aeu(y:X):eff ok g ρ d (.mx x y) K=eMx K (g x) (g y):=rfl
def aik:eMx K (.sc (.int .i64 a)) (.sc (.int .i64 b))=K (.sc (.int .i64 (if a<b then b else a))) []:=by simp[eMx]
def VO(K:AV->Prop)(k:IntKind):dI .add (.sc (.int k a)) (.sc (.int k b)) K=K (.sc (.int k (k.wrap (a+b)))):=by simp[dI,eA,ofI]
def WZ(K:AV->Prop)(k:IntKind):dI .sub (.sc (.int k a)) (.sc (.int k b)) K=K (.sc (.int k (k.wrap (a-b)))):=by simp[dI,eA,ofI]
def Wo(K:AV->Prop)(k:IntKind):dI .mul (.sc (.int k a)) (.sc (.int k b)) K=K (.sc (.int k (k.wrap (a*b)))):=by simp[dI,eA,ofI]
def Wm(K:AV->Prop)(k:IntKind):dI .quo (.sc (.int k a)) (.sc (.int k b)) K=(b≠0/\K (.sc (.int k (k.wrap (a.tdiv b))))):=by simp[dI,eA,ofI]
def Ya(K:AV->Prop)(k:IntKind):dI .rem (.sc (.int k a)) (.sc (.int k b)) K=(b≠0/\K (.sc (.int k (a.tmod b)))):=by simp[dI,eA]
def UC(K:AV->Prop)(k:IntKind):dI .and (.sc (.int k a)) (.sc (.int k b)) K=K (.sc (.int k (bits .and k a b))):=by simp[dI,eA]
def adx(K:AV->Prop)(k:IntKind):dI .or (.sc (.int k a)) (.sc (.int k b)) K=K (.sc (.int k (bits .or k a b))):=by simp[dI,eA]
def TI(K:AV->Prop)(k:IntKind):dI .xor (.sc (.int k a)) (.sc (.int k b)) K=K (.sc (.int k (bits .xor k a b))):=by simp[dI,eA]
def Bp(K:AV->Prop)(k:IntKind):dI .andNot (.sc (.int k a)) (.sc (.int k b)) K=K (.sc (.int k (bits .andNot k a b))):=by simp[dI,eA]
def Ym(K:AV->Prop)(k:IntKind):dI .eql (.sc (.int k a)) (.sc (.int k b)) K=K (.sc (.bool (a==b))):=by simp[dI,eA]
def XP(K:AV->Prop)(k:IntKind):dI .neq (.sc (.int k a)) (.sc (.int k b)) K=K (.sc (.bool (a !=b))):=by simp[dI,eA]
def We(K:AV->Prop)(k:IntKind):dI .lss (.sc (.int k a)) (.sc (.int k b)) K=K (.sc (.bool (decide (a<b)))):=by simp[dI,eA]
def Wh(K:AV->Prop)(k:IntKind):dI .leq (.sc (.int k a)) (.sc (.int k b)) K=K (.sc (.bool (decide (a<=b)))):=by simp[dI,eA]
def VH(K:AV->Prop)(k:IntKind):dI .gtr (.sc (.int k a)) (.sc (.int k b)) K=K (.sc (.bool (decide (b<a)))):=by simp[dI,eA]
def VN(K:AV->Prop)(k:IntKind):dI .geq (.sc (.int k a)) (.sc (.int k b)) K=K (.sc (.bool (decide (b<=a)))):=by simp[dI,eA]
def VF(K:AV->Prop)(k k':IntKind):dI .shl (.sc (.int k a)) (.sc (.int k' b)) K=fg .shl k a b K:=by simp[dI]
def WQ(K:AV->Prop)(k k':IntKind):dI .shr (.sc (.int k a)) (.sc (.int k' b)) K=fg .shr k a b K:=by simp[dI]
def ahp(K:AV->Prop)(k:IntKind):fg .shl k a b K=(0<=b/\K (.sc (.int k (k.wrap (a*2^(min b.toNat k.bits)))))):=by simp[fg,ofI]
def aja(K:AV->Prop)(k:IntKind):fg .shr k a b K=(0<=b/\K (.sc (.int k (a.fdiv (2^(min b.toNat k.bits)))))):=by simp[fg]
def MO(K:AV->Prop)(a b:ByteArray):dI .add (.sc (.string a)) (.sc (.string b)) K=(a.size+b.size<=9223372036854775807/\K (.sc (.string (a++b)))):=rfl
def So(K:AV->Prop)(a b:ByteArray):dI .eql (.sc (.string a)) (.sc (.string b)) K=K (.sc (.bool (a.toList==b.toList))):=rfl
def Qt(K:AV->Prop)(a b:ByteArray):dI .neq (.sc (.string a)) (.sc (.string b)) K=K (.sc (.bool (!(a.toList==b.toList)))):=rfl
def abs(K:AV->Prop)(k:IntKind):unV .neg (.sc (.int k a)) K=K (.sc (.int k (k.wrap (0-a)))):=by simp[unV,ofI]
def agw(K:AV->Prop)(a:Bool):unV .not (.sc (.bool a)) K=K (.sc (.bool (!a))):=rfl
def RU{α:Type}(x:α)(K:α->Prop):opt (some x) K=K x:=rfl
def Hb(K:St->Prop):dV ok [] K σ=K σ:=rfl
def CZ(K:St->Prop)(d:Option Nat)(o:AOp)(os:List br):dV ok (⟨d,o,none⟩::os) K σ=eff ok σ.gx σ.row (d.getD 0) o (Tu d (dV ok os K) σ):=rfl
def Cu(K:St->Prop)(d:Option Nat)(o:AOp)(w:Bool)(os:List br):dV ok (⟨d,o,some (s,w)⟩::os) K σ=
 fD σ s w (σ.get s) (Cs ok d o (dV ok os K)) (MW d (dV ok os K)):=rfl
def Ys(K:St->Prop)(mids:List (Nat×X))(f:Nat)(xs:List X):stH ok (.inn t n k x mids d f xs) K σ=OT ok K σ (rl mids (σ.app (some t) .top [])) t n k d f xs (σ.gx x):=rfl
def XQ(K:St->Prop)(f:Nat)(xs:List X):stH ok (.har d f xs rs) K σ=(σ.fz=true/\callM ⟨ok.p,ok.h,ok.h⟩ σ.row d f (xs.map σ.gx) rs (adf d K σ)):=rfl
def Wt(K:St->Prop)(v:AV):adf d K σ v u=K (σ.app (some d) v u):=rfl
def KU:rl [] σ=σ:=rfl
def Hw(ms:List (Nat×X)):rl ((d,x)::ms) σ=rl ms (σ.app (some d) (σ.gx x) []):=rfl
def Yj(K:St->Prop)(f:Nat)(xs:List X)(τ:St):OT ok K σ τ t n k d f xs (.pt r i off)=ND ok K τ t n k d f xs r i off (σ.row r):=rfl
def Nz(K:St->Prop)(f:Nat)(xs:List X):ND ok K σ t n k d f xs r i off (some (.arr w es))=(w=n/\opt es[i]? fun y=>opt (part y off 1 false) (Rt ok K σ t n k d f xs r i off es y)):=rfl
def PA(K:St->Prop)(f:Nat)(xs:List X):Rt ok K σ t n k d f xs r i off es y (.lst .u w ys)=(w=k/\aes ok K σ t n k d f xs r i off es y ys):=rfl
def abn(len:Nat):uH σ t len (.t j)=if j=t then .sl 1000000000 0 len else σ.get j:=rfl
def acj(len:Nat)(a:AV):uH σ t len (.c a)=a:=rfl
def OD:vV σ t (.t j)=(j=t\/(σ.get j).ments=[]):=rfl
def KT(a:AV):vV σ t (.c a)=(a.ments=[]):=rfl
def Xq(K:St->Prop)(d:Option Nat)(o:AOp):Cs ok d o K σ=eff ok σ.gx σ.row (d.getD 0) o (Tu d K σ):=rfl
def TX(K:St->Prop)(d:Option Nat):MW d K σ=K (σ.app d (.tup []) []):=rfl
def DK(K:St->Prop)(d:Option Nat)(v:AV):Tu d K σ v u=K (σ.app d v u):=rfl
def WX:DH Q can σ=Q .nrm (σ.can can):=rfl
def HM:fD σ s true (.sc (.bool true)) A B=A (σ.know s true):=by simp[fD]
def GN:fD σ s true (.sc (.bool false)) A B=B (σ.know s false):=by simp[fD]
def GC:fD σ s false (.sc (.bool true)) A B=B (σ.know s true):=by simp[fD]
def HL:fD σ s false (.sc (.bool false)) A B=A (σ.know s false):=by simp[fD]
def MB(w:Bool):fD σ s w (.tup []) A B=B σ:=rfl
def VC:σ.can []=σ:=rfl
def NH:σ.can (.s d::ds)=(σ.canV d (σ.get d)).can ds:=rfl
def Hz:σ.can (.f far d r j::ds)=(σ.canG far d r j (ik j (az r σ.rows))).can ds:=rfl
def IA:σ.can (.r d::ds)=(σ.canW d (σ.get d)).can ds:=rfl
def Ur:σ.canW d (.sl r i n)=σ.canSr d r i n:=rfl
def Lg:σ.canW d (.lst .u n [])=σ.canNil d n:=rfl
def abq:σ.canW d (.lst .o n xs)=σ:=rfl
def aee:σ.canW d (.lst .m n xs)=σ:=rfl
def ach:σ.canW d (.lst .s n xs)=σ:=rfl
def afk:σ.canG far d r j (.lst .o n xs)=σ:=rfl
def aet:σ.canG far d r j (.lst .m n xs)=σ:=rfl
def agl:σ.canG far d r j (.lst .s n xs)=σ:=rfl
def GT:σ.can (.z d::ds)=(σ.canZ d (σ.get d)).can ds:=rfl
def Yr:σ.canZ d (.sl r i m)=σ.canZr d i m r (az r σ.rows):=rfl
def PJ:σ.canZ d (.lst f n xs)=σ:=rfl
def Nc:σ.canZ d (.agg cs)=σ.canZc d cs 0 cs:=rfl
def IC:σ.canZc d all j []=σ:=by unfold St.canZc;rfl
def NC:σ.canZc d all j (.sl r i m::cs)=σ.canZcr d all j r i m (az r σ.rows):=by rw[St.canZc]
def Gf:σ.canZc d all j (.lst f n xs::cs)=σ.canZc d all (j+1) cs:=by rw[St.canZc];intros;contradiction
def Ov:σ.canZc d all j (.sc v::cs)=σ.canZc d all (j+1) cs:=by rw[St.canZc];intros;contradiction
def GI:St.canZcr ⟨env,rows⟩ d all j r i m (some (.arr q es))=⟨put d (.agg (ip all j (.lst .m q (dA (sub es i m))))) env,put r .dead rows⟩:=rfl
def IG:σ.can (.e far d k j::ds)=(σ.canE far d k j (ik j (some (.var (σ.get k))))).can ds:=rfl
def Vi:St.canE ⟨env,rows⟩ far d k j (.sl q i m)=if q=d\/far=false/\1000000000<=q then⟨env,rows⟩ else⟨(env.map fun p=>(p.1,p.2.hush d)).map fun p=>(p.1,p.2.ren q d),((del d rows).map fun p=>(p.1,p.2.hush d)).map fun p=>(if p.1=q then d else p.1,p.2.map (·.ren q d))⟩:=rfl
def Ly:St.canE ⟨env,rows⟩ far d k j (.lst .u m [])=St.canEN ⟨env,rows⟩ d k j m (az k (env.map fun p=>(p.1,p.2.hush d))):=rfl
def aeh:σ.canE far d r j (.lst .o n xs)=σ:=rfl
def agt:σ.canE far d r j (.lst .m n xs)=σ:=rfl
def aep:σ.canE far d r j (.lst .s n xs)=σ:=rfl
def KB:St.canEN ⟨env,rows⟩ d k j m (some (.agg cs))=⟨put k (.agg (ip cs j (.sl d 0 0))) (env.map fun p=>(p.1,p.2.hush d)),put d (.arr m []) ((del d rows).map fun p=>(p.1,p.2.hush d))⟩:=rfl
def Ie:σ.can (.w r::ds)=(σ.canX r (az r σ.rows)).can ds:=rfl
def RZ:St.canX ⟨env,rows⟩ r (some (.arr n es))=⟨env,put r (.arr n (es.map AV.als)) rows⟩:=by simp[St.canX,jI]
def Hq:σ.canX r none=σ:=rfl
def Pt:σ.canX r (some (.var (.agg cs)))=σ.canXc r cs 0 cs:=rfl
def Kq:σ.canXc r all j []=σ:=by unfold St.canXc;rfl
def RF:σ.canXc r all j (.sl q i m::cs)=σ.canXcr r all j q i m (az q σ.rows):=by rw[St.canXc]
def Dc:σ.canXc r all j (.lst .o n xs::cs)=σ.canXc r all (j+1) cs:=by rw[St.canXc]<;>(intros;simp_all)
def CQ:σ.canXc r all j (.lst .m n xs::cs)=σ.canXc r all (j+1) cs:=by rw[St.canXc]<;>(intros;simp_all)
def BM:σ.canXc r all j (.lst .s n xs::cs)=σ.canXc r all (j+1) cs:=by rw[St.canXc]<;>(intros;simp_all)
def Br:σ.canXc r all j (.lst .u n []::cs)=⟨σ.env,put r (.var (.agg (ip all j (.lst .m n [])))) σ.rows⟩:=by rw[St.canXc]
def Sp:σ.canXc r all j (.sc v::cs)=σ.canXc r all (j+1) cs:=by rw[St.canXc]<;>(intros;contradiction)
def JJ:St.canXcr ⟨env,rows⟩ r all j q i m (some (.arr k es))=⟨env,put r (.var (.agg (ip all j (.lst .m k (dA (sub es i m)))))) (put q .dead rows)⟩:=rfl
def Hf:σ.canX r (some .dead)=σ:=rfl
def BA:ik j (some (.var (.agg cs)))=uC cs j:=rfl
def FY:ik 0 (some (.var (.sl q i m)))=.sl q i m:=rfl
def BV:ik 0 (some (.var (.lst f m xs)))=.lst f m xs:=rfl
def abo(x:AV):uC (x::xs) 0=x:=rfl
def afn(x:AV):uC (x::xs) (j+1)=uC xs j:=rfl
def adg(x:AV):ip (x::xs) 0 y=y::xs:=rfl
def acy(x:AV):ip (x::xs) (j+1) y=x::ip xs j y:=rfl
def Uw:St.canG ⟨env,rows⟩ far d r j (.sl q i m)=if q=d\/far=false/\1000000000<=q then⟨env,rows⟩ else⟨(env.map fun p=>(p.1,p.2.hush d)).map fun p=>(p.1,p.2.ren q d),((del d rows).map fun p=>(p.1,p.2.hush d)).map fun p=>(if p.1=q then d else p.1,p.2.map (·.ren q d))⟩:=rfl
def NK:St.canG ⟨env,rows⟩ far d r j (.lst .u m [])=St.canFN ⟨env,rows⟩ d r j m (az r ((del d rows).map fun p=>(p.1,p.2.hush d))):=rfl
def PK:St.canFN ⟨env,rows⟩ d r j m (some (.var (.lst .u k [])))=⟨env.map fun p=>(p.1,p.2.hush d),put d (.arr m []) (put r (.var (.sl d 0 0)) ((del d rows).map fun p=>(p.1,p.2.hush d)))⟩:=rfl
def QW:St.canFN ⟨env,rows⟩ d r j m (some (.var (.agg cs)))=⟨env.map fun p=>(p.1,p.2.hush d),put d (.arr m []) (put r (.var (.agg (ip cs j (.sl d 0 0)))) ((del d rows).map fun p=>(p.1,p.2.hush d)))⟩:=rfl
def Ta:σ.canV d (.sl r i n)=σ.canSl d r i n:=rfl
def QJ:σ.canV d (.lst .u n [])=σ.canNil d n:=rfl
def abb:σ.canV d (.lst .o n xs)=σ:=rfl
def aax:σ.canV d (.lst .m n xs)=σ:=rfl
def abt:σ.canV d (.lst .s n xs)=σ:=rfl
def adm:St.get ⟨env,rows⟩ k=(az k env).getD .top:=rfl
def aed:St.row ⟨env,rows⟩ k=az k rows:=rfl
def gx_t:σ.gx (.t n)=σ.get n:=rfl
def gx_c(a:AV):σ.gx (.c a)=a:=rfl
def ze(v:AV):St.app ⟨env,rows⟩ (some d) v u=⟨put d v env,bi u rows⟩:=rfl
def zw(v:AV):St.app ⟨env,rows⟩ none v u=⟨env,bi u rows⟩:=rfl
def td:bi [] rows=rows:=rfl
def pK(p:Nat×Row):bi (p::u) rows=bi u (put p.1 p.2 rows):=rfl
def Yl(b:Bool):St.know ⟨env,rows⟩ s b=⟨put s (.sc (.bool b)) env,rows⟩:=rfl
def KK{α:Type}:az k ([]:List (Nat×α))=none:=rfl
def HF{α:Type}(x:α)(l:List (Nat×α)):az k ((j,x)::l)=if j=k then some x else az k l:=rfl
def FI{α:Type}(x:α):put k x []=[(k,x)]:=rfl
def yl{α:Type}(x y:α)(l:List (Nat×α)):put k x ((j,y)::l)=if j=k then(k,x)::l else(j,y)::put k x l:=rfl
def TE{α:Type}:del k ([]:List (Nat×α))=[]:=rfl
def MN{α:Type}(x:α)(l:List (Nat×α)):del k ((j,x)::l)=if j=k then del k l else(j,x)::del k l:=rfl
def getD_some{α:Type}(x y:α):(some x).getD y=x:=rfl
def Jv{α:Type}(y:α):(none:Option α).getD y=y:=rfl
def Mq:St.canSr ⟨env,rows⟩ d r i n=if r=d then⟨env,rows⟩ else
 ⟨put d (.sl d i n) ((env.map fun p=>(p.1,p.2.hush d)).map fun p=>(p.1,p.2.ren r d)),
  ((del d rows).map fun p=>(p.1,p.2.hush d)).map fun p=>(if p.1=r then d else p.1,p.2.map (·.ren r d))⟩:=rfl
def RE:St.canZr ⟨env,rows⟩ d i m r (some (.arr q es))=⟨put d (.lst .m q (dA (sub es i m))) env,put r .dead rows⟩:=rfl
def Rq:St.canSl ⟨env,rows⟩ d r i n=if r=d\/1000000000<=r then⟨env,rows⟩ else
 ⟨put d (.sl d i n) ((env.map fun p=>(p.1,p.2.hush d)).map fun p=>(p.1,p.2.ren r d)),
  ((del d rows).map fun p=>(p.1,p.2.hush d)).map fun p=>(if p.1=r then d else p.1,p.2.map (·.ren r d))⟩:=rfl
def Jo:St.canNil ⟨env,rows⟩ d n=
 ⟨put d (.sl d 0 0) (env.map fun p=>(p.1,p.2.hush d)),put d (.arr n []) ((del d rows).map fun p=>(p.1,p.2.hush d))⟩:=rfl
def adz:σ.res lv lr=⟨lv.map fun k=>(k,σ.get k),lr.map fun r=>(r,(σ.row r).getD .dead)⟩:=rfl
def QH:σ.resOk lv lr=((∀k∈lv,∀r∈(σ.get k).ments,r∈lr)/\(∀q∈lr,∀r∈((σ.row q).getD .dead).ments,r∈lr)/\lr.Nodup):=rfl
def IP(x:AV):Row.hush r (.var x)=if r∈x.ments then .dead else .var x:=rfl
def JM(x:List AV):Row.hush r (.arr n x)=.arr n x:=rfl
def Ds:Row.hush r .dead=.dead:=rfl
def Lm(h:AV->AV)(x:AV):Row.map h (.var x)=.var (h x):=rfl
def MA(h:AV->AV)(x:List AV):Row.map h (.arr n x)=.arr n x:=rfl
def Gp(h:AV->AV):Row.map h .dead=.dead:=rfl
def Dj(x:AV):Row.ments (.var x)=x.ments:=rfl
def Bq(x:List AV):Row.ments (.arr n x)=[]:=rfl
def AX:Row.ments .dead=[]:=rfl
def WV(a:AV):a.hush r=if r∈a.ments then .top else a:=rfl
def MH:(AV.sc v).ments=[]:=by simp[AV.ments]
def HZ(x:List AV):(AV.lst f n x).ments=[]:=by simp[AV.ments]
def LU(x:List AV):(AV.tg f n x).ments=[]:=by simp[AV.ments]
def NG(x:AV):(AV.bp f x n).ments=[]:=by simp[AV.ments]
def Ju:AV.top.ments=[]:=by simp[AV.ments]
def Pi:(AV.sl r i n).ments=[r]:=by simp[AV.ments]
def Nx:(AV.pt r i n).ments=[r]:=by simp[AV.ments]
def JL:(AV.agg cs).ments=aK cs:=by simp[AV.ments]
def Mg(f:Nat):(AV.fn f cs).ments=aK cs:=by simp[AV.ments]
def GP:(AV.tup cs).ments=aK cs:=by simp[AV.ments]
def BW:aK []=[]:=by simp[aK]
def AI(c:AV):aK (c::cs)=c.ments++aK cs:=by simp[aK]
theorem pM:St.fz ⟨env,rows⟩=(env.all (fun p=>p.2.fz)&&rows.all (fun p=>p.2.fz)):=rfl
theorem dU:(AV.sc v).fz=true:=by simp[AV.fz]
theorem ck:(AV.lst .o n xs).fz=fzL xs:=by simp[AV.fz]
theorem kY(x:AV):(AV.bp .o x n).fz=x.fz:=by simp[AV.fz]
theorem cY:(AV.agg cs).fz=fzL cs:=by simp[AV.fz]
theorem lj:(AV.tup cs).fz=fzL cs:=by simp[AV.fz]
theorem pW(f:Nat):(AV.fn f cs).fz=fzL cs:=by simp[AV.fz]
theorem pT:(AV.sl r i n).fz=true:=by simp[AV.fz]
theorem pR:(AV.pt r i n).fz=true:=by simp[AV.fz]
theorem lg:AV.top.fz=true:=by simp[AV.fz]
theorem cm:fzL []=true:=by simp[fzL]
theorem bK(c:AV):fzL (c::cs)=(c.fz&&fzL cs):=by simp[fzL]
theorem dS:(AV.sc v).ouB=true:=by simp[AV.ouB]
theorem cg:(AV.lst .u n xs).ouB=gk xs:=by simp[AV.ouB]
theorem iU:(AV.lst .o n xs).ouB=fzL xs:=by simp[AV.ouB]
theorem cZ:(AV.agg cs).ouB=gk cs:=by simp[AV.ouB]
theorem cn:gk []=true:=by simp[gk]
theorem bL(c:AV):gk (c::cs)=(c.ouB&&gk cs):=by simp[gk]
theorem ji(x:AV):(Row.var x).fz=x.fz:=rfl
theorem ja:(Row.arr n xs).fz=gk xs:=rfl
theorem gH:Row.dead.fz=true:=rfl
theorem cU(xs:List Int):fzL (xs.map AV.i)=true:=by induction xs<;>simp_all [fzL,AV.fz]
theorem cR(xs:List Bool):fzL (xs.map AV.b)=true:=by induction xs<;>simp_all [fzL,AV.fz]
theorem cQ(xs:List ByteArray):fzL (xs.map AV.z)=true:=by induction xs<;>simp_all [fzL,AV.fz]
theorem cS(xs:List Int):fzL (xs.map AV.u8)=true:=by induction xs<;>simp_all [fzL,AV.fz]
theorem ce(xs:List Int):fzL (xs.map AV.u64)=true:=by induction xs<;>simp_all [fzL,AV.fz]
theorem da(xs:List Int):gk (xs.map AV.u8)=true:=by induction xs<;>simp_all [gk,AV.ouB]
theorem ch(xs:List Int):gk (xs.map AV.u64)=true:=by induction xs<;>simp_all [gk,AV.ouB]
theorem cX(xs:List Int):gk (xs.map AV.i)=true:=by induction xs<;>simp_all [gk,AV.ouB]
theorem cV(xs:List Bool):gk (xs.map AV.b)=true:=by induction xs<;>simp_all [gk,AV.ouB]
theorem db(xs:List ByteArray):gk (xs.map AV.z)=true:=by induction xs<;>simp_all [gk,AV.ouB]
def Ca(x:AV):part x off n false=x.cells[off]?:=rfl
def Kk:part (.agg cs) off n true=if off+n<=cs.length then some (if off=0/\n=cs.length then .agg cs else .agg ((cs.drop off).take n)) else none:=by
 unfold part;by_cases h:off+n<=cs.length
 ·rw[if_pos rfl,if_pos ⟨rfl,h⟩,if_pos h];rfl
 ·rw[if_pos rfl,if_neg (fun e=>h e.2),if_neg h]
def xu:setPart (.agg cs) off (.sc v)=if off+1<=cs.length then some (.agg (fill cs off (.sc v))) else none:=rfl
def AR:setPart (.agg cs) off (.sl r i n)=if off+1<=cs.length then some (.agg (fill cs off (.sl r i n))) else none:=rfl
def xE:setPart (.agg cs) off (.lst f n xs)=if off+1<=cs.length then some (.agg (fill cs off (.lst f n xs))) else none:=rfl
def vN(vs:List AV):setPart (.agg cs) off (.agg vs)=if off=0/\vs.length=cs.length then some (.agg vs) else if off+vs.length<=cs.length then some (.agg (fill cs off (.agg vs))) else none:=rfl
def Cf(x:Value):setPart (.sc x) 0 (.sc v)=some (.sc v):=by simp[setPart,AV.isAgg,AV.width]
def Ak(f':Fl)(n':Nat)(xs':List AV):setPart (.lst f n xs) 0 (.lst f' n' xs')=some (.lst f' n' xs'):=by simp[setPart,AV.isAgg,AV.width]
def tY:setPart (.lst f n xs) 0 (.sl r i k)=some (.sl r i k):=by simp[setPart,AV.isAgg,AV.width]
def xN(r' i' k':Nat):setPart (.sl r' i' k') 0 (.sl r i k)=some (.sl r i k):=by simp[setPart,AV.isAgg,AV.width]
def GW:(AV.agg cs).cells=cs:=rfl
def RK:(AV.sc v).cells=[.sc v]:=rfl
def Hv:(AV.lst f n xs).cells=[.lst f n xs]:=rfl
def Lt:(AV.sl r i n).cells=[.sl r i n]:=rfl
def MJ(f:Nat):(AV.fn f cs).cells=[.fn f cs]:=rfl
def Hm:(AV.agg cs).width=cs.length:=rfl
def QT:(AV.sc v).width=1:=rfl
def IW:(AV.lst f n xs).width=1:=rfl
def Po:(AV.sl r i n).width=1:=rfl
def Ol(f:Nat):(AV.fn f cs).width=1:=rfl
def VJ(v:AV):fill cs off v=cs.take off++v.cells++cs.drop (off+v.cells.length):=rfl
def Ic:mM cs []=cs:=rfl
def CF(v:AV)(l:List (Nat×AV)):mM cs ((off,v)::l)=mM (fill cs off v) l:=rfl
def Xd(rs:List RV):fin rs res .ret σ=opt (RVs.val σ rs) fun xs=>(aK xs).Nodup/\lift σ.row 3 (iw xs)=res:=by
 simp only[fin,opt];cases RVs.val σ rs<;>simp
def Tf(rs:List RV):fin rs res .nrm σ=opt (RVs.val σ rs) fun xs=>(aK xs).Nodup/\lift σ.row 3 (iw xs)=res:=by
 simp only[fin,opt];cases RVs.val σ rs<;>simp
def agh(o:Option Row)(k:Nat)(ag:Bool):Option AV:=match o with
 |some (.var y)=>part y 0 k ag
 |_=>none
def rvC(σ:St)(a:AV)(k:Nat)(ag:Bool):Option AV:=match a with
 | .pt r 0 0=>agh (σ.row r) k ag
 |_=>none
def rv_t:RV.val σ (.t n)=some (σ.get n):=rfl
def rv_c:RV.val σ (.c n k ag)=rvC σ (σ.get n) k ag:=by simp only[RV.val];rfl
def afx:rvC σ (.pt r 0 0) k ag=agh (σ.row r) k ag:=rfl
def Su:agh (some (.var y)) k ag=part y 0 k ag:=rfl
def YD(x:Option AV)(xs:Option (List AV)):Option (List AV):=match x,xs with
 |some x,some xs=>some (x::xs)
 |_,_=>none
def Un:RVs.val σ []=some []:=rfl
def PC(r:RV)(rs:List RV):RVs.val σ (r::rs)=YD (r.val σ) (RVs.val σ rs):=by simp only[RVs.val];rfl
def BJ(x:AV):YD (some x) (some xs)=some (x::xs):=rfl
def MF(x:AV):iw [x]=x:=rfl
def Lr(x:AV)(l:List AV):iw (x::y::l)=.tup (x::y::l):=rfl
def KF(args:List AV):St.start args=⟨St.start.go 0 args,[]⟩:=rfl
def IX:St.start.go n []=[]:=rfl
def Db(a:AV)(l:List AV):St.start.go n (a::l)=(n,a)::St.start.go (n+1) l:=rfl
theorem dg(a:aq)(rs:List RV)(args:List AV):UA ok a rs args res=AWP ok a (fin rs res) (St.start args):=rfl
def fl1:Fl.als .u=.m:=rfl
def fl2:Fl.als .o=.o:=rfl
def fl3:Fl.als .s=.s:=rfl
def fl4:Fl.als .m=.m:=rfl
def fl5:Fl.fix .u=.u:=rfl
def fl6:Fl.fix .o=.s:=rfl
def fl7:Fl.fix .s=.s:=rfl
def fl8:Fl.fix .m=.m:=rfl
def rV{α β:Type}(f:α->β)(x:α)(l:List α):(x::l).map f=f x::l.map f:=rfl
def uZ{α β:Type}(f:α->β):[].map f=[]:=rfl
def II{α:Type}(l:List α):l++[]=l:=List.append_nil l
def vI{α:Type}(l:List α):[]++l=l:=rfl
def sO{α:Type}(x:α)(k l:List α):(x::k)++l=x::(k++l):=rfl
def Cj{α:Type}(x:α)(l:List α):(x::l).length=l.length+1:=rfl
def Ha{α:Type}:([]:List α).length=0:=rfl
def vA{α β:Type}(f:α->β)(l:List α):(l.map f).length=l.length:=List.length_map ..
def aek{α:Type}(x:α)(l:List α):(x::l)[0]?=some x:=rfl
def aex{α:Type}(x:α)(l:List α):(x::l)[n+1]?=l[n]?:=rfl
def KI{α β:Type}(f:α->β)(l:List α):(l.map f)[n]?=(l[n]?).map f:=List.getElem?_map ..
def Bt{α β:Type}(f:α->β)(x:α):(some x).map f=some (f x):=rfl
def Dw{α β:Type}(f:α->β):(none:Option α).map f=none:=rfl
def NB{α:Type}(l:List α):l.take 0=[]:=rfl
def OU{α:Type}(x:α)(l:List α):(x::l).take (n+1)=x::l.take n:=rfl
def Ob{α:Type}(l:List α):l.drop 0=l:=rfl
def RL{α:Type}(x:α)(l:List α):(x::l).drop (n+1)=l.drop n:=rfl
def Qf{α:Type}:([]:List α).drop n=[]:=List.drop_nil
def Ll{α:Type}:([]:List α).take n=[]:=List.take_nil
def Ty(l:List Int):u8s (l.map AV.u8)=some l:=by induction l<;>simp_all [u8s]
def Dt:((n:Int)).toNat=n:=rfl
def Oc{ok:Oks}{a:aq}{Q:Ex->St->Prop}{σ:St}(I:St->Prop)(μ:St->Nat)(h0:σ.resOk lv lr)(h1:I (σ.res lv lr))(h2:∀τ,I τ->AWP ok a (thn (fun τ'=>τ'.resOk lv lr/\I (τ'.res lv lr)/\μ (τ'.res lv lr)<μ τ) Q) τ):AWP ok (.loop a) Q σ:=by
 simp only[AWP];exact⟨lv,lr,I,μ,h0,h1,h2⟩
def Oi{ok:Oks}{ρ:Nat->Option Row}{d f:Nat}{args:List AV}{K:AV->List (Nat×Row)->Prop}{res:AV}(h:ok.p f (args.map (snp ρ 4)) res)(hu:res.allU)(hn:∀p∈(adopt 4 d res).2.1,ρ p.1=none/\p.1<1000000000)(hk:K (adopt 4 d res).1 (adopt 4 d res).2.1):gR ok ρ d f args K:=⟨res,h,.inl hu,hn,hk⟩
def MI{ok:Oks}{ρ:Nat->Option Row}{d f:Nat}{args:List AV}{K:AV->List (Nat×Row)->Prop}{v:Value}(h:ok.p f (args.map (snp ρ 4)) (.sc v))(hk:K (.sc v) []):gR ok ρ d f args K:=⟨.sc v,h,.inl (by simp[AV.allU]),by simp[nH],by simpa[nH] using hk⟩
def gm{ok:Oks}{ρ:Nat->Option Row}{d f:Nat}{args:List AV}{rs:List Nat}{K:AV->List (Nat×Row)->Prop}{res:AV}{outs:List (Nat×Row)}(h:ok.m f (args.map (AV.rg (cnm rs))) (rs.map (iy ρ rs)) res outs)(h1:rs.Nodup/\(∀r∈rs,cM (ρ r))/\(∀r∈rs,∀q∈ni (ρ r),q∈rs)/\(∀r∈aK args,r∈rs))(h2:(outs.map fun p=>bkn d rs p.1).Nodup/\(∀p∈outs,1000000000<=p.1->p.1-1000000000<rs.length)/\(∀p∈outs,p.1<1000000000->ρ (bkn d rs p.1)=none/\bkn d rs p.1<1000000000))(hk:K (res.rg (bkn d rs)) (cd rs++outs.map (dy d rs))):callM ok ρ d f args rs K:=⟨res,outs,h,h1,h2,hk⟩
def jr{α:Type}{e:α->AV}(h:∀x,(e x).fz=true)(xs:List α):fzL (xs.map e)=true:=by induction xs<;>simp_all [fzL]
def ju{α:Type}{e:α->AV}(h:∀x,(e x).ouB=true)(xs:List α):gk (xs.map e)=true:=by induction xs<;>simp_all [gk]
def ZD{ok:Oks}{K:St->Prop}{τ:St}{t n k d f:Nat}{xs:List X}{r i off:Nat}{es:List AV}{y:AV}{ys:List AV}{v:Value}{ys':List AV}{z:AV}(h:ok.m f (xs.map (uH τ t ys.length)) [(1000000000,.arr k ys)] (.sc v) [(1000000000,.arr k ys')])(hfl:ys.all AV.flat=true)(hfz:τ.fz=true)(harg:∀x∈xs,vV τ t x)(hfl':ys'.all AV.flat=true)(hz:setPart y off (.lst .u k ys')=some z)(hk:K (τ.app (some d) (.sc v) [(r,.arr n (es.set i z))])):aes ok K τ t n k d f xs r i off es y ys:=⟨hfl,hfz,harg,v,ys',h,hfl',by rw[hz];exact hk⟩
def ZI{A B:Prop}(a:A)(b:B):A/\B:=⟨a,b⟩
def VS1:=ZI @jY (ZI @jI (ZI @gI (ZI @agn (ZI @Uz (ZI @afg (ZI @Ye (ZI @agi (ZI @aco (ZI @afp (ZI @Ki (ZI @adc (ZI @Jw (ZI @Wu (ZI @NY (ZI @OL (ZI @KP (ZI @TF (ZI @CO (ZI @nH (ZI @Fm (ZI @Ei (ZI @FO (ZI @Ee (ZI @vh (ZI @vx (ZI @vu (ZI @ru (ZI @dN (ZI @fO (ZI @gf (ZI @ade (ZI @eL (ZI @fV (ZI @ga (ZI @fe (ZI @fu (ZI @ft (ZI @fd (ZI @eZ (ZI @eK (ZI @HI (ZI @Ko (ZI @vF (ZI @jU (ZI @jG (ZI @ie (ZI @Dp (ZI @Ii (ZI @Gd (ZI @GQ (ZI @Bw (ZI @sK (ZI @Wp (ZI @c_eq (ZI @ais (ZI @afl (ZI @UI (ZI @QC (ZI @aaz (ZI @abu (ZI @WM (ZI @Tq (ZI @OG (ZI @Qs (ZI @SF (ZI @afo (ZI @aen (ZI @aev (ZI @aih (ZI @ail (ZI @ahh (ZI @ahk (ZI @aej (ZI @abk (ZI @ahx (ZI @ahn (ZI @UG (ZI @oU (ZI @aao (ZI @Oy (ZI @YF (ZI @aaq (ZI @Lj @Mo)))))))))))))))))))))))))))))))))))))))))))))))))))))))))))))))))))))))))))))))))))
def VS2:=ZI @YS (ZI @Sy (ZI @YC (ZI @YX (ZI @DU (ZI @Ft (ZI @zU (ZI @yu (ZI @PV (ZI @Mf (ZI @SE (ZI @Bj (ZI @BO (ZI @Cb (ZI @DM (ZI @FL (ZI @afj (ZI @Tc (ZI @acp (ZI @aea (ZI @Tt (ZI @WU (ZI @acw (ZI @Vw (ZI @abe (ZI @adb (ZI @LY (ZI @Wj (ZI @WH (ZI @Og (ZI @XL (ZI @QB (ZI @ags (ZI @aci (ZI @abc (ZI @MC (ZI @Rm (ZI @ahl (ZI @acx (ZI @WO (ZI @XW (ZI @LQ (ZI @WW (ZI @Tp (ZI @adv (ZI @XN (ZI @Uy (ZI @abl (ZI @WI (ZI @afm (ZI @Ns (ZI @Uf (ZI @UJ (ZI @Hr (ZI @TB (ZI @FX (ZI @VE (ZI @CU (ZI @Cg (ZI @FJ (ZI @aie (ZI @RB (ZI @Qd (ZI @Mi (ZI @Ab (ZI @AD (ZI @LC (ZI @Gw (ZI @Jc (ZI @wN (ZI @SC (ZI @wW (ZI @Ps (ZI @HR (ZI @UQ (ZI @Ti (ZI @Wc (ZI @VI (ZI @abf (ZI @acf (ZI @afq (ZI @Wv (ZI @UR (ZI @XC @acm)))))))))))))))))))))))))))))))))))))))))))))))))))))))))))))))))))))))))))))))))))
def VS3:=ZI @abi (ZI @acq (ZI @Mc (ZI @Lc (ZI @Wr (ZI @VM (ZI @acr (ZI @agk (ZI @UT (ZI @acv (ZI @aaw (ZI @adh (ZI @Rz (ZI @Xc (ZI @Th (ZI @VW (ZI @ago (ZI @UL (ZI @Mj (ZI @Kn (ZI @Xu (ZI @abw (ZI @LO (ZI @aiv (ZI @TP (ZI @bV_i (ZI @Uu (ZI @WB (ZI @Xm (ZI @TD (ZI @XZ (ZI @afy (ZI @Vg (ZI @abg (ZI @abm (ZI @Tm (ZI @VL (ZI @aft (ZI @RX (ZI @Xk (ZI @aib (ZI @ahu (ZI @ahr (ZI @ahi (ZI @Yg (ZI @Va (ZI @Rv (ZI @QE (ZI @US (ZI @Vy (ZI @TM (ZI @Ld (ZI @Rp (ZI @UD (ZI @IQ (ZI @Qw (ZI @NV (ZI @XF (ZI @TU (ZI @Oz (ZI @Tn (ZI @TY (ZI @OX (ZI @QY (ZI @Vp (ZI @Xb (ZI @aem (ZI @Vu (ZI @ack (ZI @Xx (ZI @VG (ZI @LT (ZI @XU (ZI @JH (ZI @Wg (ZI @VY (ZI @Ss (ZI @Ux (ZI @TJ (ZI @Te (ZI @ada (ZI @agb @Iu)))))))))))))))))))))))))))))))))))))))))))))))))))))))))))))))))))))))))))))))))
def VS4:=ZI @Yk (ZI @Qq (ZI @Uq (ZI @GJ (ZI @Wb (ZI @Ky (ZI @Xi (ZI @Uc (ZI @Iq (ZI @Vx (ZI @Tl (ZI @Ib (ZI @WS (ZI @Uk (ZI @Vh (ZI @Sb (ZI @Xp (ZI @Kj (ZI @XT (ZI @BE (ZI @Ix (ZI @Oh (ZI @OW (ZI @AL (ZI @Gx (ZI @Qa (ZI @TL (ZI @Ue (ZI @acd (ZI @agy (ZI @aeu (ZI @aik (ZI @VO (ZI @WZ (ZI @Wo (ZI @Wm (ZI @Ya (ZI @UC (ZI @adx (ZI @TI (ZI @Bp (ZI @Ym (ZI @XP (ZI @We (ZI @Wh (ZI @VH (ZI @VN (ZI @VF (ZI @WQ (ZI @ahp (ZI @aja (ZI @MO (ZI @So (ZI @Qt (ZI @abs (ZI @agw (ZI @RU (ZI @Hb (ZI @CZ (ZI @Cu (ZI @Ys (ZI @XQ (ZI @Wt (ZI @KU (ZI @Hw (ZI @Yj (ZI @Nz (ZI @PA (ZI @abn (ZI @acj (ZI @OD (ZI @KT (ZI @Xq (ZI @TX (ZI @DK (ZI @WX (ZI @HM (ZI @GN (ZI @GC (ZI @HL (ZI @MB (ZI @VC @NH)))))))))))))))))))))))))))))))))))))))))))))))))))))))))))))))))))))))))))))))))
def VS5:=ZI @Hz (ZI @IA (ZI @Ur (ZI @Lg (ZI @abq (ZI @aee (ZI @ach (ZI @afk (ZI @aet (ZI @agl (ZI @GT (ZI @Yr (ZI @PJ (ZI @Nc (ZI @IC (ZI @NC (ZI @Gf (ZI @Ov (ZI @GI (ZI @IG (ZI @Vi (ZI @Ly (ZI @aeh (ZI @agt (ZI @aep (ZI @KB (ZI @Ie (ZI @RZ (ZI @Hq (ZI @Pt (ZI @Kq (ZI @RF (ZI @Dc (ZI @CQ (ZI @BM (ZI @Br (ZI @Sp (ZI @JJ (ZI @Hf (ZI @BA (ZI @FY (ZI @BV (ZI @abo (ZI @afn (ZI @adg (ZI @acy (ZI @Uw (ZI @NK (ZI @PK (ZI @QW (ZI @Ta (ZI @QJ (ZI @abb (ZI @aax (ZI @abt (ZI @adm (ZI @aed (ZI @gx_t (ZI @gx_c (ZI @ze (ZI @zw (ZI @td (ZI @pK (ZI @Yl (ZI @KK (ZI @HF (ZI @FI (ZI @yl (ZI @TE (ZI @MN (ZI @getD_some (ZI @Jv (ZI @Mq (ZI @RE (ZI @Rq (ZI @Jo (ZI @adz (ZI @QH (ZI @IP (ZI @JM (ZI @Ds (ZI @Lm (ZI @MA (ZI @Gp @Dj)))))))))))))))))))))))))))))))))))))))))))))))))))))))))))))))))))))))))))))))))))
def VS6:=ZI @Bq (ZI @AX (ZI @WV (ZI @MH (ZI @HZ (ZI @LU (ZI @NG (ZI @Ju (ZI @Pi (ZI @Nx (ZI @JL (ZI @Mg (ZI @GP (ZI @BW (ZI @AI (ZI @Ca (ZI @Kk (ZI @xu (ZI @AR (ZI @xE (ZI @vN (ZI @Cf (ZI @Ak (ZI @tY (ZI @xN (ZI @GW (ZI @RK (ZI @Hv (ZI @Lt (ZI @MJ (ZI @Hm (ZI @QT (ZI @IW (ZI @Po (ZI @Ol (ZI @VJ (ZI @Ic (ZI @CF (ZI @Xd (ZI @Tf (ZI @rv_t (ZI @rv_c (ZI @afx (ZI @Su (ZI @Un (ZI @PC (ZI @BJ (ZI @MF (ZI @Lr (ZI @KF (ZI @IX (ZI @Db (ZI @dg (ZI @fl1 (ZI @fl2 (ZI @fl3 (ZI @fl4 (ZI @fl5 (ZI @fl6 (ZI @fl7 (ZI @fl8 (ZI @rV (ZI @uZ (ZI @II (ZI @vI (ZI @sO (ZI @Cj (ZI @Ha (ZI @vA (ZI @aek (ZI @aex (ZI @KI (ZI @Bt (ZI @Dw (ZI @NB (ZI @OU (ZI @Ob (ZI @RL (ZI @Qf (ZI @Ll (ZI @Ty @Dt))))))))))))))))))))))))))))))))))))))))))))))))))))))))))))))))))))))))))))))))
def VA:=ZI @gI (ZI @nH (ZI @Fm (ZI @Ei (ZI @FO (ZI @Ee (ZI @vh (ZI @vx (ZI @vu (ZI @ru (ZI @fe (ZI @fu (ZI @ft (ZI @eK (ZI @vF (ZI @ie (ZI @sK (ZI @Qs (ZI @SF (ZI @oU (ZI @aao (ZI @Oy (ZI @YF (ZI @aaq (ZI @Lj (ZI @Mo (ZI @YS (ZI @Sy (ZI @YC (ZI @YX (ZI @DU (ZI @Ft (ZI @zU (ZI @yu (ZI @PV (ZI @Mf (ZI @Bj (ZI @DM (ZI @FL (ZI @FJ (ZI @DK (ZI @ze (ZI @zw (ZI @td (ZI @pK (ZI @FI (ZI @yl (ZI @fl5 (ZI @fl6 (ZI @fl7 (ZI @fl8 (ZI @rV (ZI @uZ (ZI @vI (ZI @sO (@vA)))))))))))))))))))))))))))))))))))))))))))))))))))))))
end Vs

