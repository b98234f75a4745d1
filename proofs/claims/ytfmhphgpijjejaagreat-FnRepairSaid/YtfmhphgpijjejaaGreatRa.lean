/-
  Part of the proof that the law FnRepair returns true at every input; no condition beside the row's own.
-/
import Derived.Calls
import Derived.Below
set_option linter.defProp false
set_option linter.unusedSimpArgs false
set_option linter.unusedVariables false
namespace Vs
open Go
inductive Fl where|o|s|m|u
 deriving DecidableEq
def Fl.als:Fl->Fl
 | .u=>.m
 |f=>f
def Fl.fix:Fl->Fl
 | .o=>.s
 |f=>f
inductive AV where
 |sc (v:Value)
 |lst (f:Fl) (n:Nat) (xs:List AV)
 |tg (f:Fl) (n:Nat) (xs:List AV)
 |agg (cs:List AV)
 |bp (f:Fl) (x:AV) (off:Nat)
 |sl (r i n:Nat)
 |pt (r i off:Nat)
 |fn (f:Nat) (cs:List AV)
 |tup (vs:List AV)
 |ub
 |top
instance:Inhabited AV:=⟨.top⟩
abbrev AV.i(n:Int):AV:=.sc (.int .i64 n)
abbrev AV.u8(n:Int):AV:=.sc (.int .u8 n)
abbrev AV.u64(n:Int):AV:=.sc (.int .u64 n)
abbrev AV.b(b:Bool):AV:=.sc (.bool b)
abbrev AV.z(s:ByteArray):AV:=.sc (.string s)
def AV.width:AV->Nat
 | .agg cs=>cs.length
 | .top=>0
 | .tup _=>0
 |_=>1
def AV.isAgg:AV->Bool
 | .agg _=>true
 |_=>false
def AV.cells:AV->List AV
 | .agg cs=>cs
 | .top=>[]
 | .tup _=>[]
 |x=>[x]
mutual
def AV.nrm:AV->AV
 | .sc v=>.sc v
 | .lst _ n xs=>.lst .o n (gA xs)
 | .tg _ n xs=>.lst .o n (gA xs)
 | .agg cs=>.agg (gA cs)
 | .bp _ x off=>.bp .o x.nrm off
 | .fn f cs=>.fn f (gA cs)
 |_=>.top
def gA:List AV->List AV
 |[]=>[]
 |c::cs=>c.nrm::gA cs
end
mutual
def AV.als:AV->AV
 | .sc v=>.sc v
 | .lst f n xs=>.lst f.als n (dj xs)
 | .agg cs=>.agg (dj cs)
 |_=>.top
def dj:List AV->List AV
 |[]=>[]
 |c::cs=>c.als::dj cs
end
mutual
def AV.fix:AV->AV
 | .sc v=>.sc v
 | .lst f n xs=>.lst f.fix n (fG xs)
 | .agg cs=>.agg (fG cs)
 | .tup cs=>.tup (fG cs)
 | .fn f cs=>.fn f (fG cs)
 |_=>.top
def fG:List AV->List AV
 |[]=>[]
 |c::cs=>c.fix::fG cs
end
mutual
def AV.ments:AV->List Nat
 | .sl r _ _=>[r]
 | .pt r _ _=>[r]
 | .agg cs=>aN cs
 | .fn _ cs=>aN cs
 | .tup cs=>aN cs
 |_=>[]
def aN:List AV->List Nat
 |[]=>[]
 |c::cs=>c.ments++aN cs
end
mutual
def AV.allU:AV->Prop
 | .sc _=>True
 | .lst f _ xs=>f=.u/\jw xs
 | .agg cs=>jw cs
 | .tup cs=>jw cs
 |_=>False
def jw:List AV->Prop
 |[]=>True
 |c::cs=>c.allU/\jw cs
end
mutual
def AV.allO:AV->Prop
 | .sc _=>True
 | .lst f _ xs=>f=.o/\mD xs
 | .agg cs=>mD cs
 | .tup cs=>mD cs
 |_=>False
def mD:List AV->Prop
 |[]=>True
 |c::cs=>c.allO/\mD cs
end
mutual
def AV.ou:AV->Prop
 | .sc _=>True
 | .lst f _ xs=>(f=.u/\ouL xs)\/(f=.o/\mD xs)
 | .agg cs=>ouL cs
 | .tup cs=>ouL cs
 |_=>False
def ouL:List AV->Prop
 |[]=>True
 |c::cs=>c.ou/\ouL cs
end
mutual
def AV.noU:AV->Prop
 | .sc _=>True
 | .lst f _ xs=>f≠.u/\xB xs
 | .agg cs=>xB cs
 | .tup cs=>xB cs
 |_=>False
def xB:List AV->Prop
 |[]=>True
 |c::cs=>c.noU/\xB cs
end
def sub(es:List AV)(i n:Nat):List AV:=if i=0/\n=es.length then es else(es.drop i).take n
def dx{α:Type}(es:List α)(i:Nat)(ys:List α):List α:=if i+ys.length<=es.length then es.take i++ys++es.drop (i+ys.length) else es
inductive Row where
 |var (x:AV)
 |arr (n:Nat) (es:List AV)
 |dead
def cJ:Option Row->Prop
 |some (.var _)=>True
 |some (.arr _ _)=>True
 |_=>False
def aD{α:Type}(k:Nat):List (Nat×α)->Option α
 |[]=>none
 |(j,x)::l=>if j=k then some x else aD k l
def put{α:Type}(k:Nat)(x:α):List (Nat×α)->List (Nat×α)
 |[]=>[(k,x)]
 |(j,y)::l=>if j=k then(k,x)::l else(j,y)::put k x l
def mE(o:Option Row)(i n:Nat):AV:=match o with
 |some (.arr w es)=>.lst .o w (gA (sub es i n))
 |_=>.top
def lg(h:AV->AV)(o:Option Row)(i off:Nat):AV:=match o with
 |some (.var y)=>if i=0 then .bp .o (h y) off else .top
 | some (.arr _ es) => match es[i]? with
   |some y=>.bp .o y.nrm off
   |none=>.top
 |_=>.top
def snp(ρ:Nat->Option Row):Nat->AV->AV
 |0,_=>.top
 | k + 1, x => match x with
   | .sl r i n=>mE (ρ r) i n
   | .pt r i off=>lg (snp ρ k) (ρ r) i off
   | .agg cs=>.agg (cs.map (snp ρ k))
   | .fn f cs=>.fn f (cs.map (snp ρ k))
   |x=>x.nrm
def kt(o:Option Row)(i n:Nat):AV:=match o with
 |some (.arr w es)=>.lst .u w (sub es i n)
 |_=>.top
def lift(ρ:Nat->Option Row):Nat->AV->AV
 |0,_=>.top
 | k + 1, x => match x with
   | .sl r i n=>kt (ρ r) i n
   | .agg cs=>.agg (cs.map (lift ρ k))
   | .tup cs=>.tup (cs.map (lift ρ k))
   | .sc v=>.sc v
   | .lst f n xs=>.lst f n xs
   |_=>.top
def adopt:Nat->Nat->AV->AV×List (Nat×Row)×Nat
 |0,c,_=>(.top,[],c)
 | k + 1, c, x => match x with
   | .lst .u n es=>(.sl c 0 es.length,[(c,.arr n (fG es))],c+1000)
   | .agg cs=>let(l,u,c):=go k c cs;(.agg l,u,c)
   | .tup cs=>let(l,u,c):=go k c cs;(.tup l,u,c)
   |x=>(x.fix,[],c)
where
 go (k:Nat):Nat->List AV->List AV×List (Nat×Row)×Nat
  |c,[]=>([],[],c)
  | c, x :: xs =>
    let(y,u,c):=adopt k c x;let(ys,us,c):=go k c xs
    (y::ys,u++us,c)
inductive X where
 |t (n:Nat)
 |c (a:AV)
inductive AOp where
 |mv (x:X)
 |pick (c a b:X)
 |alloc (z:AV)
 |box (n:Nat) (x:X)
 |build (z:List AV) (ps:List (Nat×Nat×X))
 |bsl (n:Nat) (fr:Bool) (ps:List X)
 |load (n:Nat) (ag:Bool) (x:X)
 |store (n:Nat) (x v:X)
 |bin (op:BinOp) (x y:X)
 |beq (neg:Bool) (x y:X)
 |un (op:UnOp) (x:X)
 |conv (k:IntKind) (x:X)
 |mkf (f:Nat) (cs:List X)
 |mks (n:Nat) (z:AV) (bytes:Nat) (l c:X)
 |slc (n:Nat) (x:X) (lo hi mx:Option X)
 |slz (x:X) (lo hi:Option X)
 |fad (off:Nat) (x:X)
 |idx (n:Nat) (x i:X)
 |fld (off n:Nat) (ag:Bool) (x:X)
 |stri (x i:X)
 |ext (x:X) (j:Nat)
 |call (f:Nat) (xs:List X)
 |dyn (x:X) (xs:List X)
 |callM (f:Nat) (xs:List X) (rs:List Nat)
 |dynM (x:X) (xs:List X) (rs:List Nat)
 |len (x:X)
 |lenz (x:X)
 |capn (x:X)
 |slg (n:Nat) (x hi:X)
 |apz (n:Nat) (z:AV) (bytes:Nat) (x l:X)
 |b2s (x:X)
 |isn (neg:Bool) (x:X)
 |aeq (neg:Bool) (x y:X)
 |apq (n:Nat) (x y:X)
 |slx (n:Nat) (x:X) (lo hi:Option X)
 |slm (n:Nat) (x lo hi mx:X)
 |clr (n:Nat) (z:AV) (x:X)
 |cpy (n:Nat) (x y:X)
 |ldv (av:List Nat) (n:Nat) (ag:Bool) (x:X)
 |str (n:Nat) (x v:X)
 |lda (n:Nat) (ag:Bool) (x:X)
 |stv (n:Nat) (x v:X)
 |fdv (av:List Nat) (off:Nat) (x:X)
 |idv (av:List Nat) (n:Nat) (x i:X)
 |lnv (av:List Nat) (x:X)
 |stw (r n:Nat) (x v:X)
 |bsm (n:Nat) (ps:List X)
 |app (n bytes:Nat) (mv:Bool) (x y:X)
 |nilc (x:X)
 |mn (x y:X)
 |mx (x y:X)
 |bad
structure bc where
 d:Option Nat
 op:AOp
 gd:Option (Nat×Bool)
inductive HOp where
 |inn (t n k:Nat) (x:X) (mids:List (Nat×X)) (d f:Nat) (xs:List X)
 |har (d f:Nat) (xs:List X) (rs:List Nat)
inductive Can where
 |s (d:Nat)
 |f (far:Bool) (d r j:Nat)
 |r (d:Nat)
 |z (d:Nat)
 |e (far:Bool) (d k j:Nat)
 |w (r:Nat)
inductive ar where
 |skip
 |reg (ops:List bc) (can:List Can)
 |drw (ops:List bc) (can:List Can)
 |seq (a b:ar)
 |seqr (a:ar) (lv lr:List Nat) (b:ar)
 |seqa (x a:ar) (lv lr:List Nat) (b:ar)
 |seqb (a:ar) (lv:List Nat) (b:ar)
 |cond (x:X) (a b:ar)
 |blk (id:Nat) (a:ar)
 |loop (a:ar)
 |exit (id:Nat)
 |ret
structure St where
 env:List (Nat×AV)
 rows:List (Nat×Row)
def St.get(σ:St)(k:Nat):AV:=(aD k σ.env).getD .top
def St.row(σ:St)(r:Nat):Option Row:=aD r σ.rows
def St.gx(σ:St):X->AV
 | .t n=>σ.get n
 | .c a=>a
def bn(l:List (Nat×Row))(rows:List (Nat×Row)):List (Nat×Row):=l.foldl (fun rs p=>put p.1 p.2 rs) rows
def St.app(σ:St)(d:Option Nat)(v:AV)(u:List (Nat×Row)):St:=
 {env:=match d with|some d=>put d v σ.env|none=>σ.env,rows:=bn u σ.rows}
def St.know(σ:St)(s:Nat)(b:Bool):St:={σ with env:=put s (.b b) σ.env}
def I64(n:Int):Prop:=-9223372036854775808<=n/\n<=9223372036854775807
def fill(cs:List AV)(off:Nat)(v:AV):List AV:=cs.take off++v.cells++cs.drop (off+v.cells.length)
def jS:List AV->List (Nat×AV)->List AV
 |cs,[]=>cs
 |cs,(off,v)::l=>jS (fill cs off v) l
def part(x:AV)(off n:Nat)(ag:Bool):Option AV:=
 if ag then(if x.isAgg=true/\off+n<=x.width then some (if off=0/\n=x.width then .agg x.cells else .agg ((x.cells.drop off).take n)) else none)
 else x.cells[off]?
def setPart(x:AV)(off:Nat)(v:AV):Option AV:=
 if x.isAgg=true then
  (if v.isAgg=true then(if off=0/\v.width=x.width then some v else if off+v.width<=x.width then some (.agg (fill x.cells off v)) else none)
   else if off+1<=x.width then some (.agg (fill x.cells off v)) else none)
 else if off=0/\v.isAgg=false/\x.width=1 then some v else none
def bits(op:BinOp)(k:IntKind)(x y:Int):Int:=
 let a:=BitVec.ofInt k.bits x;let b:=BitVec.ofInt k.bits y
 k.wrap (match op with| .and=>(a &&& b).toNat| .or=>(a ||| b).toNat| .xor=>(a ^^^ b).toNat|_=>(a &&& ~~~b).toNat)
def ofI(k:IntKind)(n:Int)(K:AV->Prop):Prop:=K (.sc (.int k (k.wrap n)))
def dt(op:BinOp)(k:IntKind)(a b:Int)(K:AV->Prop):Prop:=
 match op with
 | .add=>ofI k (a+b) K
 | .sub=>ofI k (a-b) K
 | .mul=>ofI k (a*b) K
 | .quo=>b≠0/\ofI k (a.tdiv b) K
 | .rem=>b≠0/\K (.sc (.int k (a.tmod b)))
 | .and=>K (.sc (.int k (bits .and k a b)))
 | .or=>K (.sc (.int k (bits .or k a b)))
 | .xor=>K (.sc (.int k (bits .xor k a b)))
 | .andNot=>K (.sc (.int k (bits .andNot k a b)))
 | .eql=>K (.b (a==b))
 | .neq=>K (.b (a !=b))
 | .lss=>K (.b (decide (a<b)))
 | .leq=>K (.b (decide (a<=b)))
 | .gtr=>K (.b (decide (a>b)))
 | .geq=>K (.b (decide (a>=b)))
 |_=>False
def dY(op:BinOp)(k:IntKind)(a y:Int)(K:AV->Prop):Prop:=
 0<=y/\match op with
 | .shl=>ofI k (a*2^(min y.toNat k.bits)) K
 | .shr=>K (.sc (.int k (a.fdiv (2^(min y.toNat k.bits)))))
 |_=>False
def cX(op:BinOp)(x y:AV)(K:AV->Prop):Prop:=
 match x,y with
 | .sc (.int k a), .sc (.int k' b) =>
   match op with
   | .shl=>dY .shl k a b K
   | .shr=>dY .shr k a b K
   |op=>k=k'/\dt op k a b K
 | .sc (.string a), .sc (.string b) =>
   match op with
   | .add=>a.size+b.size<=9223372036854775807/\K (.z (a++b))
   | .eql=>K (.b (a.toList==b.toList))
   | .neq=>K (.b (!(a.toList==b.toList)))
   |_=>False
 |_,_=>False
def unV(op:UnOp)(x:AV)(K:AV->Prop):Prop:=
 match op,x with
 | .neg,.sc (.int k n)=>ofI k (0-n) K
 | .not,.sc (.bool b)=>K (.b (!b))
 |_,_=>False
def bE(rs:List Nat):List (Nat×Row):=rs.map fun r=>(r,.dead)
def kZ(n:Nat)(o:Option Row)(i k:Nat):Option (List AV):=match o with
 |some (.arr w es)=>if w=n then some (dj (sub es i k)) else none
 |_=>none
def dl(n:Nat)(ρ:Nat->Option Row):AV->Option (List AV)
 | .lst _ w xs=>if w=n then some xs else none
 | .tg _ w xs=>if w=n then some xs else none
 | .sl r i k=>kZ n (ρ r) i k
 |_=>none
def uj(n r m:Nat)(o:Option Row):Option (List AV×List (Nat×Row)):=match o with
 |some (.arr w ys)=>if w=n/\m=ys.length then some (ys,[(r,.dead)]) else none
 |_=>none
def iY(o:Option (List AV)):Option (List AV×List (Nat×Row)):=match o with
 |some ys=>some (ys,[])
 |none=>none
def kw(ρ:Nat->Option Row)(n:Nat)(mv:Bool)(y:AV):Option (List AV×List (Nat×Row)):=match mv,y with
 |true,.sl r 0 m=>uj n r m (ρ r)
 |_,y=>iY (dl n ρ y)
def bOk(o:Option AV):Prop:=match o with
 |none=>True
 |some (.sc (.int _ n))=>0<=n
 |_=>False
def bV(o:Option AV)(dflt:Nat):Nat:=match o with
 |some (.sc (.int _ n))=>n.toNat
 |_=>dflt
def u8s:List AV->Option (List Int)
 |[]=>some []
 | .sc (.int .u8 n) :: xs => match u8s xs with
   |some ns=>some (n::ns)
   |none=>none
 |_=>none
def b2s(ns:List Int):ByteArray:=ns.foldl (fun r n=>r.push (UInt8.ofNat n.toNat)) ByteArray.empty
def opt{α:Type}(o:Option α)(K:α->Prop):Prop:=match o with
 |some v=>K v
 |none=>False
section
variable(K:AV->List (Nat×Row)->Prop)
def k1(v:AV):Prop:=K v []
def jZ(c a b:AV):Prop:=match c with
 | .sc (.bool t)=>(t=true->K a [])/\(t=false->K b [])
 |_=>False
def JT(off n:Nat)(ag:Bool)(y:AV):Prop:=opt (part y.als off n ag) (k1 K)
def ea(o:Option Row)(i off n:Nat)(ag:Bool):Prop:=match o with
 |some (.var y)=>i=0/\opt (part y off n ag) (k1 K)
 |some (.arr _ es)=>opt es[i]? (JT K off n ag)
 |_=>False
def dT(ρ:Nat->Option Row)(n:Nat)(ag:Bool)(x:AV):Prop:=match x with
 | .bp _ y off=>opt (part y off n ag) (k1 K)
 | .pt r i off=>ea K (ρ r) i off n ag
 |_=>False
def Ea(r:Nat)(y:AV):Prop:=K .top [(r,.var y)]
def wh(u:List (Nat×Row))(r w i:Nat)(es:List AV)(y:AV):Prop:=K .top (u++[(r,.arr w (es.set i y))])
def nL(ρ:Nat->Option Row)(r w i off:Nat)(es:List AV)(v y:AV):Prop:=
 r∉v.ments/\v.ments.Nodup/\(lift ρ 2 v).width=v.width/\opt (setPart y off (lift ρ 2 v)) (wh K (bE v.ments) r w i es)
def cZ(ρ:Nat->Option Row)(o:Option Row)(r i off:Nat)(v:AV):Prop:=match o with
 |some (.var y)=>i=0/\opt (setPart y off v) (Ea K r)
 |some (.arr w es)=>opt es[i]? (nL K ρ r w i off es v)
 |_=>False
def cM(ρ:Nat->Option Row)(n:Nat)(x v:AV):Prop:=match x with
 | .pt r i off=>v.width=n/\cZ K ρ (ρ r) r i off v
 |_=>False
def iPt(av:List Nat):AV->Prop
 | .sl r _ _=>r∉av
 | .lst _ _ _=>True
 |_=>False
def xx:Option Row->Prop
 |some (.var _)=>True
 |_=>False
def wT:Option Row->Prop
 |some (.arr _ _)=>True
 |_=>False
def vPt(av:List Nat)(ρ:Nat->Option Row):AV->Prop
 | .pt r _ _=>r∉av/\xx (ρ r)
 | .bp _ _ _=>True
 |_=>False
def aPt(ρ:Nat->Option Row):AV->Prop
 | .pt r _ _=>wT (ρ r)
 |_=>False
def aPb(ρ:Nat->Option Row):AV->Prop
 | .pt r _ _=>wT (ρ r)
 | .bp _ _ _=>True
 |_=>False
def wPt(r:Nat)(ρ:Nat->Option Row):AV->Prop
 | .pt q _ _=>q=r/\xx (ρ q)
 |_=>False
def vPv(ρ:Nat->Option Row):AV->Prop
 | .pt r _ _=>xx (ρ r)
 |_=>False
def vq(neg:Bool)(x y:AV):Prop:=match x,y with
 | .sc (.bool a),.sc (.bool b)=>K (.sc (.bool (if neg then !(a==b) else(a==b)))) []
 |_,_=>False
def vd(neg:Bool)(x y:AV):Prop:=match x,y with
 | .agg [.sc (.int .i64 a),.sc (.int .i64 b)],.agg [.sc (.int .i64 c),.sc (.int .i64 e)]=>K (.sc (.bool (if neg then !(a==c&&b==e) else(a==c&&b==e)))) []
 |_,_=>False
def oE(k:IntKind)(x:AV):Prop:=match x with
 | .sc (.int _ n)=>K (.sc (.int k (k.wrap n))) []
 |_=>False
def xJ(o:Option Row)(d n:Nat)(z:AV)(bytes:Nat)(l c:AV):Prop:=match l,c with
 | .sc (.int .i64 l),.sc (.int .i64 c)=>o=none/\z.width=n/\0<=l/\l<=c/\c*bytes<=140737488355328/\c<=9223372036854775807/\K (.sl d 0 l.toNat) [(d,.arr n (List.replicate l.toNat z))]
 |_,_=>False
def ov(ρ:Nat->Option Row)(n:Nat)(x:AV)(lo hi mx:Option AV):Prop:=match x with
 | .lst f w xs=>w=n/\bOk lo/\bOk hi/\bV lo 0<=bV hi xs.length/\bV hi xs.length<=xs.length/\
  match mx with
  |none=>K (.lst f n (sub xs (bV lo 0) (bV hi xs.length-bV lo 0))) []
  |some m=>hi.isSome/\bOk (some m)/\bV (some m) 0=bV hi xs.length/\K (.tg f n (sub xs (bV lo 0) (bV hi xs.length-bV lo 0))) []
 | .sl r i m=>(∃es,ρ r=some (.arr n es))/\bOk lo/\bOk hi/\bV lo 0<=bV hi m/\bV hi m<=m/\mx=none/\K (.sl r (i+bV lo 0) (bV hi m-bV lo 0)) []
 |_=>False
def NW(x:AV)(lo hi:Option AV):Prop:=match x with
 | .sc (.string s)=>bOk lo/\bOk hi/\bV lo 0<=bV hi s.size/\bV hi s.size<=s.size/\K (.sc (.string (s.extract (bV lo 0) (bV hi s.size)))) []
 |_=>False
def jo(ρ:Nat->Option Row)(off:Nat)(x:AV):Prop:=match x with
 | .bp f y o=>K (.bp f y (o+off)) []
 | .pt r i o=>cJ (ρ r)/\K (.pt r i (o+off)) []
 |_=>False
def Ve(f:Fl)(y:AV):Prop:=K (.bp f y 0) []
def ie(ρ:Nat->Option Row)(n:Nat)(x i:AV):Prop:=match x,i with
 | .lst f w xs,.sc (.int _ j)=>w=n/\0<=j/\opt xs[j.toNat]? (Ve K f.als)
 | .sl r a m,.sc (.int _ j)=>(∃es,ρ r=some (.arr n es))/\0<=j/\j<m/\K (.pt r (a+j.toNat) 0) []
 |_,_=>False
def Bf(off n:Nat)(ag:Bool)(x:AV):Prop:=x.isAgg=true/\opt (part x off n ag) (k1 K)
def TH(c:UInt8):Prop:=K (.sc (.int .u8 c.toNat)) []
def nI(x i:AV):Prop:=match x,i with
 | .sc (.string s),.sc (.int _ j)=>0<=j/\opt s[j.toNat]? (TH K)
 |_,_=>False
def ws(x:AV)(j:Nat):Prop:=match x with
 | .tup vs=>opt vs[j]? (k1 K)
 |_=>False
def iL(ρ:Nat->Option Row)(x:AV):Prop:=match x with
 | .lst _ _ xs=>K (.i xs.length) []
 | .tg _ _ xs=>K (.i xs.length) []
 | .sl r _ n=>(∃w es,ρ r=some (.arr w es))/\K (.i n) []
 |_=>False
def oA(x:AV):Prop:=match x with
 | .lst .u _ []=>K (.i 0) []
 |_=>False
def wt(n:Nat)(x hi:AV):Prop:=match x,hi with
 | .lst .u w [],.sc (.int _ h)=>w=n/\h=0/\K (.lst .u n []) []
 |_,_=>False
def oP(x:AV):Prop:=match x with
 | .sc (.string s)=>K (.i s.size) []
 |_=>False
def ET(ns:List Int):Prop:=K (.sc (.string (b2s ns))) []
def yX(o:Option Row)(i m:Nat):Prop:=match o with
 |some (.arr w es)=>w=1/\opt (u8s (sub es i m)) (ET K)
 |_=>False
def Pb(ρ:Nat->Option Row)(x:AV):Prop:=match x with
 | .lst _ w xs=>w=1/\opt (u8s xs) (ET K)
 | .sl r i m=>yX K (ρ r) i m
 |_=>False
def tu(o:Option Row)(r n:Nat)(z:AV)(i m:Nat):Prop:=match o with
 |some (.arr w es)=>w=n/\z.width=n/\K (.tup []) [(r,.arr w (dx es i (List.replicate m z)))]
 |_=>False
def DG(ρ:Nat->Option Row)(n:Nat)(z x:AV):Prop:=match x with
 | .sl r i m=>tu K (ρ r) r n z i m
 |_=>False
def tY(o:Option Row)(r n i m:Nat)(ys:List AV):Prop:=match o with
 |some (.arr w es)=>w=n/\K (.i (min ys.length m:Nat)) [(r,.arr w (dx es i (ys.take (min ys.length m))))]
 |_=>False
def DQ(ρ:Nat->Option Row)(n:Nat)(x y:AV):Prop:=match x with
 | .sl r i m=>opt (dl n ρ y) (tY K (ρ r) r n i m)
 |_=>False
def qf(neg e:Bool):Prop:=K (cond e .ub (.b neg)) []
def tC(ρ:Nat->Option Row)(neg:Bool)(x:AV):Prop:=match x with
 | .lst _ _ xs=>qf K neg xs.isEmpty
 | .tg _ _ xs=>qf K neg xs.isEmpty
 | .sl r _ n=>(∃w es,ρ r=some (.arr w es))/\qf K neg (n==0)
 |_=>False
def FU(o:Option Row)(r n i m:Nat)(ys:List AV):Prop:=match o with
 |some (.arr w es)=>w=n/\i+m+ys.length<=es.length/\K (.sl r i (m+ys.length)) [(r,.arr w (dx es (i+m) ys))]
 |_=>False
def Bp(ρ:Nat->Option Row)(n:Nat)(x y:AV):Prop:=match x with
 | .sl r i m=>opt (dl n ρ y) (FU K (ρ r) r n i m)
 |_=>False
def qI(o:Option Row)(r n i m:Nat)(lo hi:Option AV):Prop:=match o with
 |some (.arr w es)=>w=n/\bOk lo/\bOk hi/\bV lo 0<=bV hi m/\i+bV hi m<=es.length/\K (.sl r (i+bV lo 0) (bV hi m-bV lo 0)) []
 |_=>False
def tV(ρ:Nat->Option Row)(n:Nat)(x:AV)(lo hi:Option AV):Prop:=match x with
 | .sl r i m=>qI K (ρ r) r n i m lo hi
 |_=>False
def vt(o:Option Row)(n m:Nat)(lo hi mx:AV):Prop:=match o,lo,hi,mx with
 |some (.arr w _),.sc (.int _ l),.sc (.int _ h),.sc (.int _ q)=>w=n/\0<=l/\l<=h/\h<=q/\q<=(m:Int)/\K .top []
 |_,_,_,_=>False
def AX(ρ:Nat->Option Row)(n:Nat)(x lo hi mx:AV):Prop:=match x with
 | .sl r _ m=>vt K (ρ r) n m lo hi mx
 |_=>False
def nj(o:Option Row)(d n bytes r i m:Nat)(p:List AV×List (Nat×Row)):Prop:=match o with
 |some (.arr w es)=>w=n/\r∉p.2.map (·.1)/\(m+p.1.length)*bytes<=140737488355328/\K (.sl d 0 (m+p.1.length)) ((r,.dead)::p.2++[(d,.arr n (sub es i m++p.1))])
 |_=>False
def tp(d n bytes w:Nat)(es:List AV)(p:List AV×List (Nat×Row)):Prop:=
 w=n/\0<p.1.length/\(es.length+p.1.length)*bytes<=140737488355328/\K (.sl d 0 (es.length+p.1.length)) (p.2++[(d,.arr n (dj es++p.1))])
def sf(ρ:Nat->Option Row)(d n bytes:Nat)(mv:Bool)(x y:AV):Prop:=match x with
 | .sl r i m=>ρ d=none/\opt (kw ρ n mv y) (nj K (ρ r) d n bytes r i m)
 | .tg _ w es=>ρ d=none/\opt (kw ρ n mv y) (tp K d n bytes w es)
 |_=>False
def Db(o:Option Row)(d n:Nat)(z:AV)(bytes:Nat)(x l:AV):Prop:=match x,l with
 | .lst .u w [],.sc (.int .i64 l)=>o=none/\w=n/\z.width=n/\n=1/\0<l/\l*bytes<=140737488355328/\K (.sl d 0 l.toNat) [(d,.arr n (List.replicate l.toNat z))]
 |_,_=>False
def qn(ρ:Nat->Option Row)(x:AV):Prop:=match x with
 | .bp f y o=>K (.bp f y o) []
 | .pt r i o=>cJ (ρ r)/\K (.pt r i o) []
 |_=>False
def eMn(x y:AV):Prop:=match x,y with
 | .sc (.int k a),.sc (.int k' b)=>k=k'/\K (.sc (.int k (if b<a then b else a))) []
 |_,_=>False
def eMx(x y:AV):Prop:=match x,y with
 | .sc (.int k a),.sc (.int k' b)=>k=k'/\K (.sc (.int k (if a<b then b else a))) []
 |_,_=>False
end
structure Oks where
 p:Nat->List AV->AV->Prop
 m:Nat->List AV->List (Nat×Row)->AV->List (Nat×Row)->Prop
 h:Nat->List AV->List (Nat×Row)->AV->List (Nat×Row)->Prop
mutual
def AV.rg(h:Nat->Nat):AV->AV
 | .sl q i n=>.sl (h q) i n
 | .pt q i o=>.pt (h q) i o
 | .agg cs=>.agg (rgL h cs)
 | .fn f cs=>.fn f (rgL h cs)
 | .tup cs=>.tup (rgL h cs)
 |x=>x
def rgL(h:Nat->Nat):List AV->List AV
 |[]=>[]
 |c::cs=>c.rg h::rgL h cs
end
def Row.rg(h:Nat->Nat):Row->Row
 | .var x=>.var (x.rg h)
 |x=>x
def pos(r:Nat):List Nat->Nat
 |[]=>0
 |x::xs=>if x=r then 0 else pos r xs+1
def cnm(rs:List Nat)(r:Nat):Nat:=1000000000+pos r rs
def bkn(d:Nat)(rs:List Nat)(q:Nat):Nat:=if 1000000000<=q then rs.getD (q-1000000000) 0 else q+100000*(d+1)
def gj(ρ:Nat->Option Row)(rs:List Nat)(r:Nat):Nat×Row:=(cnm rs r,((ρ r).getD .dead).rg (cnm rs))
def eV(d:Nat)(rs:List Nat)(p:Nat×Row):Nat×Row:=(bkn d rs p.1,p.2.rg (bkn d rs))
def lU:Option Row->List Nat
 |some (.var x)=>x.ments
 |_=>[]
section
variable(ok:Oks)
def callM(ρ:Nat->Option Row)(d f:Nat)(args:List AV)(rs:List Nat)(K:AV->List (Nat×Row)->Prop):Prop:=
 ∃ res outs, ok.m f (args.map (AV.rg (cnm rs))) (rs.map (gj ρ rs)) res outs ∧
   (rs.Nodup/\(∀r∈rs,cJ (ρ r))/\(∀r∈rs,∀q∈lU (ρ r),q∈rs)/\(∀r∈aN args,r∈rs))/\
   ((outs.map fun p => bkn d rs p.1).Nodup ∧ (∀ p ∈ outs, 1000000000 ≤ p.1 → p.1 - 1000000000 < rs.length) ∧
     (∀p∈outs,p.1<1000000000->ρ (bkn d rs p.1)=none/\bkn d rs p.1<1000000000))/\
   K (res.rg (bkn d rs)) (bE rs++outs.map (eV d rs))
def pC(ρ:Nat->Option Row)(d:Nat)(x:AV)(xs:List AV)(rs:List Nat)(K:AV->List (Nat×Row)->Prop):Prop:=match x with
 | .fn f cs=>callM ok ρ d f (xs++cs) rs K
 |_=>False
def fw(ρ:Nat->Option Row)(d f:Nat)(args:List AV)(K:AV->List (Nat×Row)->Prop):Prop:=
 ∃ res, ok.p f (args.map (snp ρ 4)) res ∧ (res.allU ∨ aN args = [] ∧ (res.ou ∨ res.noU)) ∧ (∀ p ∈ (adopt 4 d res).2.1, ρ p.1 = none ∧ p.1 < 1000000000) ∧
   K (adopt 4 d res).1 (adopt 4 d res).2.1
def te(ρ:Nat->Option Row)(d:Nat)(x:AV)(xs:List AV)(K:AV->List (Nat×Row)->Prop):Prop:=match x with
 | .fn f cs=>fw ok ρ d f (xs++cs) K
 |_=>False
def eff(g:X->AV)(ρ:Nat->Option Row)(d:Nat):AOp->(AV->List (Nat×Row)->Prop)->Prop
 | .mv x,K=>K (g x) []
 | .pick c a b,K=>jZ K (g c) (g a) (g b)
 | .alloc z,K=>ρ d=none/\K (.pt d 0 0) [(d,.var z)]
 | .box n x,K=>ρ d=none/\(g x).width=n/\K (.pt d 0 0) [(d,.var (g x))]
 | .build z ps,K=>(∀p∈ps,(g p.2.2).width=p.2.1/\p.1+p.2.1<=z.length)/\K (.agg (jS z (ps.map fun p=>(p.1,g p.2.2)))) []
 | .bsl n fr ps,K=>(fr=true->aN (ps.map g)=[])/\ρ d=none/\(∀p∈ps,(g p).width=n)/\(aN (ps.map g)).Nodup/\
  K (.sl d 0 ps.length) (bE (aN (ps.map g))++[(d,.arr n ((ps.map g).map (lift ρ 2)))])
 | .load n ag x,K=>dT K ρ n ag (g x)
 | .store n x v,K=>cM K ρ n (g x) (g v)
 | .bin op x y,K=>cX op (g x) (g y) (k1 K)
 | .beq neg x y,K=>vq K neg (g x) (g y)
 | .un op x,K=>unV op (g x) (k1 K)
 | .conv k x,K=>oE K k (g x)
 | .mkf f cs,K=>K (.fn f (cs.map g)) []
 | .mks n z bytes l c,K=>xJ K (ρ d) d n z bytes (g l) (g c)
 | .slc n x lo hi mx,K=>ov K ρ n (g x) (lo.map g) (hi.map g) (mx.map g)
 | .slz x lo hi,K=>NW K (g x) (lo.map g) (hi.map g)
 | .fad off x,K=>jo K ρ off (g x)
 | .idx n x i,K=>ie K ρ n (g x) (g i)
 | .idv av n x i,K=>iPt av (g x)/\ie K ρ n (g x) (g i)
 | .lnv av x,K=>iPt av (g x)/\iL K ρ (g x)
 | .stw r n x v,K=>wPt r ρ (g x)/\cM K ρ n (g x) (g v)
 | .fld off n ag x,K=>Bf K off n ag (g x)
 | .stri x i,K=>nI K (g x) (g i)
 | .ext x j,K=>ws K (g x) j
 | .call f xs,K=>fw ok ρ d f (xs.map g) K
 | .dyn x xs,K=>te ok ρ d (g x) (xs.map g) K
 | .callM f xs rs,K=>callM ok ρ d f (xs.map g) rs K
 | .dynM x xs rs,K=>pC ok ρ d (g x) (xs.map g) rs K
 | .len x,K=>iL K ρ (g x)
 | .lenz x,K=>oP K (g x)
 | .capn x,K=>oA K (g x)
 | .slg n x hi,K=>wt K n (g x) (g hi)
 | .apz n z bytes x l,K=>Db K (ρ d) d n z bytes (g x) (g l)
 | .b2s x,K=>Pb K ρ (g x)
 | .isn neg x,K=>tC K ρ neg (g x)
 | .aeq neg x y,K=>vd K neg (g x) (g y)
 | .apq n x y,K=>Bp K ρ n (g x) (g y)
 | .slx n x lo hi,K=>tV K ρ n (g x) (lo.map g) (hi.map g)
 | .slm n x lo hi mx,K=>AX K ρ n (g x) (g lo) (g hi) (g mx)
 | .clr n z x,K=>DG K ρ n z (g x)
 | .cpy n x y,K=>DQ K ρ n (g x) (g y)
 | .ldv av n ag x,K=>vPt av ρ (g x)/\dT K ρ n ag (g x)
 | .str n x v,K=>aPt ρ (g x)/\(g v).ments=[]/\cM K ρ n (g x) (g v)
 | .lda n ag x,K=>aPb ρ (g x)/\dT K ρ n ag (g x)
 | .stv n x v,K=>vPv ρ (g x)/\cM K ρ n (g x) (g v)
 | .fdv av off x,K=>vPt av ρ (g x)/\jo K ρ off (g x)
 | .bsm n ps,K=>(∀r∈aN (ps.map g),wT (ρ r))/\ρ d=none/\(∀p∈ps,(g p).width=n)/\(aN (ps.map g)).Nodup/\
  K (.sl d 0 ps.length) (bE (aN (ps.map g))++[(d,.arr n ((ps.map g).map (lift ρ 2)))])
 | .app n bytes mv x y,K=>sf K ρ d n bytes mv (g x) (g y)
 | .nilc x,K=>qn K ρ (g x)
 | .mn x y,K=>eMn K (g x) (g y)
 | .mx x y,K=>eMx K (g x) (g y)
 | .bad,_=>False
def eA(σ:St)(s:Nat)(w:Bool)(x:AV)(A B:St->Prop):Prop:=match x with
 | .sc (.bool t)=>(t=w->A (σ.know s w))/\(t=!w->B (σ.know s (!w)))
 | .tup []=>B σ
 |_=>False
def Nl(d:Option Nat)(R:St->Prop)(σ:St)(v:AV)(u:List (Nat×Row)):Prop:=R (σ.app d v u)
def xA(d:Option Nat)(o:AOp)(R:St->Prop)(σ:St):Prop:=eff ok σ.gx σ.row (d.getD 0) o (Nl d R σ)
def KV(d:Option Nat)(R:St->Prop)(σ:St):Prop:=R (σ.app d (.tup []) [])
def UC(o:bc)(σ:St)(R:St->Prop):Prop:=
 match o.gd with
 |none=>xA ok o.d o.op R σ
 |some (s,w)=>eA σ s w (σ.get s) (xA ok o.d o.op R) (KV o.d R)
def dU:List bc->(St->Prop)->St->Prop
 |[],K,σ=>K σ
 |o::os,K,σ=>UC ok o σ (dU os K)
mutual
def AV.fz:AV->Bool
 | .sc _=>true
 | .lst f _ xs=>(match f with| .o=>fzL xs|_=>false)
 | .agg cs=>fzL cs
 | .tup cs=>fzL cs
 | .fn _ cs=>fzL cs
 | .bp f x _=>(match f with| .o=>x.fz|_=>false)
 | .sl _ _ _=>true
 | .pt _ _ _=>true
 | .top=>true
 | .ub=>true
 |_=>false
def fzL:List AV->Bool
 |[]=>true
 |c::cs=>c.fz&&fzL cs
end
mutual
def AV.ouB:AV->Bool
 | .sc _=>true
 | .lst f _ xs=>(match f with| .o=>fzL xs| .u=>cI xs|_=>false)
 | .agg cs=>cI cs
 | .top=>true
 |_=>false
def cI:List AV->Bool
 |[]=>true
 |c::cs=>c.ouB&&cI cs
end
def Row.fz:Row->Bool
 | .var x=>x.fz
 | .arr _ es=>cI es
 | .dead=>true
def St.fz(σ:St):Bool:=σ.env.all (fun p=>p.2.fz)&&σ.rows.all (fun p=>p.2.fz)
def argI(τ:St)(t len:Nat):X->AV
 | .t j=>if j=t then .sl 1000000000 0 len else τ.get j
 | .c a=>a
def Lv(τ:St)(t:Nat):X->Prop
 | .t j=>j=t\/(τ.get j).ments=[]
 | .c a=>a.ments=[]
def AV.hush(r:Nat)(a:AV):AV:=if r∈a.ments then .top else a
mutual
def AV.ren(r d:Nat):AV->AV
 | .sl q i n=>.sl (if q=r then d else q) i n
 | .pt q i o=>.pt (if q=r then d else q) i o
 | .agg cs=>.agg (iw r d cs)
 | .fn f cs=>.fn f (iw r d cs)
 | .tup cs=>.tup (iw r d cs)
 |x=>x
def iw(r d:Nat):List AV->List AV
 |[]=>[]
 |c::cs=>c.ren r d::iw r d cs
end
def Row.map(h:AV->AV):Row->Row
 | .var x=>.var (h x)
 |x=>x
def Row.hush(r:Nat):Row->Row
 | .var x=>if r∈x.ments then .dead else .var x
 |x=>x
def del{α:Type}(k:Nat):List (Nat×α)->List (Nat×α)
 |[]=>[]
 |(j,x)::l=>if j=k then del k l else(j,x)::del k l
def St.canSl (σ : St) (d r i n : Nat) : St :=
    if r=d\/1000000000<=r then σ
    else
     { env:=put d (.sl d i n) ((σ.env.map fun p=>(p.1,p.2.hush d)).map fun p=>(p.1,p.2.ren r d)),
       rows:=((del d σ.rows).map fun p=>(p.1,p.2.hush d)).map fun p=>(if p.1=r then d else p.1,p.2.map (·.ren r d))}
def St.canSr (σ : St) (d r i n : Nat) : St :=
    if r=d then σ
    else
     { env:=put d (.sl d i n) ((σ.env.map fun p=>(p.1,p.2.hush d)).map fun p=>(p.1,p.2.ren r d)),
       rows:=((del d σ.rows).map fun p=>(p.1,p.2.hush d)).map fun p=>(if p.1=r then d else p.1,p.2.map (·.ren r d))}
def St.canNil (σ : St) (d n : Nat) : St :=
    { env:=put d (.sl d 0 0) (σ.env.map fun p=>(p.1,p.2.hush d)),
      rows:=put d (.arr n []) ((del d σ.rows).map fun p=>(p.1,p.2.hush d))}
def St.canV(σ:St)(d:Nat)(x:AV):St:=match x with
 | .sl r i n=>σ.canSl d r i n
 | .lst .u n []=>σ.canNil d n
 |_=>σ
def St.canW(σ:St)(d:Nat)(x:AV):St:=match x with
 | .sl r i n=>σ.canSr d r i n
 | .lst .u n []=>σ.canNil d n
 |_=>σ
def St.canZr(σ:St)(d i m:Nat)(r:Nat):Option Row->St
 |some (.arr q es)=>⟨put d (.lst .m q (dj (sub es i m))) σ.env,put r .dead σ.rows⟩
 |_=>σ
def fR:List AV->Nat->AV->List AV
 |[],_,_=>[]
 |_::xs,0,y=>y::xs
 |x::xs,j+1,y=>x::fR xs j y
def St.canZcr(σ:St)(d:Nat)(all:List AV)(j r i m:Nat):Option Row->St
 |some (.arr q es)=>⟨put d (.agg (fR all j (.lst .m q (dj (sub es i m))))) σ.env,put r .dead σ.rows⟩
 |_=>σ
def St.canZc(σ:St)(d:Nat)(all:List AV):Nat->List AV->St
 |_,[]=>σ
 |j,.sl r i m::_=>σ.canZcr d all j r i m (aD r σ.rows)
 |j,_::cs=>σ.canZc d all (j+1) cs
def St.canZ(σ:St)(d:Nat)(x:AV):St:=match x with
 | .sl r i m=>σ.canZr d i m r (aD r σ.rows)
 | .agg cs=>σ.canZc d cs 0 cs
 |_=>σ
def qa:List AV->Nat->AV
 |[],_=>.top
 |x::_,0=>x
 |_::xs,j+1=>qa xs j
def fN(j:Nat):Option Row->AV
 |some (.var (.agg cs))=>qa cs j
 |some (.var (.sl q i m))=>if j=0 then .sl q i m else .top
 |some (.var (.lst f m xs))=>if j=0 then .lst f m xs else .top
 |_=>.top
def St.canFN(σ:St)(d r j m:Nat):Option Row->St
 |some (.var (.agg cs))=>⟨σ.env.map fun p=>(p.1,p.2.hush d),put d (.arr m []) (put r (.var (.agg (fR cs j (.sl d 0 0)))) ((del d σ.rows).map fun p=>(p.1,p.2.hush d)))⟩
 |some (.var (.lst .u _ []))=>⟨σ.env.map fun p=>(p.1,p.2.hush d),put d (.arr m []) (put r (.var (.sl d 0 0)) ((del d σ.rows).map fun p=>(p.1,p.2.hush d)))⟩
 |_=>σ
def St.canG(σ:St)(far:Bool)(d r j:Nat):AV->St
 | .sl q _ _=>if q=d\/far=false/\1000000000<=q then σ else
  ⟨(σ.env.map fun p=>(p.1,p.2.hush d)).map fun p=>(p.1,p.2.ren q d),((del d σ.rows).map fun p=>(p.1,p.2.hush d)).map fun p=>(if p.1=q then d else p.1,p.2.map (·.ren q d))⟩
 | .lst .u m []=>σ.canFN d r j m (aD r ((del d σ.rows).map fun p=>(p.1,p.2.hush d)))
 |_=>σ
def St.canEN(σ:St)(d k j m:Nat):Option AV->St
 |some (.agg cs)=>⟨put k (.agg (fR cs j (.sl d 0 0))) (σ.env.map fun p=>(p.1,p.2.hush d)),put d (.arr m []) ((del d σ.rows).map fun p=>(p.1,p.2.hush d))⟩
 |_=>σ
def St.canE(σ:St)(far:Bool)(d k j:Nat):AV->St
 | .sl q _ _=>if q=d\/far=false/\1000000000<=q then σ else
  ⟨(σ.env.map fun p=>(p.1,p.2.hush d)).map fun p=>(p.1,p.2.ren q d),((del d σ.rows).map fun p=>(p.1,p.2.hush d)).map fun p=>(if p.1=q then d else p.1,p.2.map (·.ren q d))⟩
 | .lst .u m []=>σ.canEN d k j m (aD k (σ.env.map fun p=>(p.1,p.2.hush d)))
 |_=>σ
def St.canXcr(σ:St)(r:Nat)(all:List AV)(j q i m:Nat):Option Row->St
 |some (.arr k es)=>⟨σ.env,put r (.var (.agg (fR all j (.lst .m k (dj (sub es i m)))))) (put q .dead σ.rows)⟩
 |_=>σ
def St.canXc(σ:St)(r:Nat)(all:List AV):Nat->List AV->St
 |_,[]=>σ
 |j,.sl q i m::_=>σ.canXcr r all j q i m (aD q σ.rows)
 |j,.lst .u n []::_=>⟨σ.env,put r (.var (.agg (fR all j (.lst .m n [])))) σ.rows⟩
 |j,_::cs=>σ.canXc r all (j+1) cs
def St.canX(σ:St)(r:Nat):Option Row->St
 |some (.arr n es)=>⟨σ.env,put r (.arr n (dj es)) σ.rows⟩
 |some (.var (.agg cs))=>σ.canXc r cs 0 cs
 |_=>σ
def St.can1(σ:St):Can->St
 | .s d=>σ.canV d (σ.get d)
 | .f far d r j=>σ.canG far d r j (fN j (aD r σ.rows))
 | .r d=>σ.canW d (σ.get d)
 | .z d=>σ.canZ d (σ.get d)
 | .e far d k j=>σ.canE far d k j (fN j (some (.var (σ.get k))))
 | .w r=>σ.canX r (aD r σ.rows)
def St.can(σ:St):List Can->St
 |[]=>σ
 |d::ds=>(σ.can1 d).can ds
def Can.low(n:Nat):Can->Bool
 | .s d=>decide (d<n)
 | .f _ d _ _=>decide (d<1000000000)&&decide (n<=d)
 | .r d=>decide (d<n)
 | .z d=>decide (d<n)
 | .e _ d k _=>decide (d<1000000000)&&decide (n<=d)&&decide (k<n)
 | .w _=>true
def St.res(σ:St)(lv lr:List Nat):St:=
 {env:=lv.map fun k=>(k,σ.get k),rows:=lr.map fun r=>(r,(σ.row r).getD .dead)}
def Row.ments:Row->List Nat
 | .var x=>x.ments
 |_=>[]
def St.resOk(σ:St)(lv lr:List Nat):Prop:=
 (∀k∈lv,∀r∈(σ.get k).ments,r∈lr)/\(∀q∈lr,∀r∈((σ.row q).getD .dead).ments,r∈lr)/\lr.Nodup
inductive Ex where
 |nrm
 |ex (id:Nat)
 |ret
def thn(K:St->Prop)(Q:Ex->St->Prop):Ex->St->Prop
 | .nrm,σ=>K σ
 |e,σ=>Q e σ
def inb(id:Nat)(Q:Ex->St->Prop):Ex->St->Prop
 | .ex j,σ=>if j=id then Q .nrm σ else Q (.ex j) σ
 |e,σ=>Q e σ
def tst(x:AV)(A B:Prop):Prop:=match x with
 | .sc (.bool t)=>(t=true->A)/\(t=false->B)
 | .ub=>A/\B
 |_=>False
def Hk(Q:Ex->St->Prop)(can:List Can)(σ:St):Prop:=Q .nrm (σ.can can)
def St.rb(σ:St)(lv:List Nat):St:=⟨lv.map fun k=>(k,snp σ.row 4 (σ.get k)),[]⟩
def AV.scal:AV->AV
 | .sc v=>.sc v
 |_=>.top
def St.scal(σ:St):St:=⟨σ.env.map fun p=>(p.1,p.2.scal),[]⟩
def rbQ(Q:Ex->St->Prop)(e:Ex)(τ:St):Prop:=Q e τ.scal
def AWP:ar->(Ex->St->Prop)->St->Prop
 | .skip,Q,σ=>Q .nrm σ
 | .reg ops can,Q,σ=>dU ok ops (Hk Q can) σ
 | .drw ops can,Q,σ=>dU ok ops (Hk Q can) σ
 | .seq a b,Q,σ=>AWP a (thn (AWP b Q) Q) σ
 | .seqr a lv lr b,Q,σ=>AWP a (thn (fun τ=>τ.resOk lv lr/\AWP b Q (τ.res lv lr)) Q) σ
 | .seqa x a lv lr b,Q,σ=>AWP x (thn (AWP a (thn (fun τ=>τ.resOk lv lr/\AWP b Q (τ.res lv lr)) Q)) Q) σ
 | .seqb a lv b,Q,σ=>AWP a (thn (fun τ=>AWP b (rbQ Q) (τ.rb lv)) Q) σ
 | .cond x a b,Q,σ=>tst (σ.gx x) (AWP a Q σ) (AWP b Q σ)
 | .blk id a,Q,σ=>AWP a (inb id Q) σ
 | .loop a,Q,σ=>∃(lv lr:List Nat)(I:St->Prop)(μ:St->Nat),σ.resOk lv lr/\I (σ.res lv lr)/\
  ∀τ,I τ->AWP a (thn (fun τ'=>τ'.resOk lv lr/\I (τ'.res lv lr)/\μ (τ'.res lv lr)<μ τ) Q) τ
 | .exit id,Q,σ=>Q (.ex id) σ
 | .ret,Q,σ=>Q .ret σ
inductive RV where
 |t (n:Nat)
 |c (n k:Nat) (ag:Bool)
def RV.val(σ:St):RV->Option AV
 | .t n=>some (σ.get n)
 | .c n k ag => match σ.get n with
   | .pt r 0 0 => match σ.row r with
     |some (.var y)=>part y 0 k ag
     |_=>none
   |_=>none
def RVs.val(σ:St):List RV->Option (List AV)
 |[]=>some []
 | r :: rs => match r.val σ, RVs.val σ rs with
   |some x,some xs=>some (x::xs)
   |_,_=>none
def fY:List AV->AV
 |[x]=>x
 |xs=>.tup xs
def fin(rs:List RV)(res:AV):Ex->St->Prop
 | .nrm,σ| .ret,σ=>∃xs,RVs.val σ rs=some xs/\(aN xs).Nodup/\lift σ.row 3 (fY xs)=res
 |_,_=>False
def St.start(args:List AV):St:={env:=go 0 args,rows:=[]}
where go:Nat->List AV->List (Nat×AV)
 |_,[]=>[]
 |n,a::as=>(n,a)::go (n+1) as
def Tn(a:ar)(rs:List RV)(args:List AV)(res:AV):Prop:=AWP ok a (fin rs res) (St.start args)
end
end Vs

namespace Vs
open Go
theorem gM(xs:List AV):gA xs=xs.map AV.nrm:=by
 induction xs with
 |nil=>simp[gA]
 |cons x xs ih=>simp[gA,ih]
theorem gK(xs:List AV):dj xs=xs.map AV.als:=by
 induction xs with
 |nil=>simp[dj]
 |cons x xs ih=>simp[dj,ih]
theorem fj(xs:List AV):fG xs=xs.map AV.fix:=by
 induction xs with
 |nil=>simp[fG]
 |cons x xs ih=>simp[fG,ih]
theorem kY(r d:Nat)(xs:List AV):iw r d xs=xs.map (AV.ren r d):=by
 induction xs with
 |nil=>simp[iw]
 |cons x xs ih=>simp[iw,ih]
theorem rn(xs:List AV):jw xs↔∀x∈xs,x.allU:=by
 induction xs with
 |nil=>simp[jw]
 |cons x xs ih=>simp[jw,ih]
theorem TE(ρ:Nat->Option Row)(k:Nat)(v:Value):snp ρ (k+1) (.sc v)=.sc v:=by simp[snp,AV.nrm]
theorem Pm(ρ:Nat->Option Row)(k:Nat)(f:Fl)(n:Nat)(xs:List AV):snp ρ (k+1) (.lst f n xs)=.lst .o n (xs.map AV.nrm):=by simp[snp,AV.nrm,gM]
theorem Th(ρ:Nat->Option Row)(k:Nat)(f:Fl)(n:Nat)(xs:List AV):snp ρ (k+1) (.tg f n xs)=.lst .o n (xs.map AV.nrm):=by simp[snp,AV.nrm,gM]
theorem OL(ρ:Nat->Option Row)(k:Nat)(cs:List AV):snp ρ (k+1) (.agg cs)=.agg (cs.map (snp ρ k)):=by simp[snp]
theorem TR(ρ:Nat->Option Row)(k:Nat)(f:Nat)(cs:List AV):snp ρ (k+1) (.fn f cs)=.fn f (cs.map (snp ρ k)):=by simp[snp]
theorem TQ(ρ:Nat->Option Row)(k:Nat)(f:Fl)(x:AV)(off:Nat):snp ρ (k+1) (.bp f x off)=.bp .o x.nrm off:=by simp[snp,AV.nrm]
theorem TG(ρ:Nat->Option Row)(k:Nat)(r i n:Nat):snp ρ (k+1) (.sl r i n)=mE (ρ r) i n:=by simp only[snp]
theorem DN(w:Nat)(es:List AV)(i n:Nat):mE (some (.arr w es)) i n=.lst .o w ((sub es i n).map AV.nrm):=by simp[mE,gM]
theorem Tp(ρ:Nat->Option Row)(k:Nat)(r i off:Nat):snp ρ (k+1) (.pt r i off)=lg (snp ρ k) (ρ r) i off:=by simp only[snp]
theorem AM(h:AV->AV)(y:AV)(off:Nat):lg h (some (.var y)) 0 off=.bp .o (h y) off:=by simp[lg]
theorem NP(ρ:Nat->Option Row)(k:Nat)(v:Value):lift ρ (k+1) (.sc v)=.sc v:=by simp[lift]
theorem GX(ρ:Nat->Option Row)(k:Nat)(f:Fl)(n:Nat)(xs:List AV):lift ρ (k+1) (.lst f n xs)=.lst f n xs:=by simp[lift]
theorem El(ρ:Nat->Option Row)(k:Nat)(cs:List AV):lift ρ (k+1) (.agg cs)=.agg (cs.map (lift ρ k)):=by simp[lift]
theorem Em(ρ:Nat->Option Row)(k:Nat)(cs:List AV):lift ρ (k+1) (.tup cs)=.tup (cs.map (lift ρ k)):=by simp[lift]
theorem OB(ρ:Nat->Option Row)(k:Nat)(r i n:Nat):lift ρ (k+1) (.sl r i n)=kt (ρ r) i n:=by simp only[lift]
theorem xV(w:Nat)(es:List AV)(i n:Nat):kt (some (.arr w es)) i n=.lst .u w (sub es i n):=rfl
theorem lB(k c:Nat)(v:Value):adopt (k+1) c (.sc v)=(.sc v,[],c):=by simp[adopt,AV.fix]
theorem Ab(k c n:Nat)(es:List AV):adopt (k+1) c (.lst .u n es)=(.sl c 0 es.length,[(c,.arr n (es.map AV.fix))],c+1000):=by simp[adopt,fj]
theorem zI(k c n:Nat)(es:List AV):adopt (k+1) c (.lst .o n es)=(.lst .s n (es.map AV.fix),[],c):=by simp[adopt,AV.fix,fj,Fl.fix]
theorem zx(k c n:Nat)(es:List AV):adopt (k+1) c (.lst .m n es)=(.lst .m n (es.map AV.fix),[],c):=by simp[adopt,AV.fix,fj,Fl.fix]
theorem zd(k c n:Nat)(es:List AV):adopt (k+1) c (.lst .s n es)=(.lst .s n (es.map AV.fix),[],c):=by simp[adopt,AV.fix,fj,Fl.fix]
theorem qF(k c:Nat)(xs:List AV):adopt (k+1) c (.tup xs)=(.tup (adopt.go k c xs).1,(adopt.go k c xs).2.1,(adopt.go k c xs).2.2):=by simp[adopt]
theorem qW(k c:Nat)(xs:List AV):adopt (k+1) c (.agg xs)=(.agg (adopt.go k c xs).1,(adopt.go k c xs).2.1,(adopt.go k c xs).2.2):=by simp[adopt]
theorem qP(k c:Nat):adopt.go k c []=([],[],c):=by simp[adopt.go]
theorem pn(k c:Nat)(x:AV)(xs:List AV):adopt.go k c (x::xs)=
 ((adopt k c x).1::(adopt.go k (adopt k c x).2.2 xs).1,(adopt k c x).2.1++(adopt.go k (adopt k c x).2.2 xs).2.1,(adopt.go k (adopt k c x).2.2 xs).2.2):=by simp[adopt.go]
theorem cn(v:Value):(AV.sc v).nrm=.sc v:=by simp[AV.nrm]
theorem en(f:Fl)(n:Nat)(xs:List AV):(AV.lst f n xs).nrm=.lst .o n (xs.map AV.nrm):=by simp[AV.nrm,gM]
theorem ec(cs:List AV):(AV.agg cs).nrm=.agg (cs.map AV.nrm):=by simp[AV.nrm,gM]
theorem TI(f:Fl)(x:AV)(off:Nat):(AV.bp f x off).nrm=.bp .o x.nrm off:=by simp[AV.nrm]
theorem du(v:Value):(AV.sc v).als=.sc v:=by simp[AV.als]
theorem eb(f:Fl)(n:Nat)(xs:List AV):(AV.lst f n xs).als=.lst f.als n (xs.map AV.als):=by simp[AV.als,gK]
theorem eg(cs:List AV):(AV.agg cs).als=.agg (cs.map AV.als):=by simp[AV.als,gK]
theorem dH(v:Value):(AV.sc v).fix=.sc v:=by simp[AV.fix]
theorem dN(f:Fl)(n:Nat)(xs:List AV):(AV.lst f n xs).fix=.lst f.fix n (xs.map AV.fix):=by simp[AV.fix,fj]
theorem dS(cs:List AV):(AV.agg cs).fix=.agg (cs.map AV.fix):=by simp[AV.fix,fj]
theorem eI(xs:List Int):(xs.map AV.i).map AV.nrm=xs.map AV.i:=by simp[cn]
theorem eC(xs:List Int):(xs.map AV.i).map AV.als=xs.map AV.i:=by simp[du]
theorem dR(xs:List Int):(xs.map AV.i).map AV.fix=xs.map AV.i:=by simp[dH]
theorem BZ(xs:List Bool):(xs.map AV.b).map AV.nrm=xs.map AV.b:=by simp[cn]
theorem CN(xs:List Bool):(xs.map AV.b).map AV.als=xs.map AV.b:=by simp[du]
theorem rl(xs:List Bool):(xs.map AV.b).map AV.fix=xs.map AV.b:=by simp[dH]
theorem mc(xs:List ByteArray):(xs.map AV.z).map AV.nrm=xs.map AV.z:=by simp[cn]
theorem lO(xs:List ByteArray):(xs.map AV.z).map AV.als=xs.map AV.z:=by simp[du]
theorem jL(xs:List ByteArray):(xs.map AV.z).map AV.fix=xs.map AV.z:=by simp[dH]
theorem wN(xs:List Int):(xs.map AV.u8).map AV.nrm=xs.map AV.u8:=by simp[cn]
theorem BW:AV.als∘AV.i=AV.i:=by funext x;simp[du]
theorem BV:AV.als∘AV.b=AV.b:=by funext x;simp[du]
theorem Bn:AV.als∘AV.z=AV.z:=by funext x;simp[du]
theorem xi(xs:List Int):(xs.map AV.u8).map AV.als=xs.map AV.u8:=by simp[du]
theorem py(xs:List Int):(xs.map AV.u8).map AV.fix=xs.map AV.u8:=by simp[dH]
theorem OI{α:Type}(a:α):(some a).isSome=true:=rfl
theorem c_eq{α:Type}(a:α):(a=a)=True:=eq_self a
theorem Wb(p:Prop):(True/\p)=p:=true_and p
theorem TC(p:Prop):(p/\True)=p:=and_true p
theorem NS(n:Nat)(xs:List AV):(∃es,some (Row.arr n xs)=some (Row.arr n es))=True:=by simp
theorem Mv(n:Nat)(xs:List AV):(∃w es,some (Row.arr n xs)=some (Row.arr w es))=True:=by simp
theorem Vk(p:Prop):(False->p)=True:=by simp
theorem SV(p:Prop):(True->p)=p:=by simp
theorem Oz{α:Type}(q:α->Prop):(∀p∈([]:List α),q p)=True:=by simp
theorem Nk{α:Type}(x:α)(l:List α)(q:α->Prop):(∀p∈x::l,q p)=(q x/\∀p∈l,q p):=by simp
theorem IH:sub [] 0 0=[]:=rfl
theorem Kk(n:Nat):0+n=n:=Nat.zero_add n
theorem IK(n:Nat):n+0=n:=Nat.add_zero n
theorem TW(n:Nat):n-0=n:=Nat.sub_zero n
theorem Uq(d:Nat):(d∈([]:List Nat))=False:=by simp
theorem TX(d x:Nat)(l:List Nat):(d∈x::l)=(d=x\/d∈l):=by simp
theorem Wz(p:Prop):(p\/False)=p:=or_false p
theorem We(p:Prop):(False\/p)=p:=false_or p
theorem VO(p:Prop):(p\/True)=True:=or_true p
theorem VT(p:Prop):(True\/p)=True:=true_or p
theorem US:(¬False)=True:=not_false_eq_true
theorem UT:(¬True)=False:=not_true_eq_false
theorem Wm(n:Nat):(n<=n)=True:=by simp
theorem Wr(n:Nat):(0<=n)=True:=by simp
theorem Nr{α:Type}(f:α->AV)(l:List α):sub (l.map f) 0 l.length=l.map f:=by simp[sub]
theorem la(h:Nat->Nat)(xs:List AV):rgL h xs=xs.map (AV.rg h):=by
 induction xs with
 |nil=>simp[rgL]
 |cons x xs ih=>simp[rgL,ih]
theorem Rh(h:Nat->Nat)(v:Value):(AV.sc v).rg h=.sc v:=by simp[AV.rg]
theorem Hq(h:Nat->Nat)(f:Fl)(n:Nat)(xs:List AV):(AV.lst f n xs).rg h=.lst f n xs:=by simp[AV.rg]
theorem RX(h:Nat->Nat)(f:Fl)(n:Nat)(xs:List AV):(AV.tg f n xs).rg h=.tg f n xs:=by simp[AV.rg]
theorem Rr(h:Nat->Nat)(f:Fl)(x:AV)(off:Nat):(AV.bp f x off).rg h=.bp f x off:=by simp[AV.rg]
theorem Km(h:Nat->Nat):AV.top.rg h=.top:=by simp[AV.rg]
theorem Fa(h:Nat->Nat)(cs:List AV):(AV.agg cs).rg h=.agg (cs.map (AV.rg h)):=by simp[AV.rg,la]
theorem SD(h:Nat->Nat)(f:Nat)(cs:List AV):(AV.fn f cs).rg h=.fn f (cs.map (AV.rg h)):=by simp[AV.rg,la]
theorem Li(h:Nat->Nat)(cs:List AV):(AV.tup cs).rg h=.tup (cs.map (AV.rg h)):=by simp[AV.rg,la]
theorem Sb(h:Nat->Nat)(q i n:Nat):(AV.sl q i n).rg h=.sl (h q) i n:=by simp[AV.rg]
theorem RK(h:Nat->Nat)(q i n:Nat):(AV.pt q i n).rg h=.pt (h q) i n:=by simp[AV.rg]
theorem zZ(h:Nat->Nat)(x:AV):(Row.var x).rg h=.var (x.rg h):=rfl
theorem zF(h:Nat->Nat)(n:Nat)(xs:List AV):(Row.arr n xs).rg h=.arr n xs:=rfl
theorem tM(h:Nat->Nat):Row.dead.rg h=.dead:=rfl
theorem tq(r x:Nat)(xs:List Nat):pos r (x::xs)=if x=r then 0 else pos r xs+1:=rfl
theorem Iu(rs:List Nat)(r:Nat):cnm rs r=1000000000+pos r rs:=rfl
theorem FT(d:Nat)(rs:List Nat)(q:Nat):bkn d rs q=if 1000000000<=q then rs.getD (q-1000000000) 0 else q+100000*(d+1):=rfl
theorem Fu(ρ:Nat->Option Row)(rs:List Nat)(r:Nat):gj ρ rs r=(cnm rs r,((ρ r).getD .dead).rg (cnm rs)):=rfl
theorem vn(d:Nat)(rs:List Nat)(p:Nat×Row):eV d rs p=(bkn d rs p.1,p.2.rg (bkn d rs)):=rfl
theorem wX(x:AV):lU (some (.var x))=x.ments:=rfl
theorem vO(n:Nat)(xs:List AV):lU (some (.arr n xs))=[]:=rfl
theorem Aj(x y:Nat)(l:List Nat):(x::l).getD 0 y=x:=rfl
theorem yC(x y:Nat)(l:List Nat)(n:Nat):(x::l).getD (n+1) y=l.getD n y:=by simp
theorem Vp(r d:Nat)(v:Value):(AV.sc v).ren r d=.sc v:=by simp[AV.ren]
theorem Nm(r d:Nat)(f:Fl)(n:Nat)(xs:List AV):(AV.lst f n xs).ren r d=.lst f n xs:=by simp[AV.ren]
theorem VK(r d:Nat)(f:Fl)(n:Nat)(xs:List AV):(AV.tg f n xs).ren r d=.tg f n xs:=by simp[AV.ren]
theorem Tt(r d:Nat)(f:Fl)(x:AV)(off:Nat):(AV.bp f x off).ren r d=.bp f x off:=by simp[AV.ren]
theorem Rd(r d:Nat):AV.top.ren r d=.top:=by simp[AV.ren]
theorem Np(r d:Nat)(cs:List AV):(AV.agg cs).ren r d=.agg (cs.map (AV.ren r d)):=by simp[AV.ren,kY]
theorem VE(r d f:Nat)(cs:List AV):(AV.fn f cs).ren r d=.fn f (cs.map (AV.ren r d)):=by simp[AV.ren,kY]
theorem OM(r d:Nat)(cs:List AV):(AV.tup cs).ren r d=.tup (cs.map (AV.ren r d)):=by simp[AV.ren,kY]
theorem Ta(r d q i n:Nat):(AV.sl q i n).ren r d=.sl (if q=r then d else q) i n:=by simp[AV.ren]
theorem Vc(r d q i n:Nat):(AV.pt q i n).ren r d=.pt (if q=r then d else q) i n:=by simp[AV.ren]
theorem JO(ok:Oks)(Q:Ex->St->Prop)(σ:St):AWP ok .skip Q σ=Q .nrm σ:=by simp only[AWP]
theorem NG(ok:Oks)(Q:Ex->St->Prop)(σ:St)(ops:List bc)(can:List Can):AWP ok (.reg ops can) Q σ=dU ok ops (Hk Q can) σ:=by simp only[AWP]
theorem OO(ok:Oks)(Q:Ex->St->Prop)(σ:St)(ops:List bc)(can:List Can):AWP ok (.drw ops can) Q σ=dU ok ops (Hk Q can) σ:=by simp only[AWP]
theorem PT(ok:Oks)(Q:Ex->St->Prop)(σ:St)(a b:ar):AWP ok (.seq a b) Q σ=AWP ok a (thn (AWP ok b Q) Q) σ:=by simp only[AWP]
def sq(ok:Oks)(v:AV)(a b:ar)(Q:Ex->St->Prop)(σ:St):Prop:=tst v (AWP ok a Q σ) (AWP ok b Q σ)
theorem Ez(ok:Oks)(Q:Ex->St->Prop)(σ:St)(x:X)(a b:ar):AWP ok (.cond x a b) Q σ=sq ok (σ.gx x) a b Q σ:=by simp only[AWP,sq]
theorem TD(ok:Oks)(Q:Ex->St->Prop)(σ:St)(a b:ar):sq ok (.sc (.bool true)) a b Q σ=AWP ok a Q σ:=by simp[sq,tst]
theorem VH(ok:Oks)(Q:Ex->St->Prop)(σ:St)(a b:ar):sq ok .ub a b Q σ=(AWP ok a Q σ/\AWP ok b Q σ):=by simp[sq,tst]
theorem SX(ok:Oks)(Q:Ex->St->Prop)(σ:St)(a b:ar):sq ok (.sc (.bool false)) a b Q σ=AWP ok b Q σ:=by simp[sq,tst]
theorem Jd(ok:Oks)(Q:Ex->St->Prop)(σ:St)(x a:ar)(lv lr:List Nat)(b:ar):AWP ok (.seqa x a lv lr b) Q σ=AWP ok x (thn (AWP ok (.seqr a lv lr b) Q) Q) σ:=by simp only[AWP]
theorem Gr(ok:Oks)(Q:Ex->St->Prop)(σ:St)(a:ar)(lv:List Nat)(b:ar):AWP ok (.seqb a lv b) Q σ=AWP ok a (thn (fun τ=>AWP ok b (rbQ Q) (τ.rb lv)) Q) σ:=by simp only[AWP]
theorem Wo(env:List (Nat×AV))(rows:List (Nat×Row))(lv:List Nat):St.rb ⟨env,rows⟩ lv=⟨lv.map fun k=>(k,snp (St.row ⟨env,rows⟩) 4 (St.get ⟨env,rows⟩ k)),[]⟩:=rfl
theorem VN(Q:Ex->St->Prop)(e:Ex)(env:List (Nat×AV))(rows:List (Nat×Row)):rbQ Q e ⟨env,rows⟩=Q e ⟨env.map fun p=>(p.1,p.2.scal),[]⟩:=rfl
theorem Oy(v:Value):(AV.sc v).scal=.sc v:=rfl
theorem OA(ok:Oks)(Q:Ex->St->Prop)(σ:St)(id:Nat)(a:ar):AWP ok (.blk id a) Q σ=AWP ok a (inb id Q) σ:=by simp only[AWP]
theorem Eb(ok:Oks)(Q:Ex->St->Prop)(σ:St)(id:Nat):AWP ok (.exit id) Q σ=Q (.ex id) σ:=by simp only[AWP]
theorem QF(ok:Oks)(Q:Ex->St->Prop)(σ:St):AWP ok .ret Q σ=Q .ret σ:=by simp only[AWP]
theorem Ol(K:St->Prop)(Q:Ex->St->Prop)(σ:St):thn K Q .nrm σ=K σ:=rfl
theorem Tl(K:St->Prop)(Q:Ex->St->Prop)(i:Nat)(σ:St):thn K Q (.ex i) σ=Q (.ex i) σ:=rfl
theorem Pv(K:St->Prop)(Q:Ex->St->Prop)(σ:St):thn K Q .ret σ=Q .ret σ:=rfl
theorem Ps(i:Nat)(Q:Ex->St->Prop)(σ:St):inb i Q .nrm σ=Q .nrm σ:=rfl
theorem TL(i j:Nat)(Q:Ex->St->Prop)(σ:St):inb i Q (.ex j) σ=if j=i then Q .nrm σ else Q (.ex j) σ:=rfl
theorem PE(i:Nat)(Q:Ex->St->Prop)(σ:St):inb i Q .ret σ=Q .ret σ:=rfl
theorem TV(ok:Oks)(g:X->AV)(ρ:Nat->Option Row)(d:Nat)(K:AV->List (Nat×Row)->Prop)(x:X):eff ok g ρ d (.mv x) K=K (g x) []:=rfl
theorem Lt(ok:Oks)(g:X->AV)(ρ:Nat->Option Row)(d:Nat)(K:AV->List (Nat×Row)->Prop)(c a b:X):eff ok g ρ d (.pick c a b) K=jZ K (g c) (g a) (g b):=rfl
theorem Pg(K:AV->List (Nat×Row)->Prop)(a b:AV):jZ K (.sc (.bool true)) a b=K a []:=by simp[jZ]
theorem Qp(K:AV->List (Nat×Row)->Prop)(a b:AV):jZ K (.sc (.bool false)) a b=K b []:=by simp[jZ]
theorem BN(ok:Oks)(g:X->AV)(ρ:Nat->Option Row)(d:Nat)(K:AV->List (Nat×Row)->Prop)(z:AV):eff ok g ρ d (.alloc z) K=(ρ d=none/\K (.pt d 0 0) [(d,.var z)]):=rfl
theorem PH(ok:Oks)(g:X->AV)(ρ:Nat->Option Row)(d:Nat)(K:AV->List (Nat×Row)->Prop)(n:Nat)(x:X):eff ok g ρ d (.box n x) K=(ρ d=none/\(g x).width=n/\K (.pt d 0 0) [(d,.var (g x))]):=rfl
theorem BQ(ok:Oks)(g:X->AV)(ρ:Nat->Option Row)(d:Nat)(K:AV->List (Nat×Row)->Prop)(z:List AV)(ps:List (Nat×Nat×X)):eff ok g ρ d (.build z ps) K=
 ((∀p∈ps,(g p.2.2).width=p.2.1/\p.1+p.2.1<=z.length)/\K (.agg (jS z (ps.map fun p=>(p.1,g p.2.2)))) []):=rfl
theorem PN(ok:Oks)(g:X->AV)(ρ:Nat->Option Row)(d:Nat)(K:AV->List (Nat×Row)->Prop)(n:Nat)(fr:Bool)(ps:List X):eff ok g ρ d (.bsl n fr ps) K=((fr=true->aN (ps.map g)=[])/\ρ d=none/\(∀p∈ps,(g p).width=n)/\(aN (ps.map g)).Nodup/\
 K (.sl d 0 ps.length) (bE (aN (ps.map g))++[(d,.arr n ((ps.map g).map (lift ρ 2)))])):=rfl
theorem vI(x:AV):cJ (some (.var x))=True:=rfl
theorem wx(n:Nat)(x:List AV):cJ (some (.arr n x))=True:=rfl
theorem zk(rs:List Nat):bE rs=rs.map fun r=>(r,.dead):=rfl
theorem VZ(K:AV->List (Nat×Row)->Prop)(v:AV):k1 K v=K v []:=rfl
theorem LY(ok:Oks)(g:X->AV)(ρ:Nat->Option Row)(d:Nat)(K:AV->List (Nat×Row)->Prop)(n:Nat)(ag:Bool)(x:X):eff ok g ρ d (.load n ag x) K=dT K ρ n ag (g x):=rfl
theorem HN(ρ:Nat->Option Row)(K:AV->List (Nat×Row)->Prop)(n:Nat)(ag:Bool)(f:Fl)(y:AV)(off:Nat):dT K ρ n ag (.bp f y off)=opt (part y off n ag) (k1 K):=rfl
theorem Eg(ρ:Nat->Option Row)(K:AV->List (Nat×Row)->Prop)(n:Nat)(ag:Bool)(r i off:Nat):dT K ρ n ag (.pt r i off)=ea K (ρ r) i off n ag:=rfl
theorem uk(K:AV->List (Nat×Row)->Prop)(y:AV)(i off n:Nat)(ag:Bool):ea K (some (.var y)) i off n ag=(i=0/\opt (part y off n ag) (k1 K)):=rfl
theorem uv(K:AV->List (Nat×Row)->Prop)(w:Nat)(es:List AV)(i off n:Nat)(ag:Bool):ea K (some (.arr w es)) i off n ag=opt es[i]? (JT K off n ag):=rfl
theorem KR(K:AV->List (Nat×Row)->Prop)(off n:Nat)(ag:Bool)(y:AV):JT K off n ag y=opt (part y.als off n ag) (k1 K):=rfl
theorem Az(ok:Oks)(g:X->AV)(ρ:Nat->Option Row)(d:Nat)(K:AV->List (Nat×Row)->Prop)(n:Nat)(x v:X):eff ok g ρ d (.store n x v) K=cM K ρ n (g x) (g v):=rfl
theorem CA(ρ:Nat->Option Row)(K:AV->List (Nat×Row)->Prop)(n r i off:Nat)(v:AV):cM K ρ n (.pt r i off) v=(v.width=n/\cZ K ρ (ρ r) r i off v):=rfl
theorem sv(ρ:Nat->Option Row)(K:AV->List (Nat×Row)->Prop)(y:AV)(r i off:Nat)(v:AV):cZ K ρ (some (.var y)) r i off v=(i=0/\opt (setPart y off v) (Ea K r)):=rfl
theorem Ir(K:AV->List (Nat×Row)->Prop)(r:Nat)(y:AV):Ea K r y=K .top [(r,.var y)]:=rfl
theorem sn(ρ:Nat->Option Row)(K:AV->List (Nat×Row)->Prop)(w:Nat)(es:List AV)(r i off:Nat)(v:AV):cZ K ρ (some (.arr w es)) r i off v=opt es[i]? (nL K ρ r w i off es v):=rfl
theorem DX(ρ:Nat->Option Row)(K:AV->List (Nat×Row)->Prop)(w:Nat)(es:List AV)(r i off:Nat)(v y:AV):nL K ρ r w i off es v y=
 (r∉v.ments/\v.ments.Nodup/\(lift ρ 2 v).width=v.width/\opt (setPart y off (lift ρ 2 v)) (wh K (bE v.ments) r w i es)):=rfl
theorem Aw(K:AV->List (Nat×Row)->Prop)(u:List (Nat×Row))(r w i:Nat)(es:List AV)(y:AV):wh K u r w i es y=K .top (u++[(r,.arr w (es.set i y))]):=rfl
theorem Nx(ok:Oks)(g:X->AV)(ρ:Nat->Option Row)(d:Nat)(K:AV->List (Nat×Row)->Prop)(n:Nat)(ps:List X):eff ok g ρ d (.bsm n ps) K=((∀r∈aN (ps.map g),wT (ρ r))/\ρ d=none/\(∀p∈ps,(g p).width=n)/\(aN (ps.map g)).Nodup/\
 K (.sl d 0 ps.length) (bE (aN (ps.map g))++[(d,.arr n ((ps.map g).map (lift ρ 2)))])):=rfl
theorem Oq(ok:Oks)(g:X->AV)(ρ:Nat->Option Row)(d:Nat)(K:AV->List (Nat×Row)->Prop)(n:Nat)(x v:X):eff ok g ρ d (.stv n x v) K=(vPv ρ (g x)/\cM K ρ n (g x) (g v)):=rfl
theorem Nj(ok:Oks)(g:X->AV)(ρ:Nat->Option Row)(d:Nat)(K:AV->List (Nat×Row)->Prop)(n:Nat)(ag:Bool)(x:X):eff ok g ρ d (.lda n ag x) K=(aPb ρ (g x)/\dT K ρ n ag (g x)):=rfl
theorem PI(ok:Oks)(g:X->AV)(ρ:Nat->Option Row)(d:Nat)(K:AV->List (Nat×Row)->Prop)(av:List Nat)(off:Nat)(x:X):eff ok g ρ d (.fdv av off x) K=(vPt av ρ (g x)/\jo K ρ off (g x)):=rfl
theorem Vl(ρ:Nat->Option Row)(r i off:Nat):aPb ρ (.pt r i off)=wT (ρ r):=rfl
theorem SS(ρ:Nat->Option Row)(f:Fl)(y:AV)(off:Nat):aPb ρ (.bp f y off)=True:=rfl
theorem Ug(ρ:Nat->Option Row)(r i off:Nat):vPv ρ (.pt r i off)=xx (ρ r):=rfl
theorem PJ(ok:Oks)(g:X->AV)(ρ:Nat->Option Row)(d:Nat)(K:AV->List (Nat×Row)->Prop)(av:List Nat)(n:Nat)(ag:Bool)(x:X):eff ok g ρ d (.ldv av n ag x) K=(vPt av ρ (g x)/\dT K ρ n ag (g x)):=rfl
theorem Qt(ok:Oks)(g:X->AV)(ρ:Nat->Option Row)(d:Nat)(K:AV->List (Nat×Row)->Prop)(n:Nat)(x v:X):eff ok g ρ d (.str n x v) K=(aPt ρ (g x)/\(g v).ments=[]/\cM K ρ n (g x) (g v)):=rfl
theorem Vz(ρ:Nat->Option Row)(av:List Nat)(r i off:Nat):vPt av ρ (.pt r i off)=(r∉av/\xx (ρ r)):=rfl
theorem Tu(ρ:Nat->Option Row)(av:List Nat)(f:Fl)(y:AV)(off:Nat):vPt av ρ (.bp f y off)=True:=rfl
theorem TA(ρ:Nat->Option Row)(r i off:Nat):aPt ρ (.pt r i off)=wT (ρ r):=rfl
theorem MD(x:AV):xx (some (.var x))=True:=rfl
theorem Fq(n:Nat)(x:List AV):wT (some (.arr n x))=True:=rfl
theorem QB(ok:Oks)(g:X->AV)(ρ:Nat->Option Row)(d:Nat)(K:AV->List (Nat×Row)->Prop)(op:BinOp)(x y:X):eff ok g ρ d (.bin op x y) K=cX op (g x) (g y) (k1 K):=rfl
theorem Qy(ok:Oks)(g:X->AV)(ρ:Nat->Option Row)(d:Nat)(K:AV->List (Nat×Row)->Prop)(neg:Bool)(x y:X):eff ok g ρ d (.beq neg x y) K=vq K neg (g x) (g y):=rfl
theorem Uw(K:AV->List (Nat×Row)->Prop)(a b:Bool):vq K false (.sc (.bool a)) (.sc (.bool b))=K (.sc (.bool (a==b))) []:=rfl
theorem Vj(K:AV->List (Nat×Row)->Prop)(a b:Bool):vq K true (.sc (.bool a)) (.sc (.bool b))=K (.sc (.bool (!(a==b)))) []:=rfl
theorem Pn(ok:Oks)(g:X->AV)(ρ:Nat->Option Row)(d:Nat)(K:AV->List (Nat×Row)->Prop)(neg:Bool)(x y:X):eff ok g ρ d (.aeq neg x y) K=vd K neg (g x) (g y):=rfl
theorem Uu(K:AV->List (Nat×Row)->Prop)(a b c e:Int):vd K false (.agg [.sc (.int .i64 a),.sc (.int .i64 b)]) (.agg [.sc (.int .i64 c),.sc (.int .i64 e)])=K (.sc (.bool (a==c&&b==e))) []:=rfl
theorem Uj(K:AV->List (Nat×Row)->Prop)(a b c e:Int):vd K true (.agg [.sc (.int .i64 a),.sc (.int .i64 b)]) (.agg [.sc (.int .i64 c),.sc (.int .i64 e)])=K (.sc (.bool (!(a==c&&b==e)))) []:=rfl
theorem Ts(ok:Oks)(g:X->AV)(ρ:Nat->Option Row)(d:Nat)(K:AV->List (Nat×Row)->Prop)(op:UnOp)(x:X):eff ok g ρ d (.un op x) K=unV op (g x) (k1 K):=rfl
theorem LA(ok:Oks)(g:X->AV)(ρ:Nat->Option Row)(d:Nat)(K:AV->List (Nat×Row)->Prop)(q:IntKind)(x:X):eff ok g ρ d (.conv q x) K=oE K q (g x):=rfl
theorem QL(K:AV->List (Nat×Row)->Prop)(q q':IntKind)(n:Int):oE K q (.sc (.int q' n))=K (.sc (.int q (q.wrap n))) []:=rfl
theorem Qg(ok:Oks)(g:X->AV)(ρ:Nat->Option Row)(d:Nat)(K:AV->List (Nat×Row)->Prop)(f:Nat)(cs:List X):eff ok g ρ d (.mkf f cs) K=K (.fn f (cs.map g)) []:=rfl
theorem Tq(d:Nat)(K:AV->List (Nat×Row)->Prop)(o:Option Row)(n:Nat)(z:AV)(bytes:Nat)(l c:Int):xJ K o d n z bytes (.sc (.int .i64 l)) (.sc (.int .i64 c))=
 (o=none/\z.width=n/\0<=l/\l<=c/\c*bytes<=140737488355328/\c<=9223372036854775807/\K (.sl d 0 l.toNat) [(d,.arr n (List.replicate l.toNat z))]):=rfl
theorem OS(ok:Oks)(g:X->AV)(ρ:Nat->Option Row)(d:Nat)(K:AV->List (Nat×Row)->Prop)(n:Nat)(x:X)(lo hi mx:Option X):eff ok g ρ d (.slc n x lo hi mx) K=ov K ρ n (g x) (lo.map g) (hi.map g) (mx.map g):=rfl
theorem HT(ρ:Nat->Option Row)(K:AV->List (Nat×Row)->Prop)(f:Fl)(n w:Nat)(xs:List AV)(lo hi:Option AV):ov K ρ n (.lst f w xs) lo hi none=
 (w=n/\bOk lo/\bOk hi/\bV lo 0<=bV hi xs.length/\bV hi xs.length<=xs.length/\K (.lst f n (sub xs (bV lo 0) (bV hi xs.length-bV lo 0))) []):=rfl
theorem Dn(ρ:Nat->Option Row)(K:AV->List (Nat×Row)->Prop)(f:Fl)(n w:Nat)(xs:List AV)(lo hi:Option AV)(m:AV):ov K ρ n (.lst f w xs) lo hi (some m)=
 (w=n/\bOk lo/\bOk hi/\bV lo 0<=bV hi xs.length/\bV hi xs.length<=xs.length/\hi.isSome/\bOk (some m)/\bV (some m) 0=bV hi xs.length/\K (.tg f n (sub xs (bV lo 0) (bV hi xs.length-bV lo 0))) []):=rfl
theorem Pt(ρ:Nat->Option Row)(K:AV->List (Nat×Row)->Prop)(n r i m:Nat)(lo hi mx:Option AV):ov K ρ n (.sl r i m) lo hi mx=
 ((∃es,ρ r=some (.arr n es))/\bOk lo/\bOk hi/\bV lo 0<=bV hi m/\bV hi m<=m/\mx=none/\K (.sl r (i+bV lo 0) (bV hi m-bV lo 0)) []):=rfl
theorem SR(K:AV->List (Nat×Row)->Prop)(s:ByteArray)(lo hi:Option AV):NW K (.sc (.string s)) lo hi=
 (bOk lo/\bOk hi/\bV lo 0<=bV hi s.size/\bV hi s.size<=s.size/\K (.sc (.string (s.extract (bV lo 0) (bV hi s.size)))) []):=rfl
theorem JI:bOk none=True:=rfl
theorem Wk(q:IntKind)(j:Int):bOk (some (.sc (.int q j)))=(0<=j):=rfl
theorem NN(n:Nat):bV none n=n:=rfl
theorem bV_i(n:Nat)(q:IntKind)(j:Int):bV (some (.sc (.int q j))) n=j.toNat:=rfl
theorem Qm(ok:Oks)(g:X->AV)(ρ:Nat->Option Row)(d:Nat)(K:AV->List (Nat×Row)->Prop)(off:Nat)(x:X):eff ok g ρ d (.fad off x) K=jo K ρ off (g x):=rfl
theorem Oj(ρ:Nat->Option Row)(K:AV->List (Nat×Row)->Prop)(off o:Nat)(f:Fl)(y:AV):jo K ρ off (.bp f y o)=K (.bp f y (o+off)) []:=rfl
theorem Ql(ρ:Nat->Option Row)(K:AV->List (Nat×Row)->Prop)(off r i o:Nat):jo K ρ off (.pt r i o)=(cJ (ρ r)/\K (.pt r i (o+off)) []):=rfl
theorem QH(ok:Oks)(g:X->AV)(ρ:Nat->Option Row)(d:Nat)(K:AV->List (Nat×Row)->Prop)(n:Nat)(x i:X):eff ok g ρ d (.idx n x i) K=ie K ρ n (g x) (g i):=rfl
theorem OX(ok:Oks)(g:X->AV)(ρ:Nat->Option Row)(d:Nat)(K:AV->List (Nat×Row)->Prop)(av:List Nat)(n:Nat)(x i:X):eff ok g ρ d (.idv av n x i) K=(iPt av (g x)/\ie K ρ n (g x) (g i)):=rfl
theorem Vu(av:List Nat)(r i n:Nat):iPt av (.sl r i n)=(r∉av):=rfl
theorem OD(av:List Nat)(f:Fl)(n:Nat)(xs:List AV):iPt av (.lst f n xs)=True:=rfl
theorem Po(ok:Oks)(g:X->AV)(ρ:Nat->Option Row)(d:Nat)(K:AV->List (Nat×Row)->Prop)(av:List Nat)(x:X):eff ok g ρ d (.lnv av x) K=(iPt av (g x)/\iL K ρ (g x)):=rfl
theorem Qz(ok:Oks)(g:X->AV)(ρ:Nat->Option Row)(d:Nat)(K:AV->List (Nat×Row)->Prop)(r n:Nat)(x v:X):eff ok g ρ d (.stw r n x v) K=(wPt r ρ (g x)/\cM K ρ n (g x) (g v)):=rfl
theorem UZ(ρ:Nat->Option Row)(r q i off:Nat):wPt r ρ (.pt q i off)=(q=r/\xx (ρ q)):=rfl
theorem Hv(ρ:Nat->Option Row)(K:AV->List (Nat×Row)->Prop)(n w:Nat)(f:Fl)(xs:List AV)(q:IntKind)(j:Int):ie K ρ n (.lst f w xs) (.sc (.int q j))=(w=n/\0<=j/\opt xs[j.toNat]? (Ve K f.als)):=rfl
theorem PX(K:AV->List (Nat×Row)->Prop)(f:Fl)(y:AV):Ve K f y=K (.bp f y 0) []:=rfl
theorem VU:Fl.als .o=.o:=rfl
theorem Ww:Fl.als .s=.s:=rfl
theorem Wq:Fl.als .m=.m:=rfl
theorem VR:Fl.als .u=.m:=rfl
theorem NC(ρ:Nat->Option Row)(K:AV->List (Nat×Row)->Prop)(n r a m:Nat)(q:IntKind)(j:Int):ie K ρ n (.sl r a m) (.sc (.int q j))=((∃es,ρ r=some (.arr n es))/\0<=j/\j<m/\K (.pt r (a+j.toNat) 0) []):=rfl
theorem NV(ok:Oks)(g:X->AV)(ρ:Nat->Option Row)(d:Nat)(K:AV->List (Nat×Row)->Prop)(off n:Nat)(ag:Bool)(x:X):eff ok g ρ d (.fld off n ag x) K=Bf K off n ag (g x):=rfl
theorem Ga(K:AV->List (Nat×Row)->Prop)(off n:Nat)(ag:Bool)(cs:List AV):Bf K off n ag (.agg cs)=opt (part (.agg cs) off n ag) (k1 K):=by simp[Bf,AV.isAgg]
theorem JL(ok:Oks)(g:X->AV)(ρ:Nat->Option Row)(d:Nat)(K:AV->List (Nat×Row)->Prop)(x i:X):eff ok g ρ d (.stri x i) K=nI K (g x) (g i):=rfl
theorem OE(K:AV->List (Nat×Row)->Prop)(s:ByteArray)(q:IntKind)(j:Int):nI K (.sc (.string s)) (.sc (.int q j))=(0<=j/\opt s[j.toNat]? (TH K)):=rfl
theorem PU(K:AV->List (Nat×Row)->Prop)(c:UInt8):TH K c=K (.sc (.int .u8 c.toNat)) []:=rfl
theorem Oo(ok:Oks)(g:X->AV)(ρ:Nat->Option Row)(d:Nat)(K:AV->List (Nat×Row)->Prop)(x:X)(j:Nat):eff ok g ρ d (.ext x j) K=ws K (g x) j:=rfl
theorem FH(K:AV->List (Nat×Row)->Prop)(vs:List AV)(j:Nat):ws K (.tup vs) j=opt vs[j]? (k1 K):=rfl
theorem EV(ok:Oks)(g:X->AV)(ρ:Nat->Option Row)(d:Nat)(K:AV->List (Nat×Row)->Prop)(f:Nat)(xs:List X):eff ok g ρ d (.call f xs) K=fw ok ρ d f (xs.map g) K:=rfl
theorem Nv(ok:Oks)(g:X->AV)(ρ:Nat->Option Row)(d:Nat)(K:AV->List (Nat×Row)->Prop)(x:X)(xs:List X):eff ok g ρ d (.dyn x xs) K=te ok ρ d (g x) (xs.map g) K:=rfl
theorem Cd(ok:Oks)(g:X->AV)(ρ:Nat->Option Row)(d:Nat)(K:AV->List (Nat×Row)->Prop)(f:Nat)(xs:List X)(rs:List Nat):eff ok g ρ d (.callM f xs rs) K=callM ok ρ d f (xs.map g) rs K:=rfl
theorem LC(ok:Oks)(g:X->AV)(ρ:Nat->Option Row)(d:Nat)(K:AV->List (Nat×Row)->Prop)(x:X)(xs:List X)(rs:List Nat):eff ok g ρ d (.dynM x xs rs) K=pC ok ρ d (g x) (xs.map g) rs K:=rfl
theorem Kl(ok:Oks)(ρ:Nat->Option Row)(d:Nat)(K:AV->List (Nat×Row)->Prop)(f:Nat)(cs xs:List AV)(rs:List Nat):pC ok ρ d (.fn f cs) xs rs K=callM ok ρ d f (xs++cs) rs K:=rfl
theorem PM(ok:Oks)(ρ:Nat->Option Row)(d:Nat)(K:AV->List (Nat×Row)->Prop)(f:Nat)(cs xs:List AV):te ok ρ d (.fn f cs) xs K=fw ok ρ d f (xs++cs) K:=rfl
theorem QA(ok:Oks)(g:X->AV)(ρ:Nat->Option Row)(d:Nat)(K:AV->List (Nat×Row)->Prop)(x:X):eff ok g ρ d (.len x) K=iL K ρ (g x):=rfl
theorem HD(ρ:Nat->Option Row)(K:AV->List (Nat×Row)->Prop)(f:Fl)(n:Nat)(xs:List AV):iL K ρ (.lst f n xs)=K (.sc (.int .i64 xs.length)) []:=rfl
theorem Nw(ρ:Nat->Option Row)(K:AV->List (Nat×Row)->Prop)(f:Fl)(n:Nat)(xs:List AV):iL K ρ (.tg f n xs)=K (.sc (.int .i64 xs.length)) []:=rfl
theorem Ou(ρ:Nat->Option Row)(K:AV->List (Nat×Row)->Prop)(r i n:Nat):iL K ρ (.sl r i n)=((∃w es,ρ r=some (.arr w es))/\K (.sc (.int .i64 n)) []):=rfl
theorem EG(ok:Oks)(g:X->AV)(ρ:Nat->Option Row)(d:Nat)(K:AV->List (Nat×Row)->Prop)(x:X):eff ok g ρ d (.lenz x) K=oP K (g x):=rfl
theorem EL(ok:Oks)(g:X->AV)(ρ:Nat->Option Row)(d:Nat)(K:AV->List (Nat×Row)->Prop)(x:X):eff ok g ρ d (.capn x) K=oA K (g x):=rfl
theorem Pd(K:AV->List (Nat×Row)->Prop)(n:Nat):oA K (.lst .u n [])=K (.i 0) []:=rfl
theorem NI(ok:Oks)(g:X->AV)(ρ:Nat->Option Row)(d:Nat)(K:AV->List (Nat×Row)->Prop)(n:Nat)(x hi:X):eff ok g ρ d (.slg n x hi) K=wt K n (g x) (g hi):=rfl
theorem TZ(K:AV->List (Nat×Row)->Prop)(n w:Nat)(k:IntKind)(h:Int):wt K n (.lst .u w []) (.sc (.int k h))=(w=n/\h=0/\K (.lst .u n []) []):=rfl
theorem PD(ok:Oks)(g:X->AV)(ρ:Nat->Option Row)(d:Nat)(K:AV->List (Nat×Row)->Prop)(n:Nat)(z:AV)(bytes:Nat)(x l:X):eff ok g ρ d (.apz n z bytes x l) K=Db K (ρ d) d n z bytes (g x) (g l):=rfl
theorem UV(K:AV->List (Nat×Row)->Prop)(o:Option Row)(d n w:Nat)(z:AV)(bytes:Nat)(l:Int):Db K o d n z bytes (.lst .u w []) (.sc (.int .i64 l))=(o=none/\w=n/\z.width=n/\n=1/\0<l/\l*bytes<=140737488355328/\K (.sl d 0 l.toNat) [(d,.arr n (List.replicate l.toNat z))]):=rfl
theorem Qj(K:AV->List (Nat×Row)->Prop)(s:ByteArray):oP K (.sc (.string s))=K (.sc (.int .i64 s.size)) []:=rfl
theorem LQ(ρ:Nat->Option Row)(K:AV->List (Nat×Row)->Prop)(f:Fl)(n:Nat)(xs:List AV):Pb K ρ (.lst f n xs)=(n=1/\opt (u8s xs) (ET K)):=rfl
theorem Qc(ρ:Nat->Option Row)(K:AV->List (Nat×Row)->Prop)(r i n:Nat):Pb K ρ (.sl r i n)=yX K (ρ r) i n:=rfl
theorem AR(K:AV->List (Nat×Row)->Prop)(w:Nat)(es:List AV)(i m:Nat):yX K (some (.arr w es)) i m=(w=1/\opt (u8s (sub es i m)) (ET K)):=rfl
theorem Pc(K:AV->List (Nat×Row)->Prop)(ns:List Int):ET K ns=K (.sc (.string (b2s ns))) []:=rfl
theorem QN(ok:Oks)(g:X->AV)(ρ:Nat->Option Row)(d:Nat)(K:AV->List (Nat×Row)->Prop)(neg:Bool)(x:X):eff ok g ρ d (.isn neg x) K=tC K ρ neg (g x):=rfl
theorem Hx(ρ:Nat->Option Row)(K:AV->List (Nat×Row)->Prop)(neg:Bool)(f:Fl)(n:Nat)(xs:List AV):tC K ρ neg (.lst f n xs)=qf K neg xs.isEmpty:=rfl
theorem QV(ρ:Nat->Option Row)(K:AV->List (Nat×Row)->Prop)(neg:Bool)(f:Fl)(n:Nat)(xs:List AV):tC K ρ neg (.tg f n xs)=qf K neg xs.isEmpty:=rfl
theorem QS(ρ:Nat->Option Row)(K:AV->List (Nat×Row)->Prop)(neg:Bool)(r i n:Nat):tC K ρ neg (.sl r i n)=((∃w es,ρ r=some (.arr w es))/\qf K neg (n==0)):=rfl
theorem Pq(K:AV->List (Nat×Row)->Prop)(neg e:Bool):qf K neg e=K (cond e .ub (.sc (.bool neg))) []:=rfl
theorem Vq(x:AV):cond true AV.ub x=AV.ub:=rfl
theorem SI(x:AV):cond false AV.ub x=x:=rfl
theorem Dx{α β:Type}(f:α->β)(xs:List α):(xs.map f).isEmpty=xs.isEmpty:=List.isEmpty_map
theorem Qn(ok:Oks)(g:X->AV)(ρ:Nat->Option Row)(d:Nat)(K:AV->List (Nat×Row)->Prop)(n:Nat)(x y:X):eff ok g ρ d (.apq n x y) K=Bp K ρ n (g x) (g y):=rfl
theorem PA(ρ:Nat->Option Row)(K:AV->List (Nat×Row)->Prop)(n r i m:Nat)(y:AV):Bp K ρ n (.sl r i m) y=opt (dl n ρ y) (FU K (ρ r) r n i m):=rfl
theorem Jf(K:AV->List (Nat×Row)->Prop)(w n r i m:Nat)(es ys:List AV):FU K (some (.arr w es)) r n i m ys=(w=n/\i+m+ys.length<=es.length/\K (.sl r i (m+ys.length)) [(r,.arr w (dx es (i+m) ys))]):=rfl
theorem QO(ok:Oks)(g:X->AV)(ρ:Nat->Option Row)(d:Nat)(K:AV->List (Nat×Row)->Prop)(n:Nat)(x:X)(lo hi:Option X):eff ok g ρ d (.slx n x lo hi) K=tV K ρ n (g x) (lo.map g) (hi.map g):=rfl
theorem QP(ok:Oks)(g:X->AV)(ρ:Nat->Option Row)(d:Nat)(K:AV->List (Nat×Row)->Prop)(n:Nat)(x lo hi mx:X):eff ok g ρ d (.slm n x lo hi mx) K=AX K ρ n (g x) (g lo) (g hi) (g mx):=rfl
theorem NB(ρ:Nat->Option Row)(K:AV->List (Nat×Row)->Prop)(n r i m:Nat)(lo hi mx:AV):AX K ρ n (.sl r i m) lo hi mx=vt K (ρ r) n m lo hi mx:=rfl
theorem CF(K:AV->List (Nat×Row)->Prop)(w n m:Nat)(es:List AV)(k1 k2 k3:IntKind)(l h q:Int):vt K (some (.arr w es)) n m (.sc (.int k1 l)) (.sc (.int k2 h)) (.sc (.int k3 q))=(w=n/\0<=l/\l<=h/\h<=q/\q<=(m:Int)/\K .top []):=rfl
theorem QD(ρ:Nat->Option Row)(K:AV->List (Nat×Row)->Prop)(n r i m:Nat)(lo hi:Option AV):tV K ρ n (.sl r i m) lo hi=qI K (ρ r) r n i m lo hi:=rfl
theorem CX(K:AV->List (Nat×Row)->Prop)(w n r i m:Nat)(es:List AV)(lo hi:Option AV):qI K (some (.arr w es)) r n i m lo hi=
 (w=n/\bOk lo/\bOk hi/\bV lo 0<=bV hi m/\i+bV hi m<=es.length/\K (.sl r (i+bV lo 0) (bV hi m-bV lo 0)) []):=rfl
theorem NL(ok:Oks)(g:X->AV)(ρ:Nat->Option Row)(d:Nat)(K:AV->List (Nat×Row)->Prop)(n:Nat)(z:AV)(x:X):eff ok g ρ d (.clr n z x) K=DG K ρ n z (g x):=rfl
theorem Qe(ρ:Nat->Option Row)(K:AV->List (Nat×Row)->Prop)(n r i m:Nat)(z:AV):DG K ρ n z (.sl r i m)=tu K (ρ r) r n z i m:=rfl
theorem Bo(K:AV->List (Nat×Row)->Prop)(w n r i m:Nat)(es:List AV)(z:AV):tu K (some (.arr w es)) r n z i m=(w=n/\z.width=n/\K (.tup []) [(r,.arr w (dx es i (List.replicate m z)))]):=rfl
theorem Oc(ok:Oks)(g:X->AV)(ρ:Nat->Option Row)(d:Nat)(K:AV->List (Nat×Row)->Prop)(n:Nat)(x y:X):eff ok g ρ d (.cpy n x y) K=DQ K ρ n (g x) (g y):=rfl
theorem Qw(ρ:Nat->Option Row)(K:AV->List (Nat×Row)->Prop)(n r i m:Nat)(y:AV):DQ K ρ n (.sl r i m) y=opt (dl n ρ y) (tY K (ρ r) r n i m):=rfl
theorem DB(K:AV->List (Nat×Row)->Prop)(w n r i m:Nat)(es ys:List AV):tY K (some (.arr w es)) r n i m ys=(w=n/\K (.sc (.int .i64 (min ys.length m:Nat))) [(r,.arr w (dx es i (ys.take (min ys.length m))))]):=rfl
theorem Nh(ok:Oks)(g:X->AV)(ρ:Nat->Option Row)(d:Nat)(K:AV->List (Nat×Row)->Prop)(n bytes:Nat)(mv:Bool)(x y:X):eff ok g ρ d (.app n bytes mv x y) K=sf K ρ d n bytes mv (g x) (g y):=rfl
theorem Ow(ρ:Nat->Option Row)(d:Nat)(K:AV->List (Nat×Row)->Prop)(n bytes:Nat)(mv:Bool)(r i m:Nat)(y:AV):sf K ρ d n bytes mv (.sl r i m) y=(ρ d=none/\opt (kw ρ n mv y) (nj K (ρ r) d n bytes r i m)):=rfl
theorem PC(ρ:Nat->Option Row)(d:Nat)(K:AV->List (Nat×Row)->Prop)(n bytes:Nat)(mv:Bool)(f:Fl)(w:Nat)(es:List AV)(y:AV):sf K ρ d n bytes mv (.tg f w es) y=(ρ d=none/\opt (kw ρ n mv y) (tp K d n bytes w es)):=rfl
theorem DV(d:Nat)(K:AV->List (Nat×Row)->Prop)(n bytes w:Nat)(es ys:List AV)(u:List (Nat×Row)):tp K d n bytes w es (ys,u)=
 (w=n/\0<ys.length/\(es.length+ys.length)*bytes<=140737488355328/\K (.sl d 0 (es.length+ys.length)) (u++[(d,.arr n (es.map AV.als++ys))])):=by simp[tp,gK]
theorem Pf(ρ:Nat->Option Row)(n r m:Nat):kw ρ n true (.sl r 0 m)=uj n r m (ρ r):=rfl
theorem AP(n m r w:Nat)(ys:List AV):uj n r m (some (.arr w ys))=if w=n/\m=ys.length then some (ys,[(r,.dead)]) else none:=rfl
theorem NU(ρ:Nat->Option Row)(n:Nat)(y:AV):kw ρ n false y=iY (dl n ρ y):=rfl
theorem vX(ys:List AV):iY (some ys)=some (ys,[]):=rfl
theorem Aq(ρ:Nat->Option Row)(n w:Nat)(f:Fl)(xs:List AV):dl n ρ (.lst f w xs)=if w=n then some xs else none:=rfl
theorem HK(ρ:Nat->Option Row)(n w:Nat)(f:Fl)(xs:List AV):dl n ρ (.tg f w xs)=if w=n then some xs else none:=rfl
theorem GS(ρ:Nat->Option Row)(n r i k:Nat):dl n ρ (.sl r i k)=kZ n (ρ r) i k:=rfl
theorem vh(n w i k:Nat)(es:List AV):kZ n (some (.arr w es)) i k=if w=n then some ((sub es i k).map AV.als) else none:=by simp[kZ,gK]
theorem AC(d:Nat)(K:AV->List (Nat×Row)->Prop)(n bytes r i m w:Nat)(es ys:List AV)(u:List (Nat×Row)):nj K (some (.arr w es)) d n bytes r i m (ys,u)=
 (w=n/\r∉u.map (·.1)/\(m+ys.length)*bytes<=140737488355328/\K (.sl d 0 (m+ys.length)) ((r,.dead)::u++[(d,.arr n (sub es i m++ys))])):=rfl
theorem Kj(ok:Oks)(g:X->AV)(ρ:Nat->Option Row)(d:Nat)(K:AV->List (Nat×Row)->Prop)(x:X):eff ok g ρ d (.nilc x) K=qn K ρ (g x):=rfl
theorem NR(ρ:Nat->Option Row)(K:AV->List (Nat×Row)->Prop)(f:Fl)(y:AV)(o:Nat):qn K ρ (.bp f y o)=K (.bp f y o) []:=rfl
theorem Ni(ρ:Nat->Option Row)(K:AV->List (Nat×Row)->Prop)(r i o:Nat):qn K ρ (.pt r i o)=(cJ (ρ r)/\K (.pt r i o) []):=rfl
theorem Vm(ok:Oks)(g:X->AV)(ρ:Nat->Option Row)(d:Nat)(K:AV->List (Nat×Row)->Prop)(x y:X):eff ok g ρ d (.mn x y) K=eMn K (g x) (g y):=rfl
theorem Wp(K:AV->List (Nat×Row)->Prop)(a b:Int):eMn K (.sc (.int .i64 a)) (.sc (.int .i64 b))=K (.sc (.int .i64 (if b<a then b else a))) []:=by simp[eMn]
theorem UX(ok:Oks)(g:X->AV)(ρ:Nat->Option Row)(d:Nat)(K:AV->List (Nat×Row)->Prop)(x y:X):eff ok g ρ d (.mx x y) K=eMx K (g x) (g y):=rfl
theorem Wx(K:AV->List (Nat×Row)->Prop)(a b:Int):eMx K (.sc (.int .i64 a)) (.sc (.int .i64 b))=K (.sc (.int .i64 (if a<b then b else a))) []:=by simp[eMx]
theorem Px(K:AV->Prop)(k:IntKind)(a b:Int):cX .add (.sc (.int k a)) (.sc (.int k b)) K=K (.sc (.int k (k.wrap (a+b)))):=by simp[cX,dt,ofI]
theorem PV(K:AV->Prop)(k:IntKind)(a b:Int):cX .sub (.sc (.int k a)) (.sc (.int k b)) K=K (.sc (.int k (k.wrap (a-b)))):=by simp[cX,dt,ofI]
theorem NA(K:AV->Prop)(k:IntKind)(a b:Int):cX .mul (.sc (.int k a)) (.sc (.int k b)) K=K (.sc (.int k (k.wrap (a*b)))):=by simp[cX,dt,ofI]
theorem NZ(K:AV->Prop)(k:IntKind)(a b:Int):cX .quo (.sc (.int k a)) (.sc (.int k b)) K=(b≠0/\K (.sc (.int k (k.wrap (a.tdiv b))))):=by simp[cX,dt,ofI]
theorem QX(K:AV->Prop)(k:IntKind)(a b:Int):cX .rem (.sc (.int k a)) (.sc (.int k b)) K=(b≠0/\K (.sc (.int k (a.tmod b)))):=by simp[cX,dt]
theorem PS(K:AV->Prop)(k:IntKind)(a b:Int):cX .and (.sc (.int k a)) (.sc (.int k b)) K=K (.sc (.int k (bits .and k a b))):=by simp[cX,dt]
theorem Tm(K:AV->Prop)(k:IntKind)(a b:Int):cX .or (.sc (.int k a)) (.sc (.int k b)) K=K (.sc (.int k (bits .or k a b))):=by simp[cX,dt]
theorem NF(K:AV->Prop)(k:IntKind)(a b:Int):cX .xor (.sc (.int k a)) (.sc (.int k b)) K=K (.sc (.int k (bits .xor k a b))):=by simp[cX,dt]
theorem xW(K:AV->Prop)(k:IntKind)(a b:Int):cX .andNot (.sc (.int k a)) (.sc (.int k b)) K=K (.sc (.int k (bits .andNot k a b))):=by simp[cX,dt]
theorem QU(K:AV->Prop)(k:IntKind)(a b:Int):cX .eql (.sc (.int k a)) (.sc (.int k b)) K=K (.sc (.bool (a==b))):=by simp[cX,dt]
theorem QW(K:AV->Prop)(k:IntKind)(a b:Int):cX .neq (.sc (.int k a)) (.sc (.int k b)) K=K (.sc (.bool (a !=b))):=by simp[cX,dt]
theorem Pp(K:AV->Prop)(k:IntKind)(a b:Int):cX .lss (.sc (.int k a)) (.sc (.int k b)) K=K (.sc (.bool (decide (a<b)))):=by simp[cX,dt]
theorem QY(K:AV->Prop)(k:IntKind)(a b:Int):cX .leq (.sc (.int k a)) (.sc (.int k b)) K=K (.sc (.bool (decide (a<=b)))):=by simp[cX,dt]
theorem Qx(K:AV->Prop)(k:IntKind)(a b:Int):cX .gtr (.sc (.int k a)) (.sc (.int k b)) K=K (.sc (.bool (decide (b<a)))):=by simp[cX,dt]
theorem Oi(K:AV->Prop)(k:IntKind)(a b:Int):cX .geq (.sc (.int k a)) (.sc (.int k b)) K=K (.sc (.bool (decide (b<=a)))):=by simp[cX,dt]
theorem Rf(K:AV->Prop)(k k':IntKind)(a b:Int):cX .shl (.sc (.int k a)) (.sc (.int k' b)) K=dY .shl k a b K:=by simp[cX]
theorem PQ(K:AV->Prop)(k k':IntKind)(a b:Int):cX .shr (.sc (.int k a)) (.sc (.int k' b)) K=dY .shr k a b K:=by simp[cX]
theorem Wh(K:AV->Prop)(k:IntKind)(a b:Int):dY .shl k a b K=(0<=b/\K (.sc (.int k (k.wrap (a*2^(min b.toNat k.bits)))))):=by simp[dY,ofI]
theorem Wg(K:AV->Prop)(k:IntKind)(a b:Int):dY .shr k a b K=(0<=b/\K (.sc (.int k (a.fdiv (2^(min b.toNat k.bits)))))):=by simp[dY]
theorem JY(K:AV->Prop)(a b:ByteArray):cX .add (.sc (.string a)) (.sc (.string b)) K=(a.size+b.size<=9223372036854775807/\K (.sc (.string (a++b)))):=rfl
theorem Et(K:AV->Prop)(a b:ByteArray):cX .eql (.sc (.string a)) (.sc (.string b)) K=K (.sc (.bool (a.toList==b.toList))):=rfl
theorem KW(K:AV->Prop)(a b:ByteArray):cX .neq (.sc (.string a)) (.sc (.string b)) K=K (.sc (.bool (!(a.toList==b.toList)))):=rfl
theorem Vw(K:AV->Prop)(k:IntKind)(a:Int):unV .neg (.sc (.int k a)) K=K (.sc (.int k (k.wrap (0-a)))):=by simp[unV,ofI]
theorem VD(K:AV->Prop)(a:Bool):unV .not (.sc (.bool a)) K=K (.sc (.bool (!a))):=rfl
theorem Kv{α:Type}(x:α)(K:α->Prop):opt (some x) K=K x:=rfl
theorem BF(ok:Oks)(σ:St)(K:St->Prop):dU ok [] K σ=K σ:=rfl
theorem wZ(ok:Oks)(σ:St)(K:St->Prop)(d:Option Nat)(o:AOp)(os:List bc):dU ok (⟨d,o,none⟩::os) K σ=eff ok σ.gx σ.row (d.getD 0) o (Nl d (dU ok os K) σ):=rfl
theorem vZ(ok:Oks)(σ:St)(K:St->Prop)(d:Option Nat)(o:AOp)(s:Nat)(w:Bool)(os:List bc):dU ok (⟨d,o,some (s,w)⟩::os) K σ=
 eA σ s w (σ.get s) (xA ok d o (dU ok os K)) (KV d (dU ok os K)):=rfl
theorem Tg(σ:St)(t len j:Nat):argI σ t len (.t j)=if j=t then .sl 1000000000 0 len else σ.get j:=rfl
theorem UB(σ:St)(t len:Nat)(a:AV):argI σ t len (.c a)=a:=rfl
theorem KA(σ:St)(t j:Nat):Lv σ t (.t j)=(j=t\/(σ.get j).ments=[]):=rfl
theorem HY(σ:St)(t:Nat)(a:AV):Lv σ t (.c a)=(a.ments=[]):=rfl
theorem PP(ok:Oks)(σ:St)(K:St->Prop)(d:Option Nat)(o:AOp):xA ok d o K σ=eff ok σ.gx σ.row (d.getD 0) o (Nl d K σ):=rfl
theorem Qf(σ:St)(K:St->Prop)(d:Option Nat):KV d K σ=K (σ.app d (.tup []) []):=rfl
theorem yB(σ:St)(K:St->Prop)(d:Option Nat)(v:AV)(u:List (Nat×Row)):Nl d K σ v u=K (σ.app d v u):=rfl
theorem OZ(σ:St)(Q:Ex->St->Prop)(can:List Can):Hk Q can σ=Q .nrm (σ.can can):=rfl
theorem Bu(σ:St)(s:Nat)(A B:St->Prop):eA σ s true (.sc (.bool true)) A B=A (σ.know s true):=by simp[eA]
theorem Cl(σ:St)(s:Nat)(A B:St->Prop):eA σ s true (.sc (.bool false)) A B=B (σ.know s false):=by simp[eA]
theorem DJ(σ:St)(s:Nat)(A B:St->Prop):eA σ s false (.sc (.bool true)) A B=B (σ.know s true):=by simp[eA]
theorem CY(σ:St)(s:Nat)(A B:St->Prop):eA σ s false (.sc (.bool false)) A B=A (σ.know s false):=by simp[eA]
theorem Hb(σ:St)(s:Nat)(w:Bool)(A B:St->Prop):eA σ s w (.tup []) A B=B σ:=rfl
theorem Pr(σ:St):σ.can []=σ:=rfl
theorem Ih(σ:St)(d:Nat)(ds:List Can):σ.can (.s d::ds)=(σ.canV d (σ.get d)).can ds:=rfl
theorem Cs(σ:St)(far:Bool)(d r j:Nat)(ds:List Can):σ.can (.f far d r j::ds)=(σ.canG far d r j (fN j (aD r σ.rows))).can ds:=rfl
theorem Dk(σ:St)(d:Nat)(ds:List Can):σ.can (.r d::ds)=(σ.canW d (σ.get d)).can ds:=rfl
theorem PW(σ:St)(d r i n:Nat):σ.canW d (.sl r i n)=σ.canSr d r i n:=rfl
theorem FZ(σ:St)(d n:Nat):σ.canW d (.lst .u n [])=σ.canNil d n:=rfl
theorem UP(σ:St)(d n:Nat)(xs:List AV):σ.canW d (.lst .o n xs)=σ:=rfl
theorem Vy(σ:St)(d n:Nat)(xs:List AV):σ.canW d (.lst .m n xs)=σ:=rfl
theorem Uy(σ:St)(d n:Nat)(xs:List AV):σ.canW d (.lst .s n xs)=σ:=rfl
theorem UW(σ:St)(far:Bool)(d r j n:Nat)(xs:List AV):σ.canG far d r j (.lst .o n xs)=σ:=rfl
theorem Un(σ:St)(far:Bool)(d r j n:Nat)(xs:List AV):σ.canG far d r j (.lst .m n xs)=σ:=rfl
theorem TK(σ:St)(far:Bool)(d r j n:Nat)(xs:List AV):σ.canG far d r j (.lst .s n xs)=σ:=rfl
theorem Dv(σ:St)(d:Nat)(ds:List Can):σ.can (.z d::ds)=(σ.canZ d (σ.get d)).can ds:=rfl
theorem PB(σ:St)(d r i m:Nat):σ.canZ d (.sl r i m)=σ.canZr d i m r (aD r σ.rows):=rfl
theorem Hf(σ:St)(d n:Nat)(f:Fl)(xs:List AV):σ.canZ d (.lst f n xs)=σ:=rfl
theorem JP(σ:St)(d:Nat)(cs:List AV):σ.canZ d (.agg cs)=σ.canZc d cs 0 cs:=rfl
theorem DE(σ:St)(d j:Nat)(all:List AV):σ.canZc d all j []=σ:=by unfold St.canZc;rfl
theorem MH(σ:St)(d j:Nat)(all cs:List AV)(r i m:Nat):σ.canZc d all j (.sl r i m::cs)=σ.canZcr d all j r i m (aD r σ.rows):=by rw[St.canZc]
theorem Al(σ:St)(d j:Nat)(all cs:List AV)(f:Fl)(n:Nat)(xs:List AV):σ.canZc d all j (.lst f n xs::cs)=σ.canZc d all (j+1) cs:=by rw[St.canZc];intros;contradiction
theorem MQ(σ:St)(d j:Nat)(all cs:List AV)(v:Value):σ.canZc d all j (.sc v::cs)=σ.canZc d all (j+1) cs:=by rw[St.canZc];intros;contradiction
theorem Co(env:List (Nat×AV))(rows:List (Nat×Row))(d j:Nat)(all:List AV)(r i m q:Nat)(es:List AV):St.canZcr ⟨env,rows⟩ d all j r i m (some (.arr q es))=⟨put d (.agg (fR all j (.lst .m q (dj (sub es i m))))) env,put r .dead rows⟩:=rfl
theorem AO(σ:St)(far:Bool)(d k j:Nat)(ds:List Can):σ.can (.e far d k j::ds)=(σ.canE far d k j (fN j (some (.var (σ.get k))))).can ds:=rfl
theorem QR(env:List (Nat×AV))(rows:List (Nat×Row))(far:Bool)(d k j q i m:Nat):St.canE ⟨env,rows⟩ far d k j (.sl q i m)=if q=d\/far=false/\1000000000<=q then⟨env,rows⟩ else⟨(env.map fun p=>(p.1,p.2.hush d)).map fun p=>(p.1,p.2.ren q d),((del d rows).map fun p=>(p.1,p.2.hush d)).map fun p=>(if p.1=q then d else p.1,p.2.map (·.ren q d))⟩:=rfl
theorem JZ(env:List (Nat×AV))(rows:List (Nat×Row))(far:Bool)(d k j m:Nat):St.canE ⟨env,rows⟩ far d k j (.lst .u m [])=St.canEN ⟨env,rows⟩ d k j m (aD k (env.map fun p=>(p.1,p.2.hush d))):=rfl
theorem TF(σ:St)(far:Bool)(d r j n:Nat)(xs:List AV):σ.canE far d r j (.lst .o n xs)=σ:=rfl
theorem Ux(σ:St)(far:Bool)(d r j n:Nat)(xs:List AV):σ.canE far d r j (.lst .m n xs)=σ:=rfl
theorem Vb(σ:St)(far:Bool)(d r j n:Nat)(xs:List AV):σ.canE far d r j (.lst .s n xs)=σ:=rfl
theorem Fb(env:List (Nat×AV))(rows:List (Nat×Row))(d k j m:Nat)(cs:List AV):St.canEN ⟨env,rows⟩ d k j m (some (.agg cs))=⟨put k (.agg (fR cs j (.sl d 0 0))) (env.map fun p=>(p.1,p.2.hush d)),put d (.arr m []) ((del d rows).map fun p=>(p.1,p.2.hush d))⟩:=rfl
theorem BU(σ:St)(r:Nat)(ds:List Can):σ.can (.w r::ds)=(σ.canX r (aD r σ.rows)).can ds:=rfl
theorem GA(env:List (Nat×AV))(rows:List (Nat×Row))(r n:Nat)(es:List AV):St.canX ⟨env,rows⟩ r (some (.arr n es))=⟨env,put r (.arr n (es.map AV.als)) rows⟩:=by simp[St.canX,gK]
theorem Di(σ:St)(r:Nat):σ.canX r none=σ:=rfl
theorem IL(σ:St)(r:Nat)(cs:List AV):σ.canX r (some (.var (.agg cs)))=σ.canXc r cs 0 cs:=rfl
theorem Bs(σ:St)(r j:Nat)(all:List AV):σ.canXc r all j []=σ:=by unfold St.canXc;rfl
theorem KU(σ:St)(r j:Nat)(all cs:List AV)(q i m:Nat):σ.canXc r all j (.sl q i m::cs)=σ.canXcr r all j q i m (aD q σ.rows):=by rw[St.canXc]
theorem wm(σ:St)(r j:Nat)(all cs:List AV)(n:Nat)(xs:List AV):σ.canXc r all j (.lst .o n xs::cs)=σ.canXc r all (j+1) cs:=by rw[St.canXc]<;>(intros;simp_all)
theorem xR(σ:St)(r j:Nat)(all cs:List AV)(n:Nat)(xs:List AV):σ.canXc r all j (.lst .m n xs::cs)=σ.canXc r all (j+1) cs:=by rw[St.canXc]<;>(intros;simp_all)
theorem yc(σ:St)(r j:Nat)(all cs:List AV)(n:Nat)(xs:List AV):σ.canXc r all j (.lst .s n xs::cs)=σ.canXc r all (j+1) cs:=by rw[St.canXc]<;>(intros;simp_all)
theorem xS(σ:St)(r j:Nat)(all cs:List AV)(n:Nat):σ.canXc r all j (.lst .u n []::cs)=⟨σ.env,put r (.var (.agg (fR all j (.lst .m n [])))) σ.rows⟩:=by rw[St.canXc]
theorem Ls(σ:St)(r j:Nat)(all cs:List AV)(v:Value):σ.canXc r all j (.sc v::cs)=σ.canXc r all (j+1) cs:=by rw[St.canXc]<;>(intros;contradiction)
theorem Dc(env:List (Nat×AV))(rows:List (Nat×Row))(r j:Nat)(all:List AV)(q i m k:Nat)(es:List AV):St.canXcr ⟨env,rows⟩ r all j q i m (some (.arr k es))=⟨env,put r (.var (.agg (fR all j (.lst .m k (dj (sub es i m)))))) (put q .dead rows)⟩:=rfl
theorem CM(σ:St)(r:Nat):σ.canX r (some .dead)=σ:=rfl
theorem xQ(j:Nat)(cs:List AV):fN j (some (.var (.agg cs)))=qa cs j:=rfl
theorem Cx(q i m:Nat):fN 0 (some (.var (.sl q i m)))=.sl q i m:=rfl
theorem wA(f:Fl)(m:Nat)(xs:List AV):fN 0 (some (.var (.lst f m xs)))=.lst f m xs:=rfl
theorem VL(x:AV)(xs:List AV):qa (x::xs) 0=x:=rfl
theorem SZ(x:AV)(xs:List AV)(j:Nat):qa (x::xs) (j+1)=qa xs j:=rfl
theorem VF(x y:AV)(xs:List AV):fR (x::xs) 0 y=y::xs:=rfl
theorem UL(x y:AV)(xs:List AV)(j:Nat):fR (x::xs) (j+1) y=x::fR xs j y:=rfl
theorem OQ(env:List (Nat×AV))(rows:List (Nat×Row))(far:Bool)(d r j q i m:Nat):St.canG ⟨env,rows⟩ far d r j (.sl q i m)=if q=d\/far=false/\1000000000<=q then⟨env,rows⟩ else⟨(env.map fun p=>(p.1,p.2.hush d)).map fun p=>(p.1,p.2.ren q d),((del d rows).map fun p=>(p.1,p.2.hush d)).map fun p=>(if p.1=q then d else p.1,p.2.map (·.ren q d))⟩:=rfl
theorem Gs(env:List (Nat×AV))(rows:List (Nat×Row))(far:Bool)(d r j m:Nat):St.canG ⟨env,rows⟩ far d r j (.lst .u m [])=St.canFN ⟨env,rows⟩ d r j m (aD r ((del d rows).map fun p=>(p.1,p.2.hush d))):=rfl
theorem Lj(env:List (Nat×AV))(rows:List (Nat×Row))(d r j m k:Nat):St.canFN ⟨env,rows⟩ d r j m (some (.var (.lst .u k [])))=⟨env.map fun p=>(p.1,p.2.hush d),put d (.arr m []) (put r (.var (.sl d 0 0)) ((del d rows).map fun p=>(p.1,p.2.hush d)))⟩:=rfl
theorem MN(env:List (Nat×AV))(rows:List (Nat×Row))(d r j m:Nat)(cs:List AV):St.canFN ⟨env,rows⟩ d r j m (some (.var (.agg cs)))=⟨env.map fun p=>(p.1,p.2.hush d),put d (.arr m []) (put r (.var (.agg (fR cs j (.sl d 0 0)))) ((del d rows).map fun p=>(p.1,p.2.hush d)))⟩:=rfl
theorem Nn(σ:St)(d r i n:Nat):σ.canV d (.sl r i n)=σ.canSl d r i n:=rfl
theorem Gn(σ:St)(d n:Nat):σ.canV d (.lst .u n [])=σ.canNil d n:=rfl
theorem ST(σ:St)(d n:Nat)(xs:List AV):σ.canV d (.lst .o n xs)=σ:=rfl
theorem SH(σ:St)(d n:Nat)(xs:List AV):σ.canV d (.lst .m n xs)=σ:=rfl
theorem Up(σ:St)(d n:Nat)(xs:List AV):σ.canV d (.lst .s n xs)=σ:=rfl
theorem Tj(env:List (Nat×AV))(rows:List (Nat×Row))(k:Nat):St.get ⟨env,rows⟩ k=(aD k env).getD .top:=rfl
theorem Us(env:List (Nat×AV))(rows:List (Nat×Row))(k:Nat):St.row ⟨env,rows⟩ k=aD k rows:=rfl
theorem gx_t(σ:St)(n:Nat):σ.gx (.t n)=σ.get n:=rfl
theorem gx_c(σ:St)(a:AV):σ.gx (.c a)=a:=rfl
theorem tI(env:List (Nat×AV))(rows:List (Nat×Row))(d:Nat)(v:AV)(u:List (Nat×Row)):St.app ⟨env,rows⟩ (some d) v u=⟨put d v env,bn u rows⟩:=rfl
theorem tz(env:List (Nat×AV))(rows:List (Nat×Row))(v:AV)(u:List (Nat×Row)):St.app ⟨env,rows⟩ none v u=⟨env,bn u rows⟩:=rfl
theorem pz(rows:List (Nat×Row)):bn [] rows=rows:=rfl
theorem mA(p:Nat×Row)(u rows:List (Nat×Row)):bn (p::u) rows=bn u (put p.1 p.2 rows):=rfl
theorem Ph(env:List (Nat×AV))(rows:List (Nat×Row))(s:Nat)(b:Bool):St.know ⟨env,rows⟩ s b=⟨put s (.sc (.bool b)) env,rows⟩:=rfl
theorem LI{α:Type}(k:Nat):aD k ([]:List (Nat×α))=none:=rfl
theorem AH{α:Type}(k j:Nat)(x:α)(l:List (Nat×α)):aD k ((j,x)::l)=if j=k then some x else aD k l:=rfl
theorem zU{α:Type}(k:Nat)(x:α):put k x []=[(k,x)]:=rfl
theorem uD{α:Type}(k j:Nat)(x y:α)(l:List (Nat×α)):put k x ((j,y)::l)=if j=k then(k,x)::l else(j,y)::put k x l:=rfl
theorem Nu{α:Type}(k:Nat):del k ([]:List (Nat×α))=[]:=rfl
theorem Hl{α:Type}(k j:Nat)(x:α)(l:List (Nat×α)):del k ((j,x)::l)=if j=k then del k l else(j,x)::del k l:=rfl
theorem getD_some{α:Type}(x y:α):(some x).getD y=x:=rfl
theorem Bg{α:Type}(y:α):(none:Option α).getD y=y:=rfl
theorem Kn(env:List (Nat×AV))(rows:List (Nat×Row))(d r i n:Nat):St.canSr ⟨env,rows⟩ d r i n=if r=d then⟨env,rows⟩ else
 ⟨put d (.sl d i n) ((env.map fun p=>(p.1,p.2.hush d)).map fun p=>(p.1,p.2.ren r d)),
  ((del d rows).map fun p=>(p.1,p.2.hush d)).map fun p=>(if p.1=r then d else p.1,p.2.map (·.ren r d))⟩:=rfl
theorem Hh(env:List (Nat×AV))(rows:List (Nat×Row))(d i m r q:Nat)(es:List AV):St.canZr ⟨env,rows⟩ d i m r (some (.arr q es))=⟨put d (.lst .m q (dj (sub es i m))) env,put r .dead rows⟩:=rfl
theorem ML(env:List (Nat×AV))(rows:List (Nat×Row))(d r i n:Nat):St.canSl ⟨env,rows⟩ d r i n=if r=d\/1000000000<=r then⟨env,rows⟩ else
 ⟨put d (.sl d i n) ((env.map fun p=>(p.1,p.2.hush d)).map fun p=>(p.1,p.2.ren r d)),
  ((del d rows).map fun p=>(p.1,p.2.hush d)).map fun p=>(if p.1=r then d else p.1,p.2.map (·.ren r d))⟩:=rfl
theorem CO(env:List (Nat×AV))(rows:List (Nat×Row))(d n:Nat):St.canNil ⟨env,rows⟩ d n=
 ⟨put d (.sl d 0 0) (env.map fun p=>(p.1,p.2.hush d)),put d (.arr n []) ((del d rows).map fun p=>(p.1,p.2.hush d))⟩:=rfl
theorem VB(σ:St)(lv lr:List Nat):σ.res lv lr=⟨lv.map fun k=>(k,σ.get k),lr.map fun r=>(r,(σ.row r).getD .dead)⟩:=rfl
theorem KD(σ:St)(lv lr:List Nat):σ.resOk lv lr=((∀k∈lv,∀r∈(σ.get k).ments,r∈lr)/\(∀q∈lr,∀r∈((σ.row q).getD .dead).ments,r∈lr)/\lr.Nodup):=rfl
theorem CS(r:Nat)(x:AV):Row.hush r (.var x)=if r∈x.ments then .dead else .var x:=rfl
theorem Bi(r:Nat)(n:Nat)(x:List AV):Row.hush r (.arr n x)=.arr n x:=rfl
theorem vR(r:Nat):Row.hush r .dead=.dead:=rfl
theorem KI(h:AV->AV)(x:AV):Row.map h (.var x)=.var (h x):=rfl
theorem Hn(h:AV->AV)(n:Nat)(x:List AV):Row.map h (.arr n x)=.arr n x:=rfl
theorem Dm(h:AV->AV):Row.map h .dead=.dead:=rfl
theorem xY(x:AV):Row.ments (.var x)=x.ments:=rfl
theorem wP(n:Nat)(x:List AV):Row.ments (.arr n x)=[]:=rfl
theorem tD:Row.ments .dead=[]:=rfl
theorem Qi(r:Nat)(a:AV):a.hush r=if r∈a.ments then .top else a:=rfl
theorem EX(v:Value):(AV.sc v).ments=[]:=by simp[AV.ments]
theorem CU(f:Fl)(n:Nat)(x:List AV):(AV.lst f n x).ments=[]:=by simp[AV.ments]
theorem IU(f:Fl)(n:Nat)(x:List AV):(AV.tg f n x).ments=[]:=by simp[AV.ments]
theorem Ln(f:Fl)(x:AV)(n:Nat):(AV.bp f x n).ments=[]:=by simp[AV.ments]
theorem CQ:AV.top.ments=[]:=by simp[AV.ments]
theorem Kg(r i n:Nat):(AV.sl r i n).ments=[r]:=by simp[AV.ments]
theorem KH(r i n:Nat):(AV.pt r i n).ments=[r]:=by simp[AV.ments]
theorem BL(cs:List AV):(AV.agg cs).ments=aN cs:=by simp[AV.ments]
theorem KY(f:Nat)(cs:List AV):(AV.fn f cs).ments=aN cs:=by simp[AV.ments]
theorem AF(cs:List AV):(AV.tup cs).ments=aN cs:=by simp[AV.ments]
theorem wg:aN []=[]:=by simp[aN]
theorem vz(c:AV)(cs:List AV):aN (c::cs)=c.ments++aN cs:=by simp[aN]
theorem dW(v:Value):(AV.sc v).fz=true:=by simp[AV.fz]
theorem co(n:Nat)(xs:List AV):(AV.lst .o n xs).fz=fzL xs:=by simp[AV.fz]
theorem cQ(cs:List AV):(AV.agg cs).fz=fzL cs:=by simp[AV.fz]
theorem cr:fzL []=true:=by simp[fzL]
theorem bT(c:AV)(cs:List AV):fzL (c::cs)=(c.fz&&fzL cs):=by simp[fzL]
theorem dV(v:Value):(AV.sc v).ouB=true:=by simp[AV.ouB]
theorem cv(n:Nat)(xs:List AV):(AV.lst .u n xs).ouB=cI xs:=by simp[AV.ouB]
theorem cV(cs:List AV):(AV.agg cs).ouB=cI cs:=by simp[AV.ouB]
theorem cu:cI []=true:=by simp[cI]
theorem bS(c:AV)(cs:List AV):cI (c::cs)=(c.ouB&&cI cs):=by simp[cI]
theorem cN(xs:List Int):fzL (xs.map AV.i)=true:=by induction xs<;>simp_all [fzL,AV.fz]
theorem cL(xs:List Bool):fzL (xs.map AV.b)=true:=by induction xs<;>simp_all [fzL,AV.fz]
theorem cS(xs:List ByteArray):fzL (xs.map AV.z)=true:=by induction xs<;>simp_all [fzL,AV.fz]
theorem cO(xs:List Int):fzL (xs.map AV.u8)=true:=by induction xs<;>simp_all [fzL,AV.fz]
theorem cq(xs:List Int):fzL (xs.map AV.u64)=true:=by induction xs<;>simp_all [fzL,AV.fz]
theorem cT(xs:List Int):cI (xs.map AV.u8)=true:=by induction xs<;>simp_all [cI,AV.ouB]
theorem ct(xs:List Int):cI (xs.map AV.u64)=true:=by induction xs<;>simp_all [cI,AV.ouB]
theorem cR(xs:List Int):cI (xs.map AV.i)=true:=by induction xs<;>simp_all [cI,AV.ouB]
theorem cP(xs:List Bool):cI (xs.map AV.b)=true:=by induction xs<;>simp_all [cI,AV.ouB]
theorem cU(xs:List ByteArray):cI (xs.map AV.z)=true:=by induction xs<;>simp_all [cI,AV.ouB]
theorem xq(x:AV)(off n:Nat):part x off n false=x.cells[off]?:=rfl
theorem Be(cs:List AV)(off n:Nat):part (.agg cs) off n true=if off+n<=cs.length then some (if off=0/\n=cs.length then .agg cs else .agg ((cs.drop off).take n)) else none:=by
 unfold part;by_cases h:off+n<=cs.length
 ·rw[if_pos rfl,if_pos ⟨rfl,h⟩,if_pos h];rfl
 ·rw[if_pos rfl,if_neg (fun e=>h e.2),if_neg h]
theorem sL(cs:List AV)(off:Nat)(v:Value):setPart (.agg cs) off (.sc v)=if off+1<=cs.length then some (.agg (fill cs off (.sc v))) else none:=rfl
theorem uc(cs:List AV)(off r i n:Nat):setPart (.agg cs) off (.sl r i n)=if off+1<=cs.length then some (.agg (fill cs off (.sl r i n))) else none:=rfl
theorem rI(cs:List AV)(off n:Nat)(f:Fl)(xs:List AV):setPart (.agg cs) off (.lst f n xs)=if off+1<=cs.length then some (.agg (fill cs off (.lst f n xs))) else none:=rfl
theorem rK(cs vs:List AV)(off:Nat):setPart (.agg cs) off (.agg vs)=if off=0/\vs.length=cs.length then some (.agg vs) else if off+vs.length<=cs.length then some (.agg (fill cs off (.agg vs))) else none:=rfl
theorem xD(x v:Value):setPart (.sc x) 0 (.sc v)=some (.sc v):=by simp[setPart,AV.isAgg,AV.width]
theorem ua(f:Fl)(n:Nat)(xs:List AV)(f':Fl)(n':Nat)(xs':List AV):setPart (.lst f n xs) 0 (.lst f' n' xs')=some (.lst f' n' xs'):=by simp[setPart,AV.isAgg,AV.width]
theorem pG(f:Fl)(n:Nat)(xs:List AV)(r i k:Nat):setPart (.lst f n xs) 0 (.sl r i k)=some (.sl r i k):=by simp[setPart,AV.isAgg,AV.width]
theorem rO(r' i' k' r i k:Nat):setPart (.sl r' i' k') 0 (.sl r i k)=some (.sl r i k):=by simp[setPart,AV.isAgg,AV.width]
theorem Dj(cs:List AV):(AV.agg cs).cells=cs:=rfl
theorem MU(v:Value):(AV.sc v).cells=[.sc v]:=rfl
theorem Cz(f:Fl)(n:Nat)(xs:List AV):(AV.lst f n xs).cells=[.lst f n xs]:=rfl
theorem Me(r i n:Nat):(AV.sl r i n).cells=[.sl r i n]:=rfl
theorem KX(f:Nat)(cs:List AV):(AV.fn f cs).cells=[.fn f cs]:=rfl
theorem Dp(cs:List AV):(AV.agg cs).width=cs.length:=rfl
theorem Kc(v:Value):(AV.sc v).width=1:=rfl
theorem Bb(f:Fl)(n:Nat)(xs:List AV):(AV.lst f n xs).width=1:=rfl
theorem Jl(r i n:Nat):(AV.sl r i n).width=1:=rfl
theorem Md(f:Nat)(cs:List AV):(AV.fn f cs).width=1:=rfl
theorem QZ(cs:List AV)(off:Nat)(v:AV):fill cs off v=cs.take off++v.cells++cs.drop (off+v.cells.length):=rfl
theorem BH(cs:List AV):jS cs []=cs:=rfl
theorem vT(cs:List AV)(off:Nat)(v:AV)(l:List (Nat×AV)):jS cs ((off,v)::l)=jS (fill cs off v) l:=rfl
theorem Qo(rs:List RV)(res:AV)(σ:St):fin rs res .ret σ=opt (RVs.val σ rs) fun xs=>(aN xs).Nodup/\lift σ.row 3 (fY xs)=res:=by
 simp only[fin,opt];cases RVs.val σ rs<;>simp
theorem Qh(rs:List RV)(res:AV)(σ:St):fin rs res .nrm σ=opt (RVs.val σ rs) fun xs=>(aN xs).Nodup/\lift σ.row 3 (fY xs)=res:=by
 simp only[fin,opt];cases RVs.val σ rs<;>simp
def Tc(o:Option Row)(k:Nat)(ag:Bool):Option AV:=match o with
 |some (.var y)=>part y 0 k ag
 |_=>none
def rvC(σ:St)(a:AV)(k:Nat)(ag:Bool):Option AV:=match a with
 | .pt r 0 0=>Tc (σ.row r) k ag
 |_=>none
theorem rv_t(σ:St)(n:Nat):RV.val σ (.t n)=some (σ.get n):=rfl
theorem rv_c(σ:St)(n k:Nat)(ag:Bool):RV.val σ (.c n k ag)=rvC σ (σ.get n) k ag:=by simp only[RV.val];rfl
theorem Ul(σ:St)(r k:Nat)(ag:Bool):rvC σ (.pt r 0 0) k ag=Tc (σ.row r) k ag:=rfl
theorem EN(y:AV)(k:Nat)(ag:Bool):Tc (some (.var y)) k ag=part y 0 k ag:=rfl
def RI(x:Option AV)(xs:Option (List AV)):Option (List AV):=match x,xs with
 |some x,some xs=>some (x::xs)
 |_,_=>none
theorem QI(σ:St):RVs.val σ []=some []:=rfl
theorem IV(σ:St)(r:RV)(rs:List RV):RVs.val σ (r::rs)=RI (r.val σ) (RVs.val σ rs):=by simp only[RVs.val];rfl
theorem vH(x:AV)(xs:List AV):RI (some x) (some xs)=some (x::xs):=rfl
theorem HG(x:AV):fY [x]=x:=rfl
theorem Jy(x y:AV)(l:List AV):fY (x::y::l)=.tup (x::y::l):=rfl
theorem JF(args:List AV):St.start args=⟨St.start.go 0 args,[]⟩:=rfl
theorem Df(n:Nat):St.start.go n []=[]:=rfl
theorem wF(n:Nat)(a:AV)(l:List AV):St.start.go n (a::l)=(n,a)::St.start.go (n+1) l:=rfl
theorem aH(ok:Oks)(a:ar)(rs:List RV)(args:List AV)(res:AV):Tn ok a rs args res=AWP ok a (fin rs res) (St.start args):=rfl
theorem fl1:Fl.als .u=.m:=rfl
theorem fl2:Fl.als .o=.o:=rfl
theorem fl3:Fl.als .s=.s:=rfl
theorem fl4:Fl.als .m=.m:=rfl
theorem fl5:Fl.fix .u=.u:=rfl
theorem fl6:Fl.fix .o=.s:=rfl
theorem fl7:Fl.fix .s=.s:=rfl
theorem fl8:Fl.fix .m=.m:=rfl
theorem nk{α β:Type}(f:α->β)(x:α)(l:List α):(x::l).map f=f x::l.map f:=rfl
theorem qt{α β:Type}(f:α->β):[].map f=[]:=rfl
theorem DR{α:Type}(l:List α):l++[]=l:=List.append_nil l
theorem qK{α:Type}(l:List α):[]++l=l:=rfl
theorem nE{α:Type}(x:α)(k l:List α):(x::k)++l=x::(k++l):=rfl
theorem wB{α:Type}(x:α)(l:List α):(x::l).length=l.length+1:=rfl
theorem Ds{α:Type}:([]:List α).length=0:=rfl
theorem qN{α β:Type}(f:α->β)(l:List α):(l.map f).length=l.length:=List.length_map ..
theorem Ty{α:Type}(x:α)(l:List α):(x::l)[0]?=some x:=rfl
theorem Vf{α:Type}(x:α)(l:List α)(n:Nat):(x::l)[n+1]?=l[n]?:=rfl
theorem Ei{α β:Type}(f:α->β)(l:List α)(n:Nat):(l.map f)[n]?=(l[n]?).map f:=List.getElem?_map ..
theorem xO{α β:Type}(f:α->β)(x:α):(some x).map f=some (f x):=rfl
theorem wd{α β:Type}(f:α->β):(none:Option α).map f=none:=rfl
theorem Lg{α:Type}(l:List α):l.take 0=[]:=rfl
theorem II{α:Type}(x:α)(l:List α)(n:Nat):(x::l).take (n+1)=x::l.take n:=rfl
theorem Mu{α:Type}(l:List α):l.drop 0=l:=rfl
theorem Mi{α:Type}(x:α)(l:List α)(n:Nat):(x::l).drop (n+1)=l.drop n:=rfl
theorem EF{α:Type}(n:Nat):([]:List α).drop n=[]:=List.drop_nil
theorem Gc{α:Type}(n:Nat):([]:List α).take n=[]:=List.take_nil
theorem PK(l:List Int):u8s (l.map AV.u8)=some l:=by induction l<;>simp_all [u8s]
theorem xn(n:Nat):((n:Int)).toNat=n:=rfl
theorem FD{ok:Oks}{a:ar}{Q:Ex->St->Prop}{σ:St}(lv lr:List Nat)(I:St->Prop)(μ:St->Nat)(h0:σ.resOk lv lr)(h1:I (σ.res lv lr))(h2:∀τ,I τ->AWP ok a (thn (fun τ'=>τ'.resOk lv lr/\I (τ'.res lv lr)/\μ (τ'.res lv lr)<μ τ) Q) τ):AWP ok (.loop a) Q σ:=by
 simp only[AWP];exact⟨lv,lr,I,μ,h0,h1,h2⟩
theorem KT{ok:Oks}{ρ:Nat->Option Row}{d f:Nat}{args:List AV}{K:AV->List (Nat×Row)->Prop}{res:AV}(h:ok.p f (args.map (snp ρ 4)) res)(hu:res.allU)(hn:∀p∈(adopt 4 d res).2.1,ρ p.1=none/\p.1<1000000000)(hk:K (adopt 4 d res).1 (adopt 4 d res).2.1):fw ok ρ d f args K:=⟨res,h,.inl hu,hn,hk⟩
theorem EM{ok:Oks}{ρ:Nat->Option Row}{d f:Nat}{args:List AV}{K:AV->List (Nat×Row)->Prop}{v:Value}(h:ok.p f (args.map (snp ρ 4)) (.sc v))(hk:K (.sc v) []):fw ok ρ d f args K:=⟨.sc v,h,.inl (by simp[AV.allU]),by simp[lB],by simpa[lB] using hk⟩
theorem GI{ok:Oks}{ρ:Nat->Option Row}{d f:Nat}{args:List AV}{rs:List Nat}{K:AV->List (Nat×Row)->Prop}{res:AV}{outs:List (Nat×Row)}(h:ok.m f (args.map (AV.rg (cnm rs))) (rs.map (gj ρ rs)) res outs)(h1:rs.Nodup/\(∀r∈rs,cJ (ρ r))/\(∀r∈rs,∀q∈lU (ρ r),q∈rs)/\(∀r∈aN args,r∈rs))(h2:(outs.map fun p=>bkn d rs p.1).Nodup/\(∀p∈outs,1000000000<=p.1->p.1-1000000000<rs.length)/\(∀p∈outs,p.1<1000000000->ρ (bkn d rs p.1)=none/\bkn d rs p.1<1000000000))(hk:K (res.rg (bkn d rs)) (bE rs++outs.map (eV d rs))):callM ok ρ d f args rs K:=⟨res,outs,h,h1,h2,hk⟩
theorem fT{α:Type}{e:α->AV}(h:∀x,(e x).fz=true)(xs:List α):fzL (xs.map e)=true:=by induction xs<;>simp_all [fzL]
theorem fW{α:Type}{e:α->AV}(h:∀x,(e x).ouB=true)(xs:List α):cI (xs.map e)=true:=by induction xs<;>simp_all [cI]
theorem ZI{A B:Prop}(a:A)(b:B):A/\B:=⟨a,b⟩
def VS1:=ZI @gM (ZI @gK (ZI @fj (ZI @TE (ZI @Pm (ZI @Th (ZI @OL (ZI @TR (ZI @TQ (ZI @TG (ZI @DN (ZI @Tp (ZI @AM (ZI @NP (ZI @GX (ZI @El (ZI @Em (ZI @OB (ZI @xV (ZI @lB (ZI @Ab (ZI @zI (ZI @zx (ZI @zd (ZI @qF (ZI @qW (ZI @qP (ZI @pn (ZI @cn (ZI @en (ZI @ec (ZI @TI (ZI @du (ZI @eb (ZI @eg (ZI @dH (ZI @dN (ZI @dS (ZI @eI (ZI @eC (ZI @dR (ZI @BZ (ZI @CN (ZI @rl (ZI @mc (ZI @lO (ZI @jL (ZI @wN (ZI @BW (ZI @BV (ZI @Bn (ZI @xi (ZI @py (ZI @OI (ZI @c_eq (ZI @Wb (ZI @TC (ZI @NS (ZI @Mv (ZI @Vk (ZI @SV (ZI @Oz (ZI @Nk (ZI @IH (ZI @Kk (ZI @IK (ZI @TW (ZI @Uq (ZI @TX (ZI @Wz (ZI @We (ZI @VO (ZI @VT (ZI @US (ZI @UT (ZI @Wm (ZI @Wr (ZI @Nr (ZI @la (ZI @Rh (ZI @Hq (ZI @RX (ZI @Rr @Km))))))))))))))))))))))))))))))))))))))))))))))))))))))))))))))))))))))))))))))))))
def VS2:=ZI @Fa (ZI @SD (ZI @Li (ZI @Sb (ZI @RK (ZI @zZ (ZI @zF (ZI @tM (ZI @tq (ZI @Iu (ZI @FT (ZI @Fu (ZI @vn (ZI @wX (ZI @vO (ZI @Aj (ZI @yC (ZI @Vp (ZI @Nm (ZI @VK (ZI @Tt (ZI @Rd (ZI @Np (ZI @VE (ZI @OM (ZI @Ta (ZI @Vc (ZI @JO (ZI @NG (ZI @OO (ZI @PT (ZI @Ez (ZI @TD (ZI @VH (ZI @SX (ZI @Jd (ZI @Gr (ZI @Wo (ZI @VN (ZI @Oy (ZI @OA (ZI @Eb (ZI @QF (ZI @Ol (ZI @Tl (ZI @Pv (ZI @Ps (ZI @TL (ZI @PE (ZI @TV (ZI @Lt (ZI @Pg (ZI @Qp (ZI @BN (ZI @PH (ZI @BQ (ZI @PN (ZI @vI (ZI @wx (ZI @zk (ZI @VZ (ZI @LY (ZI @HN (ZI @Eg (ZI @uk (ZI @uv (ZI @KR (ZI @Az (ZI @CA (ZI @sv (ZI @Ir (ZI @sn (ZI @DX (ZI @Aw (ZI @Nx (ZI @Oq (ZI @Nj (ZI @PI (ZI @Vl (ZI @SS (ZI @Ug (ZI @PJ @Qt)))))))))))))))))))))))))))))))))))))))))))))))))))))))))))))))))))))))))))))))))
def VS3:=ZI @Vz (ZI @Tu (ZI @TA (ZI @MD (ZI @Fq (ZI @QB (ZI @Qy (ZI @Uw (ZI @Vj (ZI @Pn (ZI @Uu (ZI @Uj (ZI @Ts (ZI @LA (ZI @QL (ZI @Qg (ZI @Tq (ZI @OS (ZI @HT (ZI @Dn (ZI @Pt (ZI @SR (ZI @JI (ZI @Wk (ZI @NN (ZI @bV_i (ZI @Qm (ZI @Oj (ZI @Ql (ZI @QH (ZI @OX (ZI @Vu (ZI @OD (ZI @Po (ZI @Qz (ZI @UZ (ZI @Hv (ZI @PX (ZI @VU (ZI @Ww (ZI @Wq (ZI @VR (ZI @NC (ZI @NV (ZI @Ga (ZI @JL (ZI @OE (ZI @PU (ZI @Oo (ZI @FH (ZI @EV (ZI @Nv (ZI @Cd (ZI @LC (ZI @Kl (ZI @PM (ZI @QA (ZI @HD (ZI @Nw (ZI @Ou (ZI @EG (ZI @EL (ZI @Pd (ZI @NI (ZI @TZ (ZI @PD (ZI @UV (ZI @Qj (ZI @LQ (ZI @Qc (ZI @AR (ZI @Pc (ZI @QN (ZI @Hx (ZI @QV (ZI @QS (ZI @Pq (ZI @Vq (ZI @SI (ZI @Dx @Qn)))))))))))))))))))))))))))))))))))))))))))))))))))))))))))))))))))))))))))))))
def VS4:=ZI @PA (ZI @Jf (ZI @QO (ZI @QP (ZI @NB (ZI @CF (ZI @QD (ZI @CX (ZI @NL (ZI @Qe (ZI @Bo (ZI @Oc (ZI @Qw (ZI @DB (ZI @Nh (ZI @Ow (ZI @PC (ZI @DV (ZI @Pf (ZI @AP (ZI @NU (ZI @vX (ZI @Aq (ZI @HK (ZI @GS (ZI @vh (ZI @AC (ZI @Kj (ZI @NR (ZI @Ni (ZI @Vm (ZI @Wp (ZI @UX (ZI @Wx (ZI @Px (ZI @PV (ZI @NA (ZI @NZ (ZI @QX (ZI @PS (ZI @Tm (ZI @NF (ZI @xW (ZI @QU (ZI @QW (ZI @Pp (ZI @QY (ZI @Qx (ZI @Oi (ZI @Rf (ZI @PQ (ZI @Wh (ZI @Wg (ZI @JY (ZI @Et (ZI @KW (ZI @Vw (ZI @VD (ZI @Kv (ZI @BF (ZI @wZ (ZI @vZ (ZI @Tg (ZI @UB (ZI @KA (ZI @HY (ZI @PP (ZI @Qf (ZI @yB (ZI @OZ (ZI @Bu (ZI @Cl (ZI @DJ (ZI @CY (ZI @Hb @Pr))))))))))))))))))))))))))))))))))))))))))))))))))))))))))))))))))))))))))
def VS5:=ZI @Ih (ZI @Cs (ZI @Dk (ZI @PW (ZI @FZ (ZI @UP (ZI @Vy (ZI @Uy (ZI @UW (ZI @Un (ZI @TK (ZI @Dv (ZI @PB (ZI @Hf (ZI @JP (ZI @DE (ZI @MH (ZI @Al (ZI @MQ (ZI @Co (ZI @AO (ZI @QR (ZI @JZ (ZI @TF (ZI @Ux (ZI @Vb (ZI @Fb (ZI @BU (ZI @GA (ZI @Di (ZI @IL (ZI @Bs (ZI @KU (ZI @wm (ZI @xR (ZI @yc (ZI @xS (ZI @Ls (ZI @Dc (ZI @CM (ZI @xQ (ZI @Cx (ZI @wA (ZI @VL (ZI @SZ (ZI @VF (ZI @UL (ZI @OQ (ZI @Gs (ZI @Lj (ZI @MN (ZI @Nn (ZI @Gn (ZI @ST (ZI @SH (ZI @Up (ZI @Tj (ZI @Us (ZI @gx_t (ZI @gx_c (ZI @tI (ZI @tz (ZI @pz (ZI @mA (ZI @Ph (ZI @LI (ZI @AH (ZI @zU (ZI @uD (ZI @Nu (ZI @Hl (ZI @getD_some (ZI @Bg (ZI @Kn (ZI @Hh (ZI @ML (ZI @CO (ZI @VB (ZI @KD (ZI @CS (ZI @Bi (ZI @vR (ZI @KI @Hn))))))))))))))))))))))))))))))))))))))))))))))))))))))))))))))))))))))))))))))))))
def VS6:=ZI @Dm (ZI @xY (ZI @wP (ZI @tD (ZI @Qi (ZI @EX (ZI @CU (ZI @IU (ZI @Ln (ZI @CQ (ZI @Kg (ZI @KH (ZI @BL (ZI @KY (ZI @AF (ZI @wg (ZI @vz (ZI @xq (ZI @Be (ZI @sL (ZI @uc (ZI @rI (ZI @rK (ZI @xD (ZI @ua (ZI @pG (ZI @rO (ZI @Dj (ZI @MU (ZI @Cz (ZI @Me (ZI @KX (ZI @Dp (ZI @Kc (ZI @Bb (ZI @Jl (ZI @Md (ZI @QZ (ZI @BH (ZI @vT (ZI @Qo (ZI @Qh (ZI @rv_t (ZI @rv_c (ZI @Ul (ZI @EN (ZI @QI (ZI @IV (ZI @vH (ZI @HG (ZI @Jy (ZI @JF (ZI @Df (ZI @wF (ZI @aH (ZI @fl1 (ZI @fl2 (ZI @fl3 (ZI @fl4 (ZI @fl5 (ZI @fl6 (ZI @fl7 (ZI @fl8 (ZI @nk (ZI @qt (ZI @DR (ZI @qK (ZI @nE (ZI @wB (ZI @Ds (ZI @qN (ZI @Ty (ZI @Vf (ZI @Ei (ZI @xO (ZI @wd (ZI @Lg (ZI @II (ZI @Mu (ZI @Mi (ZI @EF (ZI @Gc (ZI @PK @xn))))))))))))))))))))))))))))))))))))))))))))))))))))))))))))))))))))))))))))))))))
def VA:=ZI @fj (ZI @lB (ZI @Ab (ZI @zI (ZI @zx (ZI @zd (ZI @qF (ZI @qW (ZI @qP (ZI @pn (ZI @dH (ZI @dN (ZI @dS (ZI @dR (ZI @rl (ZI @jL (ZI @py (ZI @Kk (ZI @IK (ZI @la (ZI @Rh (ZI @Hq (ZI @RX (ZI @Rr (ZI @Km (ZI @Fa (ZI @SD (ZI @Li (ZI @Sb (ZI @RK (ZI @zZ (ZI @zF (ZI @tM (ZI @tq (ZI @Iu (ZI @FT (ZI @vn (ZI @Aj (ZI @yC (ZI @zk (ZI @yB (ZI @tI (ZI @tz (ZI @pz (ZI @mA (ZI @zU (ZI @uD (ZI @fl5 (ZI @fl6 (ZI @fl7 (ZI @fl8 (ZI @nk (ZI @qt (ZI @qK (ZI @nE (@qN)))))))))))))))))))))))))))))))))))))))))))))))))))))))
end Vs

