/-
  Part of the proof that the law FnSurvival returns true at every input; no condition beside the row's own.
-/
import Derived.Calls
import Derived.Below
set_option linter.defProp false
set_option linter.unusedSimpArgs false
set_option linter.unusedVariables false
namespace Vs
open Go
inductive Fl where|o|s|m|u
 deriving DecidableEq
def Fl.als:Fl->Fl
 | .u=>.m
 |f=>f
def Fl.fix:Fl->Fl
 | .o=>.s
 |f=>f
inductive AV where
 |sc (v:Value)
 |lst (f:Fl) (n:Nat) (xs:List AV)
 |tg (f:Fl) (n:Nat) (xs:List AV)
 |agg (cs:List AV)
 |bp (f:Fl) (x:AV) (off:Nat)
 |sl (r i n:Nat)
 |pt (r i off:Nat)
 |fn (f:Nat) (cs:List AV)
 |tup (vs:List AV)
 |ub
 |top
instance:Inhabited AV:=⟨.top⟩
abbrev AV.i(n:Int):AV:=.sc (.int .i64 n)
abbrev AV.u8(n:Int):AV:=.sc (.int .u8 n)
abbrev AV.u64(n:Int):AV:=.sc (.int .u64 n)
abbrev AV.b(b:Bool):AV:=.sc (.bool b)
abbrev AV.z(s:ByteArray):AV:=.sc (.string s)
def AV.width:AV->Nat
 | .agg cs=>cs.length
 | .top=>0
 | .tup _=>0
 |_=>1
def AV.isAgg:AV->Bool
 | .agg _=>true
 |_=>false
def AV.cells:AV->List AV
 | .agg cs=>cs
 | .top=>[]
 | .tup _=>[]
 |x=>[x]
mutual
def AV.nrm:AV->AV
 | .sc v=>.sc v
 | .lst _ n xs=>.lst .o n (gJ xs)
 | .tg _ n xs=>.lst .o n (gJ xs)
 | .agg cs=>.agg (gJ cs)
 | .bp _ x off=>.bp .o x.nrm off
 | .fn f cs=>.fn f (gJ cs)
 |_=>.top
def gJ:List AV->List AV
 |[]=>[]
 |c::cs=>c.nrm::gJ cs
end
mutual
def AV.als:AV->AV
 | .sc v=>.sc v
 | .lst f n xs=>.lst f.als n (di xs)
 | .agg cs=>.agg (di cs)
 |_=>.top
def di:List AV->List AV
 |[]=>[]
 |c::cs=>c.als::di cs
end
mutual
def AV.fix:AV->AV
 | .sc v=>.sc v
 | .lst f n xs=>.lst f.fix n (fK xs)
 | .agg cs=>.agg (fK cs)
 | .tup cs=>.tup (fK cs)
 | .fn f cs=>.fn f (fK cs)
 |_=>.top
def fK:List AV->List AV
 |[]=>[]
 |c::cs=>c.fix::fK cs
end
mutual
def AV.ments:AV->List Nat
 | .sl r _ _=>[r]
 | .pt r _ _=>[r]
 | .agg cs=>aN cs
 | .fn _ cs=>aN cs
 | .tup cs=>aN cs
 |_=>[]
def aN:List AV->List Nat
 |[]=>[]
 |c::cs=>c.ments++aN cs
end
mutual
def AV.allU:AV->Prop
 | .sc _=>True
 | .lst f _ xs=>f=.u/\ju xs
 | .agg cs=>ju cs
 | .tup cs=>ju cs
 |_=>False
def ju:List AV->Prop
 |[]=>True
 |c::cs=>c.allU/\ju cs
end
mutual
def AV.allO:AV->Prop
 | .sc _=>True
 | .lst f _ xs=>f=.o/\mD xs
 | .agg cs=>mD cs
 | .tup cs=>mD cs
 |_=>False
def mD:List AV->Prop
 |[]=>True
 |c::cs=>c.allO/\mD cs
end
mutual
def AV.ou:AV->Prop
 | .sc _=>True
 | .lst f _ xs=>(f=.u/\ouL xs)\/(f=.o/\mD xs)
 | .agg cs=>ouL cs
 | .tup cs=>ouL cs
 |_=>False
def ouL:List AV->Prop
 |[]=>True
 |c::cs=>c.ou/\ouL cs
end
mutual
def AV.noU:AV->Prop
 | .sc _=>True
 | .lst f _ xs=>f≠.u/\wA xs
 | .agg cs=>wA cs
 | .tup cs=>wA cs
 |_=>False
def wA:List AV->Prop
 |[]=>True
 |c::cs=>c.noU/\wA cs
end
def sub(es:List AV)(i n:Nat):List AV:=if i=0/\n=es.length then es else(es.drop i).take n
def fq{α:Type}(es:List α)(i:Nat)(ys:List α):List α:=if i+ys.length<=es.length then es.take i++ys++es.drop (i+ys.length) else es
inductive Row where
 |var (x:AV)
 |arr (n:Nat) (es:List AV)
 |dead
def cL:Option Row->Prop
 |some (.var _)=>True
 |some (.arr _ _)=>True
 |_=>False
def aD{α:Type}(k:Nat):List (Nat×α)->Option α
 |[]=>none
 |(j,x)::l=>if j=k then some x else aD k l
def put{α:Type}(k:Nat)(x:α):List (Nat×α)->List (Nat×α)
 |[]=>[(k,x)]
 |(j,y)::l=>if j=k then(k,x)::l else(j,y)::put k x l
def mN(o:Option Row)(i n:Nat):AV:=match o with
 |some (.arr w es)=>.lst .o w (gJ (sub es i n))
 |_=>.top
def lu(h:AV->AV)(o:Option Row)(i off:Nat):AV:=match o with
 |some (.var y)=>if i=0 then .bp .o (h y) off else .top
 | some (.arr _ es) => match es[i]? with
   |some y=>.bp .o y.nrm off
   |none=>.top
 |_=>.top
def snp(ρ:Nat->Option Row):Nat->AV->AV
 |0,_=>.top
 | k + 1, x => match x with
   | .sl r i n=>mN (ρ r) i n
   | .pt r i off=>lu (snp ρ k) (ρ r) i off
   | .agg cs=>.agg (cs.map (snp ρ k))
   | .fn f cs=>.fn f (cs.map (snp ρ k))
   |x=>x.nrm
def kx(o:Option Row)(i n:Nat):AV:=match o with
 |some (.arr w es)=>.lst .u w (sub es i n)
 |_=>.top
def lift(ρ:Nat->Option Row):Nat->AV->AV
 |0,_=>.top
 | k + 1, x => match x with
   | .sl r i n=>kx (ρ r) i n
   | .agg cs=>.agg (cs.map (lift ρ k))
   | .tup cs=>.tup (cs.map (lift ρ k))
   | .sc v=>.sc v
   | .lst f n xs=>.lst f n xs
   |_=>.top
def adopt:Nat->Nat->AV->AV×List (Nat×Row)×Nat
 |0,c,_=>(.top,[],c)
 | k + 1, c, x => match x with
   | .lst .u n es=>(.sl c 0 es.length,[(c,.arr n (fK es))],c+1000)
   | .agg cs=>let(l,u,c):=go k c cs;(.agg l,u,c)
   | .tup cs=>let(l,u,c):=go k c cs;(.tup l,u,c)
   |x=>(x.fix,[],c)
where
 go (k:Nat):Nat->List AV->List AV×List (Nat×Row)×Nat
  |c,[]=>([],[],c)
  | c, x :: xs =>
    let(y,u,c):=adopt k c x;let(ys,us,c):=go k c xs
    (y::ys,u++us,c)
inductive X where
 |t (n:Nat)
 |c (a:AV)
inductive AOp where
 |mv (x:X)
 |pick (c a b:X)
 |alloc (z:AV)
 |box (n:Nat) (x:X)
 |build (z:List AV) (ps:List (Nat×Nat×X))
 |bsl (n:Nat) (fr:Bool) (ps:List X)
 |load (n:Nat) (ag:Bool) (x:X)
 |store (n:Nat) (x v:X)
 |bin (op:BinOp) (x y:X)
 |beq (neg:Bool) (x y:X)
 |un (op:UnOp) (x:X)
 |conv (k:IntKind) (x:X)
 |mkf (f:Nat) (cs:List X)
 |mks (n:Nat) (z:AV) (bytes:Nat) (l c:X)
 |slc (n:Nat) (x:X) (lo hi mx:Option X)
 |slz (x:X) (lo hi:Option X)
 |fad (off:Nat) (x:X)
 |idx (n:Nat) (x i:X)
 |fld (off n:Nat) (ag:Bool) (x:X)
 |stri (x i:X)
 |ext (x:X) (j:Nat)
 |call (f:Nat) (xs:List X)
 |dyn (x:X) (xs:List X)
 |callM (f:Nat) (xs:List X) (rs:List Nat)
 |dynM (x:X) (xs:List X) (rs:List Nat)
 |len (x:X)
 |lenz (x:X)
 |capn (x:X)
 |slg (n:Nat) (x hi:X)
 |apz (n:Nat) (z:AV) (bytes:Nat) (x l:X)
 |b2s (x:X)
 |isn (neg:Bool) (x:X)
 |aeq (neg:Bool) (x y:X)
 |apq (n:Nat) (x y:X)
 |slx (n:Nat) (x:X) (lo hi:Option X)
 |slm (n:Nat) (x lo hi mx:X)
 |clr (n:Nat) (z:AV) (x:X)
 |cpy (n:Nat) (x y:X)
 |ldv (av:List Nat) (n:Nat) (ag:Bool) (x:X)
 |str (n:Nat) (x v:X)
 |lda (n:Nat) (ag:Bool) (x:X)
 |stv (n:Nat) (x v:X)
 |fdv (av:List Nat) (off:Nat) (x:X)
 |idv (av:List Nat) (n:Nat) (x i:X)
 |lnv (av:List Nat) (x:X)
 |stw (r n:Nat) (x v:X)
 |bsm (n:Nat) (ps:List X)
 |app (n bytes:Nat) (mv:Bool) (x y:X)
 |nilc (x:X)
 |mn (x y:X)
 |mx (x y:X)
 |bad
structure bc where
 d:Option Nat
 op:AOp
 gd:Option (Nat×Bool)
inductive HOp where
 |inn (t n k:Nat) (x:X) (mids:List (Nat×X)) (d f:Nat) (xs:List X)
 |har (d f:Nat) (xs:List X) (rs:List Nat)
inductive Can where
 |s (d:Nat)
 |f (far:Bool) (d r j:Nat)
 |r (d:Nat)
 |z (d:Nat)
 |e (far:Bool) (d k j:Nat)
 |w (r:Nat)
inductive au where
 |skip
 |reg (ops:List bc) (can:List Can)
 |drw (ops:List bc) (can:List Can)
 |seq (a b:au)
 |seqr (a:au) (lv lr:List Nat) (b:au)
 |seqa (x a:au) (lv lr:List Nat) (b:au)
 |seqb (a:au) (lv:List Nat) (b:au)
 |cond (x:X) (a b:au)
 |blk (id:Nat) (a:au)
 |loop (a:au)
 |exit (id:Nat)
 |ret
structure St where
 env:List (Nat×AV)
 rows:List (Nat×Row)
def St.get(σ:St)(k:Nat):AV:=(aD k σ.env).getD .top
def St.row(σ:St)(r:Nat):Option Row:=aD r σ.rows
def St.gx(σ:St):X->AV
 | .t n=>σ.get n
 | .c a=>a
def bq(l:List (Nat×Row))(rows:List (Nat×Row)):List (Nat×Row):=l.foldl (fun rs p=>put p.1 p.2 rs) rows
def St.app(σ:St)(d:Option Nat)(v:AV)(u:List (Nat×Row)):St:=
 {env:=match d with|some d=>put d v σ.env|none=>σ.env,rows:=bq u σ.rows}
def St.know(σ:St)(s:Nat)(b:Bool):St:={σ with env:=put s (.b b) σ.env}
def I64(n:Int):Prop:=-9223372036854775808<=n/\n<=9223372036854775807
def fill(cs:List AV)(off:Nat)(v:AV):List AV:=cs.take off++v.cells++cs.drop (off+v.cells.length)
def kh:List AV->List (Nat×AV)->List AV
 |cs,[]=>cs
 |cs,(off,v)::l=>kh (fill cs off v) l
def part(x:AV)(off n:Nat)(ag:Bool):Option AV:=
 if ag then(if x.isAgg=true/\off+n<=x.width then some (if off=0/\n=x.width then .agg x.cells else .agg ((x.cells.drop off).take n)) else none)
 else x.cells[off]?
def setPart(x:AV)(off:Nat)(v:AV):Option AV:=
 if x.isAgg=true then
  (if v.isAgg=true then(if off=0/\v.width=x.width then some v else if off+v.width<=x.width then some (.agg (fill x.cells off v)) else none)
   else if off+1<=x.width then some (.agg (fill x.cells off v)) else none)
 else if off=0/\v.isAgg=false/\x.width=1 then some v else none
def bits(op:BinOp)(k:IntKind)(x y:Int):Int:=
 let a:=BitVec.ofInt k.bits x;let b:=BitVec.ofInt k.bits y
 k.wrap (match op with| .and=>(a &&& b).toNat| .or=>(a ||| b).toNat| .xor=>(a ^^^ b).toNat|_=>(a &&& ~~~b).toNat)
def ofI(k:IntKind)(n:Int)(K:AV->Prop):Prop:=K (.sc (.int k (k.wrap n)))
def dq(op:BinOp)(k:IntKind)(a b:Int)(K:AV->Prop):Prop:=
 match op with
 | .add=>ofI k (a+b) K
 | .sub=>ofI k (a-b) K
 | .mul=>ofI k (a*b) K
 | .quo=>b≠0/\ofI k (a.tdiv b) K
 | .rem=>b≠0/\K (.sc (.int k (a.tmod b)))
 | .and=>K (.sc (.int k (bits .and k a b)))
 | .or=>K (.sc (.int k (bits .or k a b)))
 | .xor=>K (.sc (.int k (bits .xor k a b)))
 | .andNot=>K (.sc (.int k (bits .andNot k a b)))
 | .eql=>K (.b (a==b))
 | .neq=>K (.b (a !=b))
 | .lss=>K (.b (decide (a<b)))
 | .leq=>K (.b (decide (a<=b)))
 | .gtr=>K (.b (decide (a>b)))
 | .geq=>K (.b (decide (a>=b)))
 |_=>False
def dW(op:BinOp)(k:IntKind)(a y:Int)(K:AV->Prop):Prop:=
 0<=y/\match op with
 | .shl=>ofI k (a*2^(min y.toNat k.bits)) K
 | .shr=>K (.sc (.int k (a.fdiv (2^(min y.toNat k.bits)))))
 |_=>False
def dc(op:BinOp)(x y:AV)(K:AV->Prop):Prop:=
 match x,y with
 | .sc (.int k a), .sc (.int k' b) =>
   match op with
   | .shl=>dW .shl k a b K
   | .shr=>dW .shr k a b K
   |op=>k=k'/\dq op k a b K
 | .sc (.string a), .sc (.string b) =>
   match op with
   | .add=>a.size+b.size<=9223372036854775807/\K (.z (a++b))
   | .eql=>K (.b (a.toList==b.toList))
   | .neq=>K (.b (!(a.toList==b.toList)))
   |_=>False
 |_,_=>False
def unV(op:UnOp)(x:AV)(K:AV->Prop):Prop:=
 match op,x with
 | .neg,.sc (.int k n)=>ofI k (0-n) K
 | .not,.sc (.bool b)=>K (.b (!b))
 |_,_=>False
def aL(rs:List Nat):List (Nat×Row):=rs.map fun r=>(r,.dead)
def lL(n:Nat)(o:Option Row)(i k:Nat):Option (List AV):=match o with
 |some (.arr w es)=>if w=n then some (di (sub es i k)) else none
 |_=>none
def du(n:Nat)(ρ:Nat->Option Row):AV->Option (List AV)
 | .lst _ w xs=>if w=n then some xs else none
 | .tg _ w xs=>if w=n then some xs else none
 | .sl r i k=>lL n (ρ r) i k
 |_=>none
def uG(n r m:Nat)(o:Option Row):Option (List AV×List (Nat×Row)):=match o with
 |some (.arr w ys)=>if w=n/\m=ys.length then some (ys,[(r,.dead)]) else none
 |_=>none
def kc(o:Option (List AV)):Option (List AV×List (Nat×Row)):=match o with
 |some ys=>some (ys,[])
 |none=>none
def lJ(ρ:Nat->Option Row)(n:Nat)(mv:Bool)(y:AV):Option (List AV×List (Nat×Row)):=match mv,y with
 |true,.sl r 0 m=>uG n r m (ρ r)
 |_,y=>kc (du n ρ y)
def bOk(o:Option AV):Prop:=match o with
 |none=>True
 |some (.sc (.int _ n))=>0<=n
 |_=>False
def bV(o:Option AV)(dflt:Nat):Nat:=match o with
 |some (.sc (.int _ n))=>n.toNat
 |_=>dflt
def u8s:List AV->Option (List Int)
 |[]=>some []
 | .sc (.int .u8 n) :: xs => match u8s xs with
   |some ns=>some (n::ns)
   |none=>none
 |_=>none
def b2s(ns:List Int):ByteArray:=ns.foldl (fun r n=>r.push (UInt8.ofNat n.toNat)) ByteArray.empty
def opt{α:Type}(o:Option α)(K:α->Prop):Prop:=match o with
 |some v=>K v
 |none=>False
section
variable(K:AV->List (Nat×Row)->Prop)
def k1(v:AV):Prop:=K v []
def ko(c a b:AV):Prop:=match c with
 | .sc (.bool t)=>(t=true->K a [])/\(t=false->K b [])
 |_=>False
def GX(off n:Nat)(ag:Bool)(y:AV):Prop:=opt (part y.als off n ag) (k1 K)
def eg(o:Option Row)(i off n:Nat)(ag:Bool):Prop:=match o with
 |some (.var y)=>i=0/\opt (part y off n ag) (k1 K)
 |some (.arr _ es)=>opt es[i]? (GX K off n ag)
 |_=>False
def dR(ρ:Nat->Option Row)(n:Nat)(ag:Bool)(x:AV):Prop:=match x with
 | .bp _ y off=>opt (part y off n ag) (k1 K)
 | .pt r i off=>eg K (ρ r) i off n ag
 |_=>False
def Lg(r:Nat)(y:AV):Prop:=K .top [(r,.var y)]
def wE(u:List (Nat×Row))(r w i:Nat)(es:List AV)(y:AV):Prop:=K .top (u++[(r,.arr w (es.set i y))])
def pd(ρ:Nat->Option Row)(r w i off:Nat)(es:List AV)(v y:AV):Prop:=
 r∉v.ments/\v.ments.Nodup/\(lift ρ 2 v).width=v.width/\opt (setPart y off (lift ρ 2 v)) (wE K (aL v.ments) r w i es)
def da(ρ:Nat->Option Row)(o:Option Row)(r i off:Nat)(v:AV):Prop:=match o with
 |some (.var y)=>i=0/\opt (setPart y off v) (Lg K r)
 |some (.arr w es)=>opt es[i]? (pd K ρ r w i off es v)
 |_=>False
def cX(ρ:Nat->Option Row)(n:Nat)(x v:AV):Prop:=match x with
 | .pt r i off=>v.width=n/\da K ρ (ρ r) r i off v
 |_=>False
def iPt(av:List Nat):AV->Prop
 | .sl r _ _=>r∉av
 | .lst _ _ _=>True
 |_=>False
def wn:Option Row->Prop
 |some (.var _)=>True
 |_=>False
def vY:Option Row->Prop
 |some (.arr _ _)=>True
 |_=>False
def vPt(av:List Nat)(ρ:Nat->Option Row):AV->Prop
 | .pt r _ _=>r∉av/\wn (ρ r)
 | .bp _ _ _=>True
 |_=>False
def aPt(ρ:Nat->Option Row):AV->Prop
 | .pt r _ _=>vY (ρ r)
 |_=>False
def aPb(ρ:Nat->Option Row):AV->Prop
 | .pt r _ _=>vY (ρ r)
 | .bp _ _ _=>True
 |_=>False
def wPt(r:Nat)(ρ:Nat->Option Row):AV->Prop
 | .pt q _ _=>q=r/\wn (ρ q)
 |_=>False
def vPv(ρ:Nat->Option Row):AV->Prop
 | .pt r _ _=>wn (ρ r)
 |_=>False
def uh(neg:Bool)(x y:AV):Prop:=match x,y with
 | .sc (.bool a),.sc (.bool b)=>K (.sc (.bool (if neg then !(a==b) else(a==b)))) []
 |_,_=>False
def th(neg:Bool)(x y:AV):Prop:=match x,y with
 | .agg [.sc (.int .i64 a),.sc (.int .i64 b)],.agg [.sc (.int .i64 c),.sc (.int .i64 e)]=>K (.sc (.bool (if neg then !(a==c&&b==e) else(a==c&&b==e)))) []
 |_,_=>False
def pe(k:IntKind)(x:AV):Prop:=match x with
 | .sc (.int _ n)=>K (.sc (.int k (k.wrap n))) []
 |_=>False
def qk(o:Option Row)(d n:Nat)(z:AV)(bytes:Nat)(l c:AV):Prop:=match l,c with
 | .sc (.int .i64 l),.sc (.int .i64 c)=>o=none/\z.width=n/\0<=l/\l<=c/\c*bytes<=140737488355328/\c<=9223372036854775807/\K (.sl d 0 l.toNat) [(d,.arr n (List.replicate l.toNat z))]
 |_,_=>False
def ov(ρ:Nat->Option Row)(n:Nat)(x:AV)(lo hi mx:Option AV):Prop:=match x with
 | .lst f w xs=>w=n/\bOk lo/\bOk hi/\bV lo 0<=bV hi xs.length/\bV hi xs.length<=xs.length/\
  match mx with
  |none=>K (.lst f n (sub xs (bV lo 0) (bV hi xs.length-bV lo 0))) []
  |some m=>hi.isSome/\bOk (some m)/\bV (some m) 0=bV hi xs.length/\K (.tg f n (sub xs (bV lo 0) (bV hi xs.length-bV lo 0))) []
 | .sl r i m=>(∃es,ρ r=some (.arr n es))/\bOk lo/\bOk hi/\bV lo 0<=bV hi m/\bV hi m<=m/\mx=none/\K (.sl r (i+bV lo 0) (bV hi m-bV lo 0)) []
 |_=>False
def PW(x:AV)(lo hi:Option AV):Prop:=match x with
 | .sc (.string s)=>bOk lo/\bOk hi/\bV lo 0<=bV hi s.size/\bV hi s.size<=s.size/\K (.sc (.string (s.extract (bV lo 0) (bV hi s.size)))) []
 |_=>False
def jz(ρ:Nat->Option Row)(off:Nat)(x:AV):Prop:=match x with
 | .bp f y o=>K (.bp f y (o+off)) []
 | .pt r i o=>cL (ρ r)/\K (.pt r i (o+off)) []
 |_=>False
def TV(f:Fl)(y:AV):Prop:=K (.bp f y 0) []
def iz(ρ:Nat->Option Row)(n:Nat)(x i:AV):Prop:=match x,i with
 | .lst f w xs,.sc (.int _ j)=>w=n/\0<=j/\opt xs[j.toNat]? (TV K f.als)
 | .sl r a m,.sc (.int _ j)=>(∃es,ρ r=some (.arr n es))/\0<=j/\j<m/\K (.pt r (a+j.toNat) 0) []
 |_,_=>False
def CI(off n:Nat)(ag:Bool)(x:AV):Prop:=x.isAgg=true/\opt (part x off n ag) (k1 K)
def UX(c:UInt8):Prop:=K (.sc (.int .u8 c.toNat)) []
def oL(x i:AV):Prop:=match x,i with
 | .sc (.string s),.sc (.int _ j)=>0<=j/\opt s[j.toNat]? (UX K)
 |_,_=>False
def vO(x:AV)(j:Nat):Prop:=match x with
 | .tup vs=>opt vs[j]? (k1 K)
 |_=>False
def iY(ρ:Nat->Option Row)(x:AV):Prop:=match x with
 | .lst _ _ xs=>K (.i xs.length) []
 | .tg _ _ xs=>K (.i xs.length) []
 | .sl r _ n=>(∃w es,ρ r=some (.arr w es))/\K (.i n) []
 |_=>False
def oo(x:AV):Prop:=match x with
 | .lst .u _ []=>K (.i 0) []
 |_=>False
def vS(n:Nat)(x hi:AV):Prop:=match x,hi with
 | .lst .u w [],.sc (.int _ h)=>w=n/\h=0/\K (.lst .u n []) []
 |_,_=>False
def ox(x:AV):Prop:=match x with
 | .sc (.string s)=>K (.i s.size) []
 |_=>False
def Ml(ns:List Int):Prop:=K (.sc (.string (b2s ns))) []
def yt(o:Option Row)(i m:Nat):Prop:=match o with
 |some (.arr w es)=>w=1/\opt (u8s (sub es i m)) (Ml K)
 |_=>False
def Pi(ρ:Nat->Option Row)(x:AV):Prop:=match x with
 | .lst _ w xs=>w=1/\opt (u8s xs) (Ml K)
 | .sl r i m=>yt K (ρ r) i m
 |_=>False
def vB(o:Option Row)(r n:Nat)(z:AV)(i m:Nat):Prop:=match o with
 |some (.arr w es)=>w=n/\z.width=n/\K (.tup []) [(r,.arr w (fq es i (List.replicate m z)))]
 |_=>False
def BQ(ρ:Nat->Option Row)(n:Nat)(z x:AV):Prop:=match x with
 | .sl r i m=>vB K (ρ r) r n z i m
 |_=>False
def tw(o:Option Row)(r n i m:Nat)(ys:List AV):Prop:=match o with
 |some (.arr w es)=>w=n/\K (.i (min ys.length m:Nat)) [(r,.arr w (fq es i (ys.take (min ys.length m))))]
 |_=>False
def BO(ρ:Nat->Option Row)(n:Nat)(x y:AV):Prop:=match x with
 | .sl r i m=>opt (du n ρ y) (tw K (ρ r) r n i m)
 |_=>False
def pX(neg e:Bool):Prop:=K (cond e .ub (.b neg)) []
def vo(ρ:Nat->Option Row)(neg:Bool)(x:AV):Prop:=match x with
 | .lst _ _ xs=>pX K neg xs.isEmpty
 | .tg _ _ xs=>pX K neg xs.isEmpty
 | .sl r _ n=>(∃w es,ρ r=some (.arr w es))/\pX K neg (n==0)
 |_=>False
def Pt(o:Option Row)(r n i m:Nat)(ys:List AV):Prop:=match o with
 |some (.arr w es)=>w=n/\i+m+ys.length<=es.length/\K (.sl r i (m+ys.length)) [(r,.arr w (fq es (i+m) ys))]
 |_=>False
def TU(ρ:Nat->Option Row)(n:Nat)(x y:AV):Prop:=match x with
 | .sl r i m=>opt (du n ρ y) (Pt K (ρ r) r n i m)
 |_=>False
def tj(o:Option Row)(r n i m:Nat)(lo hi:Option AV):Prop:=match o with
 |some (.arr w es)=>w=n/\bOk lo/\bOk hi/\bV lo 0<=bV hi m/\i+bV hi m<=es.length/\K (.sl r (i+bV lo 0) (bV hi m-bV lo 0)) []
 |_=>False
def Ks(ρ:Nat->Option Row)(n:Nat)(x:AV)(lo hi:Option AV):Prop:=match x with
 | .sl r i m=>tj K (ρ r) r n i m lo hi
 |_=>False
def yF(o:Option Row)(n m:Nat)(lo hi mx:AV):Prop:=match o,lo,hi,mx with
 |some (.arr w _),.sc (.int _ l),.sc (.int _ h),.sc (.int _ q)=>w=n/\0<=l/\l<=h/\h<=q/\q<=(m:Int)/\K .top []
 |_,_,_,_=>False
def VE(ρ:Nat->Option Row)(n:Nat)(x lo hi mx:AV):Prop:=match x with
 | .sl r _ m=>yF K (ρ r) n m lo hi mx
 |_=>False
def nJ(o:Option Row)(d n bytes r i m:Nat)(p:List AV×List (Nat×Row)):Prop:=match o with
 |some (.arr w es)=>w=n/\r∉p.2.map (·.1)/\(m+p.1.length)*bytes<=140737488355328/\K (.sl d 0 (m+p.1.length)) ((r,.dead)::p.2++[(d,.arr n (sub es i m++p.1))])
 |_=>False
def uU(d n bytes w:Nat)(es:List AV)(p:List AV×List (Nat×Row)):Prop:=
 w=n/\0<p.1.length/\(es.length+p.1.length)*bytes<=140737488355328/\K (.sl d 0 (es.length+p.1.length)) (p.2++[(d,.arr n (di es++p.1))])
def sM(ρ:Nat->Option Row)(d n bytes:Nat)(mv:Bool)(x y:AV):Prop:=match x with
 | .sl r i m=>ρ d=none/\opt (lJ ρ n mv y) (nJ K (ρ r) d n bytes r i m)
 | .tg _ w es=>ρ d=none/\opt (lJ ρ n mv y) (uU K d n bytes w es)
 |_=>False
def DI(o:Option Row)(d n:Nat)(z:AV)(bytes:Nat)(x l:AV):Prop:=match x,l with
 | .lst .u w [],.sc (.int .i64 l)=>o=none/\w=n/\z.width=n/\n=1/\0<l/\l*bytes<=140737488355328/\K (.sl d 0 l.toNat) [(d,.arr n (List.replicate l.toNat z))]
 |_,_=>False
def pP(ρ:Nat->Option Row)(x:AV):Prop:=match x with
 | .bp f y o=>K (.bp f y o) []
 | .pt r i o=>cL (ρ r)/\K (.pt r i o) []
 |_=>False
def eMn(x y:AV):Prop:=match x,y with
 | .sc (.int k a),.sc (.int k' b)=>k=k'/\K (.sc (.int k (if b<a then b else a))) []
 |_,_=>False
def eMx(x y:AV):Prop:=match x,y with
 | .sc (.int k a),.sc (.int k' b)=>k=k'/\K (.sc (.int k (if a<b then b else a))) []
 |_,_=>False
end
structure Oks where
 p:Nat->List AV->AV->Prop
 m:Nat->List AV->List (Nat×Row)->AV->List (Nat×Row)->Prop
 h:Nat->List AV->List (Nat×Row)->AV->List (Nat×Row)->Prop
mutual
def AV.rg(h:Nat->Nat):AV->AV
 | .sl q i n=>.sl (h q) i n
 | .pt q i o=>.pt (h q) i o
 | .agg cs=>.agg (rgL h cs)
 | .fn f cs=>.fn f (rgL h cs)
 | .tup cs=>.tup (rgL h cs)
 |x=>x
def rgL(h:Nat->Nat):List AV->List AV
 |[]=>[]
 |c::cs=>c.rg h::rgL h cs
end
def Row.rg(h:Nat->Nat):Row->Row
 | .var x=>.var (x.rg h)
 |x=>x
def pos(r:Nat):List Nat->Nat
 |[]=>0
 |x::xs=>if x=r then 0 else pos r xs+1
def cnm(rs:List Nat)(r:Nat):Nat:=1000000000+pos r rs
def bkn(d:Nat)(rs:List Nat)(q:Nat):Nat:=if 1000000000<=q then rs.getD (q-1000000000) 0 else q+100000*(d+1)
def gv(ρ:Nat->Option Row)(rs:List Nat)(r:Nat):Nat×Row:=(cnm rs r,((ρ r).getD .dead).rg (cnm rs))
def eS(d:Nat)(rs:List Nat)(p:Nat×Row):Nat×Row:=(bkn d rs p.1,p.2.rg (bkn d rs))
def me:Option Row->List Nat
 |some (.var x)=>x.ments
 |_=>[]
section
variable(ok:Oks)
def callM(ρ:Nat->Option Row)(d f:Nat)(args:List AV)(rs:List Nat)(K:AV->List (Nat×Row)->Prop):Prop:=
 ∃ res outs, ok.m f (args.map (AV.rg (cnm rs))) (rs.map (gv ρ rs)) res outs ∧
   (rs.Nodup/\(∀r∈rs,cL (ρ r))/\(∀r∈rs,∀q∈me (ρ r),q∈rs)/\(∀r∈aN args,r∈rs))/\
   ((outs.map fun p => bkn d rs p.1).Nodup ∧ (∀ p ∈ outs, 1000000000 ≤ p.1 → p.1 - 1000000000 < rs.length) ∧
     (∀p∈outs,p.1<1000000000->ρ (bkn d rs p.1)=none/\bkn d rs p.1<1000000000))/\
   K (res.rg (bkn d rs)) (aL rs++outs.map (eS d rs))
def oc(ρ:Nat->Option Row)(d:Nat)(x:AV)(xs:List AV)(rs:List Nat)(K:AV->List (Nat×Row)->Prop):Prop:=match x with
 | .fn f cs=>callM ok ρ d f (xs++cs) rs K
 |_=>False
def fB(ρ:Nat->Option Row)(d f:Nat)(args:List AV)(K:AV->List (Nat×Row)->Prop):Prop:=
 ∃ res, ok.p f (args.map (snp ρ 4)) res ∧ (res.allU ∨ aN args = [] ∧ (res.ou ∨ res.noU)) ∧ (∀ p ∈ (adopt 4 d res).2.1, ρ p.1 = none ∧ p.1 < 1000000000) ∧
   K (adopt 4 d res).1 (adopt 4 d res).2.1
def uL(ρ:Nat->Option Row)(d:Nat)(x:AV)(xs:List AV)(K:AV->List (Nat×Row)->Prop):Prop:=match x with
 | .fn f cs=>fB ok ρ d f (xs++cs) K
 |_=>False
def eff(g:X->AV)(ρ:Nat->Option Row)(d:Nat):AOp->(AV->List (Nat×Row)->Prop)->Prop
 | .mv x,K=>K (g x) []
 | .pick c a b,K=>ko K (g c) (g a) (g b)
 | .alloc z,K=>ρ d=none/\K (.pt d 0 0) [(d,.var z)]
 | .box n x,K=>ρ d=none/\(g x).width=n/\K (.pt d 0 0) [(d,.var (g x))]
 | .build z ps,K=>(∀p∈ps,(g p.2.2).width=p.2.1/\p.1+p.2.1<=z.length)/\K (.agg (kh z (ps.map fun p=>(p.1,g p.2.2)))) []
 | .bsl n fr ps,K=>(fr=true->aN (ps.map g)=[])/\ρ d=none/\(∀p∈ps,(g p).width=n)/\(aN (ps.map g)).Nodup/\
  K (.sl d 0 ps.length) (aL (aN (ps.map g))++[(d,.arr n ((ps.map g).map (lift ρ 2)))])
 | .load n ag x,K=>dR K ρ n ag (g x)
 | .store n x v,K=>cX K ρ n (g x) (g v)
 | .bin op x y,K=>dc op (g x) (g y) (k1 K)
 | .beq neg x y,K=>uh K neg (g x) (g y)
 | .un op x,K=>unV op (g x) (k1 K)
 | .conv k x,K=>pe K k (g x)
 | .mkf f cs,K=>K (.fn f (cs.map g)) []
 | .mks n z bytes l c,K=>qk K (ρ d) d n z bytes (g l) (g c)
 | .slc n x lo hi mx,K=>ov K ρ n (g x) (lo.map g) (hi.map g) (mx.map g)
 | .slz x lo hi,K=>PW K (g x) (lo.map g) (hi.map g)
 | .fad off x,K=>jz K ρ off (g x)
 | .idx n x i,K=>iz K ρ n (g x) (g i)
 | .idv av n x i,K=>iPt av (g x)/\iz K ρ n (g x) (g i)
 | .lnv av x,K=>iPt av (g x)/\iY K ρ (g x)
 | .stw r n x v,K=>wPt r ρ (g x)/\cX K ρ n (g x) (g v)
 | .fld off n ag x,K=>CI K off n ag (g x)
 | .stri x i,K=>oL K (g x) (g i)
 | .ext x j,K=>vO K (g x) j
 | .call f xs,K=>fB ok ρ d f (xs.map g) K
 | .dyn x xs,K=>uL ok ρ d (g x) (xs.map g) K
 | .callM f xs rs,K=>callM ok ρ d f (xs.map g) rs K
 | .dynM x xs rs,K=>oc ok ρ d (g x) (xs.map g) rs K
 | .len x,K=>iY K ρ (g x)
 | .lenz x,K=>ox K (g x)
 | .capn x,K=>oo K (g x)
 | .slg n x hi,K=>vS K n (g x) (g hi)
 | .apz n z bytes x l,K=>DI K (ρ d) d n z bytes (g x) (g l)
 | .b2s x,K=>Pi K ρ (g x)
 | .isn neg x,K=>vo K ρ neg (g x)
 | .aeq neg x y,K=>th K neg (g x) (g y)
 | .apq n x y,K=>TU K ρ n (g x) (g y)
 | .slx n x lo hi,K=>Ks K ρ n (g x) (lo.map g) (hi.map g)
 | .slm n x lo hi mx,K=>VE K ρ n (g x) (g lo) (g hi) (g mx)
 | .clr n z x,K=>BQ K ρ n z (g x)
 | .cpy n x y,K=>BO K ρ n (g x) (g y)
 | .ldv av n ag x,K=>vPt av ρ (g x)/\dR K ρ n ag (g x)
 | .str n x v,K=>aPt ρ (g x)/\(g v).ments=[]/\cX K ρ n (g x) (g v)
 | .lda n ag x,K=>aPb ρ (g x)/\dR K ρ n ag (g x)
 | .stv n x v,K=>vPv ρ (g x)/\cX K ρ n (g x) (g v)
 | .fdv av off x,K=>vPt av ρ (g x)/\jz K ρ off (g x)
 | .bsm n ps,K=>(∀r∈aN (ps.map g),vY (ρ r))/\ρ d=none/\(∀p∈ps,(g p).width=n)/\(aN (ps.map g)).Nodup/\
  K (.sl d 0 ps.length) (aL (aN (ps.map g))++[(d,.arr n ((ps.map g).map (lift ρ 2)))])
 | .app n bytes mv x y,K=>sM K ρ d n bytes mv (g x) (g y)
 | .nilc x,K=>pP K ρ (g x)
 | .mn x y,K=>eMn K (g x) (g y)
 | .mx x y,K=>eMx K (g x) (g y)
 | .bad,_=>False
def el(σ:St)(s:Nat)(w:Bool)(x:AV)(A B:St->Prop):Prop:=match x with
 | .sc (.bool t)=>(t=w->A (σ.know s w))/\(t=!w->B (σ.know s (!w)))
 | .tup []=>B σ
 |_=>False
def NP(d:Option Nat)(R:St->Prop)(σ:St)(v:AV)(u:List (Nat×Row)):Prop:=R (σ.app d v u)
def xk(d:Option Nat)(o:AOp)(R:St->Prop)(σ:St):Prop:=eff ok σ.gx σ.row (d.getD 0) o (NP d R σ)
def Ls(d:Option Nat)(R:St->Prop)(σ:St):Prop:=R (σ.app d (.tup []) [])
def Tz(o:bc)(σ:St)(R:St->Prop):Prop:=
 match o.gd with
 |none=>xk ok o.d o.op R σ
 |some (s,w)=>el σ s w (σ.get s) (xk ok o.d o.op R) (Ls o.d R)
def dS:List bc->(St->Prop)->St->Prop
 |[],K,σ=>K σ
 |o::os,K,σ=>Tz ok o σ (dS os K)
mutual
def AV.fz:AV->Bool
 | .sc _=>true
 | .lst f _ xs=>(match f with| .o=>fzL xs|_=>false)
 | .agg cs=>fzL cs
 | .tup cs=>fzL cs
 | .fn _ cs=>fzL cs
 | .bp f x _=>(match f with| .o=>x.fz|_=>false)
 | .sl _ _ _=>true
 | .pt _ _ _=>true
 | .top=>true
 | .ub=>true
 |_=>false
def fzL:List AV->Bool
 |[]=>true
 |c::cs=>c.fz&&fzL cs
end
mutual
def AV.ouB:AV->Bool
 | .sc _=>true
 | .lst f _ xs=>(match f with| .o=>fzL xs| .u=>cH xs|_=>false)
 | .agg cs=>cH cs
 | .top=>true
 |_=>false
def cH:List AV->Bool
 |[]=>true
 |c::cs=>c.ouB&&cH cs
end
def Row.fz:Row->Bool
 | .var x=>x.fz
 | .arr _ es=>cH es
 | .dead=>true
def St.fz(σ:St):Bool:=σ.env.all (fun p=>p.2.fz)&&σ.rows.all (fun p=>p.2.fz)
def argI(τ:St)(t len:Nat):X->AV
 | .t j=>if j=t then .sl 1000000000 0 len else τ.get j
 | .c a=>a
def HD(τ:St)(t:Nat):X->Prop
 | .t j=>j=t\/(τ.get j).ments=[]
 | .c a=>a.ments=[]
def AV.hush(r:Nat)(a:AV):AV:=if r∈a.ments then .top else a
mutual
def AV.ren(r d:Nat):AV->AV
 | .sl q i n=>.sl (if q=r then d else q) i n
 | .pt q i o=>.pt (if q=r then d else q) i o
 | .agg cs=>.agg (ip r d cs)
 | .fn f cs=>.fn f (ip r d cs)
 | .tup cs=>.tup (ip r d cs)
 |x=>x
def ip(r d:Nat):List AV->List AV
 |[]=>[]
 |c::cs=>c.ren r d::ip r d cs
end
def Row.map(h:AV->AV):Row->Row
 | .var x=>.var (h x)
 |x=>x
def Row.hush(r:Nat):Row->Row
 | .var x=>if r∈x.ments then .dead else .var x
 |x=>x
def del{α:Type}(k:Nat):List (Nat×α)->List (Nat×α)
 |[]=>[]
 |(j,x)::l=>if j=k then del k l else(j,x)::del k l
def St.canSl (σ : St) (d r i n : Nat) : St :=
    if r=d\/1000000000<=r then σ
    else
     { env:=put d (.sl d i n) ((σ.env.map fun p=>(p.1,p.2.hush d)).map fun p=>(p.1,p.2.ren r d)),
       rows:=((del d σ.rows).map fun p=>(p.1,p.2.hush d)).map fun p=>(if p.1=r then d else p.1,p.2.map (·.ren r d))}
def St.canSr (σ : St) (d r i n : Nat) : St :=
    if r=d then σ
    else
     { env:=put d (.sl d i n) ((σ.env.map fun p=>(p.1,p.2.hush d)).map fun p=>(p.1,p.2.ren r d)),
       rows:=((del d σ.rows).map fun p=>(p.1,p.2.hush d)).map fun p=>(if p.1=r then d else p.1,p.2.map (·.ren r d))}
def St.canNil (σ : St) (d n : Nat) : St :=
    { env:=put d (.sl d 0 0) (σ.env.map fun p=>(p.1,p.2.hush d)),
      rows:=put d (.arr n []) ((del d σ.rows).map fun p=>(p.1,p.2.hush d))}
def St.canV(σ:St)(d:Nat)(x:AV):St:=match x with
 | .sl r i n=>σ.canSl d r i n
 | .lst .u n []=>σ.canNil d n
 |_=>σ
def St.canW(σ:St)(d:Nat)(x:AV):St:=match x with
 | .sl r i n=>σ.canSr d r i n
 | .lst .u n []=>σ.canNil d n
 |_=>σ
def St.canZr(σ:St)(d i m:Nat)(r:Nat):Option Row->St
 |some (.arr q es)=>⟨put d (.lst .m q (di (sub es i m))) σ.env,put r .dead σ.rows⟩
 |_=>σ
def gg:List AV->Nat->AV->List AV
 |[],_,_=>[]
 |_::xs,0,y=>y::xs
 |x::xs,j+1,y=>x::gg xs j y
def St.canZcr(σ:St)(d:Nat)(all:List AV)(j r i m:Nat):Option Row->St
 |some (.arr q es)=>⟨put d (.agg (gg all j (.lst .m q (di (sub es i m))))) σ.env,put r .dead σ.rows⟩
 |_=>σ
def St.canZc(σ:St)(d:Nat)(all:List AV):Nat->List AV->St
 |_,[]=>σ
 |j,.sl r i m::_=>σ.canZcr d all j r i m (aD r σ.rows)
 |j,_::cs=>σ.canZc d all (j+1) cs
def St.canZ(σ:St)(d:Nat)(x:AV):St:=match x with
 | .sl r i m=>σ.canZr d i m r (aD r σ.rows)
 | .agg cs=>σ.canZc d cs 0 cs
 |_=>σ
def pS:List AV->Nat->AV
 |[],_=>.top
 |x::_,0=>x
 |_::xs,j+1=>pS xs j
def fX(j:Nat):Option Row->AV
 |some (.var (.agg cs))=>pS cs j
 |some (.var (.sl q i m))=>if j=0 then .sl q i m else .top
 |some (.var (.lst f m xs))=>if j=0 then .lst f m xs else .top
 |_=>.top
def St.canFN(σ:St)(d r j m:Nat):Option Row->St
 |some (.var (.agg cs))=>⟨σ.env.map fun p=>(p.1,p.2.hush d),put d (.arr m []) (put r (.var (.agg (gg cs j (.sl d 0 0)))) ((del d σ.rows).map fun p=>(p.1,p.2.hush d)))⟩
 |some (.var (.lst .u _ []))=>⟨σ.env.map fun p=>(p.1,p.2.hush d),put d (.arr m []) (put r (.var (.sl d 0 0)) ((del d σ.rows).map fun p=>(p.1,p.2.hush d)))⟩
 |_=>σ
def St.canG(σ:St)(far:Bool)(d r j:Nat):AV->St
 | .sl q _ _=>if q=d\/far=false/\1000000000<=q then σ else
  ⟨(σ.env.map fun p=>(p.1,p.2.hush d)).map fun p=>(p.1,p.2.ren q d),((del d σ.rows).map fun p=>(p.1,p.2.hush d)).map fun p=>(if p.1=q then d else p.1,p.2.map (·.ren q d))⟩
 | .lst .u m []=>σ.canFN d r j m (aD r ((del d σ.rows).map fun p=>(p.1,p.2.hush d)))
 |_=>σ
def St.canEN(σ:St)(d k j m:Nat):Option AV->St
 |some (.agg cs)=>⟨put k (.agg (gg cs j (.sl d 0 0))) (σ.env.map fun p=>(p.1,p.2.hush d)),put d (.arr m []) ((del d σ.rows).map fun p=>(p.1,p.2.hush d))⟩
 |_=>σ
def St.canE(σ:St)(far:Bool)(d k j:Nat):AV->St
 | .sl q _ _=>if q=d\/far=false/\1000000000<=q then σ else
  ⟨(σ.env.map fun p=>(p.1,p.2.hush d)).map fun p=>(p.1,p.2.ren q d),((del d σ.rows).map fun p=>(p.1,p.2.hush d)).map fun p=>(if p.1=q then d else p.1,p.2.map (·.ren q d))⟩
 | .lst .u m []=>σ.canEN d k j m (aD k (σ.env.map fun p=>(p.1,p.2.hush d)))
 |_=>σ
def St.canXcr(σ:St)(r:Nat)(all:List AV)(j q i m:Nat):Option Row->St
 |some (.arr k es)=>⟨σ.env,put r (.var (.agg (gg all j (.lst .m k (di (sub es i m)))))) (put q .dead σ.rows)⟩
 |_=>σ
def St.canXc(σ:St)(r:Nat)(all:List AV):Nat->List AV->St
 |_,[]=>σ
 |j,.sl q i m::_=>σ.canXcr r all j q i m (aD q σ.rows)
 |j,.lst .u n []::_=>⟨σ.env,put r (.var (.agg (gg all j (.lst .m n [])))) σ.rows⟩
 |j,_::cs=>σ.canXc r all (j+1) cs
def St.canX(σ:St)(r:Nat):Option Row->St
 |some (.arr n es)=>⟨σ.env,put r (.arr n (di es)) σ.rows⟩
 |some (.var (.agg cs))=>σ.canXc r cs 0 cs
 |_=>σ
def St.can1(σ:St):Can->St
 | .s d=>σ.canV d (σ.get d)
 | .f far d r j=>σ.canG far d r j (fX j (aD r σ.rows))
 | .r d=>σ.canW d (σ.get d)
 | .z d=>σ.canZ d (σ.get d)
 | .e far d k j=>σ.canE far d k j (fX j (some (.var (σ.get k))))
 | .w r=>σ.canX r (aD r σ.rows)
def St.can(σ:St):List Can->St
 |[]=>σ
 |d::ds=>(σ.can1 d).can ds
def Can.low(n:Nat):Can->Bool
 | .s d=>decide (d<n)
 | .f _ d _ _=>decide (d<1000000000)&&decide (n<=d)
 | .r d=>decide (d<n)
 | .z d=>decide (d<n)
 | .e _ d k _=>decide (d<1000000000)&&decide (n<=d)&&decide (k<n)
 | .w _=>true
def St.res(σ:St)(lv lr:List Nat):St:=
 {env:=lv.map fun k=>(k,σ.get k),rows:=lr.map fun r=>(r,(σ.row r).getD .dead)}
def Row.ments:Row->List Nat
 | .var x=>x.ments
 |_=>[]
def St.resOk(σ:St)(lv lr:List Nat):Prop:=
 (∀k∈lv,∀r∈(σ.get k).ments,r∈lr)/\(∀q∈lr,∀r∈((σ.row q).getD .dead).ments,r∈lr)/\lr.Nodup
inductive Ex where
 |nrm
 |ex (id:Nat)
 |ret
def thn(K:St->Prop)(Q:Ex->St->Prop):Ex->St->Prop
 | .nrm,σ=>K σ
 |e,σ=>Q e σ
def inb(id:Nat)(Q:Ex->St->Prop):Ex->St->Prop
 | .ex j,σ=>if j=id then Q .nrm σ else Q (.ex j) σ
 |e,σ=>Q e σ
def tst(x:AV)(A B:Prop):Prop:=match x with
 | .sc (.bool t)=>(t=true->A)/\(t=false->B)
 | .ub=>A/\B
 |_=>False
def Ic(Q:Ex->St->Prop)(can:List Can)(σ:St):Prop:=Q .nrm (σ.can can)
def St.rb(σ:St)(lv:List Nat):St:=⟨lv.map fun k=>(k,snp σ.row 4 (σ.get k)),[]⟩
def AV.scal:AV->AV
 | .sc v=>.sc v
 |_=>.top
def St.scal(σ:St):St:=⟨σ.env.map fun p=>(p.1,p.2.scal),[]⟩
def rbQ(Q:Ex->St->Prop)(e:Ex)(τ:St):Prop:=Q e τ.scal
def AWP:au->(Ex->St->Prop)->St->Prop
 | .skip,Q,σ=>Q .nrm σ
 | .reg ops can,Q,σ=>dS ok ops (Ic Q can) σ
 | .drw ops can,Q,σ=>dS ok ops (Ic Q can) σ
 | .seq a b,Q,σ=>AWP a (thn (AWP b Q) Q) σ
 | .seqr a lv lr b,Q,σ=>AWP a (thn (fun τ=>τ.resOk lv lr/\AWP b Q (τ.res lv lr)) Q) σ
 | .seqa x a lv lr b,Q,σ=>AWP x (thn (AWP a (thn (fun τ=>τ.resOk lv lr/\AWP b Q (τ.res lv lr)) Q)) Q) σ
 | .seqb a lv b,Q,σ=>AWP a (thn (fun τ=>AWP b (rbQ Q) (τ.rb lv)) Q) σ
 | .cond x a b,Q,σ=>tst (σ.gx x) (AWP a Q σ) (AWP b Q σ)
 | .blk id a,Q,σ=>AWP a (inb id Q) σ
 | .loop a,Q,σ=>∃(lv lr:List Nat)(I:St->Prop)(μ:St->Nat),σ.resOk lv lr/\I (σ.res lv lr)/\
  ∀τ,I τ->AWP a (thn (fun τ'=>τ'.resOk lv lr/\I (τ'.res lv lr)/\μ (τ'.res lv lr)<μ τ) Q) τ
 | .exit id,Q,σ=>Q (.ex id) σ
 | .ret,Q,σ=>Q .ret σ
inductive RV where
 |t (n:Nat)
 |c (n k:Nat) (ag:Bool)
def RV.val(σ:St):RV->Option AV
 | .t n=>some (σ.get n)
 | .c n k ag => match σ.get n with
   | .pt r 0 0 => match σ.row r with
     |some (.var y)=>part y 0 k ag
     |_=>none
   |_=>none
def RVs.val(σ:St):List RV->Option (List AV)
 |[]=>some []
 | r :: rs => match r.val σ, RVs.val σ rs with
   |some x,some xs=>some (x::xs)
   |_,_=>none
def gl:List AV->AV
 |[x]=>x
 |xs=>.tup xs
def fin(rs:List RV)(res:AV):Ex->St->Prop
 | .nrm,σ| .ret,σ=>∃xs,RVs.val σ rs=some xs/\(aN xs).Nodup/\lift σ.row 3 (gl xs)=res
 |_,_=>False
def St.start(args:List AV):St:={env:=go 0 args,rows:=[]}
where go:Nat->List AV->List (Nat×AV)
 |_,[]=>[]
 |n,a::as=>(n,a)::go (n+1) as
def Up(a:au)(rs:List RV)(args:List AV)(res:AV):Prop:=AWP ok a (fin rs res) (St.start args)
end
end Vs

namespace Vs
open Go
theorem gM(xs:List AV):gJ xs=xs.map AV.nrm:=by
 induction xs with
 |nil=>simp[gJ]
 |cons x xs ih=>simp[gJ,ih]
theorem gZ(xs:List AV):di xs=xs.map AV.als:=by
 induction xs with
 |nil=>simp[di]
 |cons x xs ih=>simp[di,ih]
theorem fe(xs:List AV):fK xs=xs.map AV.fix:=by
 induction xs with
 |nil=>simp[fK]
 |cons x xs ih=>simp[fK,ih]
theorem kW(r d:Nat)(xs:List AV):ip r d xs=xs.map (AV.ren r d):=by
 induction xs with
 |nil=>simp[ip]
 |cons x xs ih=>simp[ip,ih]
theorem qG(xs:List AV):ju xs↔∀x∈xs,x.allU:=by
 induction xs with
 |nil=>simp[ju]
 |cons x xs ih=>simp[ju,ih]
theorem Vl(ρ:Nat->Option Row)(k:Nat)(v:Value):snp ρ (k+1) (.sc v)=.sc v:=by simp[snp,AV.nrm]
theorem Nf(ρ:Nat->Option Row)(k:Nat)(f:Fl)(n:Nat)(xs:List AV):snp ρ (k+1) (.lst f n xs)=.lst .o n (xs.map AV.nrm):=by simp[snp,AV.nrm,gM]
theorem Uu(ρ:Nat->Option Row)(k:Nat)(f:Fl)(n:Nat)(xs:List AV):snp ρ (k+1) (.tg f n xs)=.lst .o n (xs.map AV.nrm):=by simp[snp,AV.nrm,gM]
theorem Nk(ρ:Nat->Option Row)(k:Nat)(cs:List AV):snp ρ (k+1) (.agg cs)=.agg (cs.map (snp ρ k)):=by simp[snp]
theorem Un(ρ:Nat->Option Row)(k:Nat)(f:Nat)(cs:List AV):snp ρ (k+1) (.fn f cs)=.fn f (cs.map (snp ρ k)):=by simp[snp]
theorem Uk(ρ:Nat->Option Row)(k:Nat)(f:Fl)(x:AV)(off:Nat):snp ρ (k+1) (.bp f x off)=.bp .o x.nrm off:=by simp[snp,AV.nrm]
theorem UO(ρ:Nat->Option Row)(k:Nat)(r i n:Nat):snp ρ (k+1) (.sl r i n)=mN (ρ r) i n:=by simp only[snp]
theorem CS(w:Nat)(es:List AV)(i n:Nat):mN (some (.arr w es)) i n=.lst .o w ((sub es i n).map AV.nrm):=by simp[mN,gM]
theorem Ui(ρ:Nat->Option Row)(k:Nat)(r i off:Nat):snp ρ (k+1) (.pt r i off)=lu (snp ρ k) (ρ r) i off:=by simp only[snp]
theorem CB(h:AV->AV)(y:AV)(off:Nat):lu h (some (.var y)) 0 off=.bp .o (h y) off:=by simp[lu]
theorem Ox(ρ:Nat->Option Row)(k:Nat)(v:Value):lift ρ (k+1) (.sc v)=.sc v:=by simp[lift]
theorem Lh(ρ:Nat->Option Row)(k:Nat)(f:Fl)(n:Nat)(xs:List AV):lift ρ (k+1) (.lst f n xs)=.lst f n xs:=by simp[lift]
theorem LB(ρ:Nat->Option Row)(k:Nat)(cs:List AV):lift ρ (k+1) (.agg cs)=.agg (cs.map (lift ρ k)):=by simp[lift]
theorem JA(ρ:Nat->Option Row)(k:Nat)(cs:List AV):lift ρ (k+1) (.tup cs)=.tup (cs.map (lift ρ k)):=by simp[lift]
theorem PV(ρ:Nat->Option Row)(k:Nat)(r i n:Nat):lift ρ (k+1) (.sl r i n)=kx (ρ r) i n:=by simp only[lift]
theorem wR(w:Nat)(es:List AV)(i n:Nat):kx (some (.arr w es)) i n=.lst .u w (sub es i n):=rfl
theorem lD(k c:Nat)(v:Value):adopt (k+1) c (.sc v)=(.sc v,[],c):=by simp[adopt,AV.fix]
theorem yE(k c n:Nat)(es:List AV):adopt (k+1) c (.lst .u n es)=(.sl c 0 es.length,[(c,.arr n (es.map AV.fix))],c+1000):=by simp[adopt,fe]
theorem yx(k c n:Nat)(es:List AV):adopt (k+1) c (.lst .o n es)=(.lst .s n (es.map AV.fix),[],c):=by simp[adopt,AV.fix,fe,Fl.fix]
theorem Aa(k c n:Nat)(es:List AV):adopt (k+1) c (.lst .m n es)=(.lst .m n (es.map AV.fix),[],c):=by simp[adopt,AV.fix,fe,Fl.fix]
theorem yI(k c n:Nat)(es:List AV):adopt (k+1) c (.lst .s n es)=(.lst .s n (es.map AV.fix),[],c):=by simp[adopt,AV.fix,fe,Fl.fix]
theorem rq(k c:Nat)(xs:List AV):adopt (k+1) c (.tup xs)=(.tup (adopt.go k c xs).1,(adopt.go k c xs).2.1,(adopt.go k c xs).2.2):=by simp[adopt]
theorem rh(k c:Nat)(xs:List AV):adopt (k+1) c (.agg xs)=(.agg (adopt.go k c xs).1,(adopt.go k c xs).2.1,(adopt.go k c xs).2.2):=by simp[adopt]
theorem qz(k c:Nat):adopt.go k c []=([],[],c):=by simp[adopt.go]
theorem pF(k c:Nat)(x:AV)(xs:List AV):adopt.go k c (x::xs)=
 ((adopt k c x).1::(adopt.go k (adopt k c x).2.2 xs).1,(adopt k c x).2.1++(adopt.go k (adopt k c x).2.2 xs).2.1,(adopt.go k (adopt k c x).2.2 xs).2.2):=by simp[adopt.go]
theorem cm(v:Value):(AV.sc v).nrm=.sc v:=by simp[AV.nrm]
theorem eb(f:Fl)(n:Nat)(xs:List AV):(AV.lst f n xs).nrm=.lst .o n (xs.map AV.nrm):=by simp[AV.nrm,gM]
theorem ea(cs:List AV):(AV.agg cs).nrm=.agg (cs.map AV.nrm):=by simp[AV.nrm,gM]
theorem Tq(f:Fl)(x:AV)(off:Nat):(AV.bp f x off).nrm=.bp .o x.nrm off:=by simp[AV.nrm]
theorem dp(v:Value):(AV.sc v).als=.sc v:=by simp[AV.als]
theorem ed(f:Fl)(n:Nat)(xs:List AV):(AV.lst f n xs).als=.lst f.als n (xs.map AV.als):=by simp[AV.als,gZ]
theorem dZ(cs:List AV):(AV.agg cs).als=.agg (cs.map AV.als):=by simp[AV.als,gZ]
theorem dG(v:Value):(AV.sc v).fix=.sc v:=by simp[AV.fix]
theorem dQ(f:Fl)(n:Nat)(xs:List AV):(AV.lst f n xs).fix=.lst f.fix n (xs.map AV.fix):=by simp[AV.fix,fe]
theorem dN(cs:List AV):(AV.agg cs).fix=.agg (cs.map AV.fix):=by simp[AV.fix,fe]
theorem eu(xs:List Int):(xs.map AV.i).map AV.nrm=xs.map AV.i:=by simp[cm]
theorem ey(xs:List Int):(xs.map AV.i).map AV.als=xs.map AV.i:=by simp[dp]
theorem dP(xs:List Int):(xs.map AV.i).map AV.fix=xs.map AV.i:=by simp[dG]
theorem CM(xs:List Bool):(xs.map AV.b).map AV.nrm=xs.map AV.b:=by simp[cm]
theorem DS(xs:List Bool):(xs.map AV.b).map AV.als=xs.map AV.b:=by simp[dp]
theorem rm(xs:List Bool):(xs.map AV.b).map AV.fix=xs.map AV.b:=by simp[dG]
theorem lR(xs:List ByteArray):(xs.map AV.z).map AV.nrm=xs.map AV.z:=by simp[cm]
theorem lY(xs:List ByteArray):(xs.map AV.z).map AV.als=xs.map AV.z:=by simp[dp]
theorem jS(xs:List ByteArray):(xs.map AV.z).map AV.fix=xs.map AV.z:=by simp[dG]
theorem vM(xs:List Int):(xs.map AV.u8).map AV.nrm=xs.map AV.u8:=by simp[cm]
theorem Bo:AV.als∘AV.i=AV.i:=by funext x;simp[dp]
theorem CZ:AV.als∘AV.b=AV.b:=by funext x;simp[dp]
theorem Cj:AV.als∘AV.z=AV.z:=by funext x;simp[dp]
theorem wL(xs:List Int):(xs.map AV.u8).map AV.als=xs.map AV.u8:=by simp[dp]
theorem nM(xs:List Int):(xs.map AV.u8).map AV.fix=xs.map AV.u8:=by simp[dG]
theorem NN{α:Type}(a:α):(some a).isSome=true:=rfl
theorem c_eq{α:Type}(a:α):(a=a)=True:=eq_self a
theorem VS(p:Prop):(True/\p)=p:=true_and p
theorem SZ(p:Prop):(p/\True)=p:=and_true p
theorem QB(n:Nat)(xs:List AV):(∃es,some (Row.arr n xs)=some (Row.arr n es))=True:=by simp
theorem Ij(n:Nat)(xs:List AV):(∃w es,some (Row.arr n xs)=some (Row.arr w es))=True:=by simp
theorem Th(p:Prop):(False->p)=True:=by simp
theorem Vh(p:Prop):(True->p)=p:=by simp
theorem OP{α:Type}(q:α->Prop):(∀p∈([]:List α),q p)=True:=by simp
theorem Nq{α:Type}(x:α)(l:List α)(q:α->Prop):(∀p∈x::l,q p)=(q x/\∀p∈l,q p):=by simp
theorem FQ:sub [] 0 0=[]:=rfl
theorem FR(n:Nat):0+n=n:=Nat.zero_add n
theorem Kz(n:Nat):n+0=n:=Nat.add_zero n
theorem UH(n:Nat):n-0=n:=Nat.sub_zero n
theorem Ud(d:Nat):(d∈([]:List Nat))=False:=by simp
theorem TT(d x:Nat)(l:List Nat):(d∈x::l)=(d=x\/d∈l):=by simp
theorem Wo(p:Prop):(p\/False)=p:=or_false p
theorem Wc(p:Prop):(False\/p)=p:=false_or p
theorem VX(p:Prop):(p\/True)=True:=or_true p
theorem Wj(p:Prop):(True\/p)=True:=true_or p
theorem TD:(¬False)=True:=not_false_eq_true
theorem TP:(¬True)=False:=not_true_eq_false
theorem WH(n:Nat):(n<=n)=True:=by simp
theorem Wg(n:Nat):(0<=n)=True:=by simp
theorem OJ{α:Type}(f:α->AV)(l:List α):sub (l.map f) 0 l.length=l.map f:=by simp[sub]
theorem lm(h:Nat->Nat)(xs:List AV):rgL h xs=xs.map (AV.rg h):=by
 induction xs with
 |nil=>simp[rgL]
 |cons x xs ih=>simp[rgL,ih]
theorem Sb(h:Nat->Nat)(v:Value):(AV.sc v).rg h=.sc v:=by simp[AV.rg]
theorem JB(h:Nat->Nat)(f:Fl)(n:Nat)(xs:List AV):(AV.lst f n xs).rg h=.lst f n xs:=by simp[AV.rg]
theorem Rg(h:Nat->Nat)(f:Fl)(n:Nat)(xs:List AV):(AV.tg f n xs).rg h=.tg f n xs:=by simp[AV.rg]
theorem Sg(h:Nat->Nat)(f:Fl)(x:AV)(off:Nat):(AV.bp f x off).rg h=.bp f x off:=by simp[AV.rg]
theorem HV(h:Nat->Nat):AV.top.rg h=.top:=by simp[AV.rg]
theorem IJ(h:Nat->Nat)(cs:List AV):(AV.agg cs).rg h=.agg (cs.map (AV.rg h)):=by simp[AV.rg,lm]
theorem RK(h:Nat->Nat)(f:Nat)(cs:List AV):(AV.fn f cs).rg h=.fn f (cs.map (AV.rg h)):=by simp[AV.rg,lm]
theorem HO(h:Nat->Nat)(cs:List AV):(AV.tup cs).rg h=.tup (cs.map (AV.rg h)):=by simp[AV.rg,lm]
theorem Sq(h:Nat->Nat)(q i n:Nat):(AV.sl q i n).rg h=.sl (h q) i n:=by simp[AV.rg]
theorem So(h:Nat->Nat)(q i n:Nat):(AV.pt q i n).rg h=.pt (h q) i n:=by simp[AV.rg]
theorem zj(h:Nat->Nat)(x:AV):(Row.var x).rg h=.var (x.rg h):=rfl
theorem zR(h:Nat->Nat)(n:Nat)(xs:List AV):(Row.arr n xs).rg h=.arr n xs:=rfl
theorem vk(h:Nat->Nat):Row.dead.rg h=.dead:=rfl
theorem tc(r x:Nat)(xs:List Nat):pos r (x::xs)=if x=r then 0 else pos r xs+1:=rfl
theorem MD(rs:List Nat)(r:Nat):cnm rs r=1000000000+pos r rs:=rfl
theorem Ko(d:Nat)(rs:List Nat)(q:Nat):bkn d rs q=if 1000000000<=q then rs.getD (q-1000000000) 0 else q+100000*(d+1):=rfl
theorem Gd(ρ:Nat->Option Row)(rs:List Nat)(r:Nat):gv ρ rs r=(cnm rs r,((ρ r).getD .dead).rg (cnm rs)):=rfl
theorem vD(d:Nat)(rs:List Nat)(p:Nat×Row):eS d rs p=(bkn d rs p.1,p.2.rg (bkn d rs)):=rfl
theorem xQ(x:AV):me (some (.var x))=x.ments:=rfl
theorem wJ(n:Nat)(xs:List AV):me (some (.arr n xs))=[]:=rfl
theorem Af(x y:Nat)(l:List Nat):(x::l).getD 0 y=x:=rfl
theorem zE(x y:Nat)(l:List Nat)(n:Nat):(x::l).getD (n+1) y=l.getD n y:=by simp
theorem Uh(r d:Nat)(v:Value):(AV.sc v).ren r d=.sc v:=by simp[AV.ren]
theorem OQ(r d:Nat)(f:Fl)(n:Nat)(xs:List AV):(AV.lst f n xs).ren r d=.lst f n xs:=by simp[AV.ren]
theorem Uw(r d:Nat)(f:Fl)(n:Nat)(xs:List AV):(AV.tg f n xs).ren r d=.tg f n xs:=by simp[AV.ren]
theorem SX(r d:Nat)(f:Fl)(x:AV)(off:Nat):(AV.bp f x off).ren r d=.bp f x off:=by simp[AV.ren]
theorem OW(r d:Nat):AV.top.ren r d=.top:=by simp[AV.ren]
theorem QJ(r d:Nat)(cs:List AV):(AV.agg cs).ren r d=.agg (cs.map (AV.ren r d)):=by simp[AV.ren,kW]
theorem UG(r d f:Nat)(cs:List AV):(AV.fn f cs).ren r d=.fn f (cs.map (AV.ren r d)):=by simp[AV.ren,kW]
theorem Qh(r d:Nat)(cs:List AV):(AV.tup cs).ren r d=.tup (cs.map (AV.ren r d)):=by simp[AV.ren,kW]
theorem UK(r d q i n:Nat):(AV.sl q i n).ren r d=.sl (if q=r then d else q) i n:=by simp[AV.ren]
theorem UA(r d q i n:Nat):(AV.pt q i n).ren r d=.pt (if q=r then d else q) i n:=by simp[AV.ren]
theorem Iz(ok:Oks)(Q:Ex->St->Prop)(σ:St):AWP ok .skip Q σ=Q .nrm σ:=by simp only[AWP]
theorem NS(ok:Oks)(Q:Ex->St->Prop)(σ:St)(ops:List bc)(can:List Can):AWP ok (.reg ops can) Q σ=dS ok ops (Ic Q can) σ:=by simp only[AWP]
theorem Pv(ok:Oks)(Q:Ex->St->Prop)(σ:St)(ops:List bc)(can:List Can):AWP ok (.drw ops can) Q σ=dS ok ops (Ic Q can) σ:=by simp only[AWP]
theorem QC(ok:Oks)(Q:Ex->St->Prop)(σ:St)(a b:au):AWP ok (.seq a b) Q σ=AWP ok a (thn (AWP ok b Q) Q) σ:=by simp only[AWP]
def sD(ok:Oks)(v:AV)(a b:au)(Q:Ex->St->Prop)(σ:St):Prop:=tst v (AWP ok a Q σ) (AWP ok b Q σ)
theorem Hu(ok:Oks)(Q:Ex->St->Prop)(σ:St)(x:X)(a b:au):AWP ok (.cond x a b) Q σ=sD ok (σ.gx x) a b Q σ:=by simp only[AWP,sD]
theorem UF(ok:Oks)(Q:Ex->St->Prop)(σ:St)(a b:au):sD ok (.sc (.bool true)) a b Q σ=AWP ok a Q σ:=by simp[sD,tst]
theorem SR(ok:Oks)(Q:Ex->St->Prop)(σ:St)(a b:au):sD ok .ub a b Q σ=(AWP ok a Q σ/\AWP ok b Q σ):=by simp[sD,tst]
theorem Tx(ok:Oks)(Q:Ex->St->Prop)(σ:St)(a b:au):sD ok (.sc (.bool false)) a b Q σ=AWP ok b Q σ:=by simp[sD,tst]
theorem FA(ok:Oks)(Q:Ex->St->Prop)(σ:St)(x a:au)(lv lr:List Nat)(b:au):AWP ok (.seqa x a lv lr b) Q σ=AWP ok x (thn (AWP ok (.seqr a lv lr b) Q) Q) σ:=by simp only[AWP]
theorem Hd(ok:Oks)(Q:Ex->St->Prop)(σ:St)(a:au)(lv:List Nat)(b:au):AWP ok (.seqb a lv b) Q σ=AWP ok a (thn (fun τ=>AWP ok b (rbQ Q) (τ.rb lv)) Q) σ:=by simp only[AWP]
theorem WJ(env:List (Nat×AV))(rows:List (Nat×Row))(lv:List Nat):St.rb ⟨env,rows⟩ lv=⟨lv.map fun k=>(k,snp (St.row ⟨env,rows⟩) 4 (St.get ⟨env,rows⟩ k)),[]⟩:=rfl
theorem UD(Q:Ex->St->Prop)(e:Ex)(env:List (Nat×AV))(rows:List (Nat×Row)):rbQ Q e ⟨env,rows⟩=Q e ⟨env.map fun p=>(p.1,p.2.scal),[]⟩:=rfl
theorem Qg(v:Value):(AV.sc v).scal=.sc v:=rfl
theorem Ra(ok:Oks)(Q:Ex->St->Prop)(σ:St)(id:Nat)(a:au):AWP ok (.blk id a) Q σ=AWP ok a (inb id Q) σ:=by simp only[AWP]
theorem Im(ok:Oks)(Q:Ex->St->Prop)(σ:St)(id:Nat):AWP ok (.exit id) Q σ=Q (.ex id) σ:=by simp only[AWP]
theorem Nw(ok:Oks)(Q:Ex->St->Prop)(σ:St):AWP ok .ret Q σ=Q .ret σ:=by simp only[AWP]
theorem Pb(K:St->Prop)(Q:Ex->St->Prop)(σ:St):thn K Q .nrm σ=K σ:=rfl
theorem UQ(K:St->Prop)(Q:Ex->St->Prop)(i:Nat)(σ:St):thn K Q (.ex i) σ=Q (.ex i) σ:=rfl
theorem OA(K:St->Prop)(Q:Ex->St->Prop)(σ:St):thn K Q .ret σ=Q .ret σ:=rfl
theorem QN(i:Nat)(Q:Ex->St->Prop)(σ:St):inb i Q .nrm σ=Q .nrm σ:=rfl
theorem Te(i j:Nat)(Q:Ex->St->Prop)(σ:St):inb i Q (.ex j) σ=if j=i then Q .nrm σ else Q (.ex j) σ:=rfl
theorem QD(i:Nat)(Q:Ex->St->Prop)(σ:St):inb i Q .ret σ=Q .ret σ:=rfl
theorem UR(ok:Oks)(g:X->AV)(ρ:Nat->Option Row)(d:Nat)(K:AV->List (Nat×Row)->Prop)(x:X):eff ok g ρ d (.mv x) K=K (g x) []:=rfl
theorem Gk(ok:Oks)(g:X->AV)(ρ:Nat->Option Row)(d:Nat)(K:AV->List (Nat×Row)->Prop)(c a b:X):eff ok g ρ d (.pick c a b) K=ko K (g c) (g a) (g b):=rfl
theorem PD(K:AV->List (Nat×Row)->Prop)(a b:AV):ko K (.sc (.bool true)) a b=K a []:=by simp[ko]
theorem Nb(K:AV->List (Nat×Row)->Prop)(a b:AV):ko K (.sc (.bool false)) a b=K b []:=by simp[ko]
theorem Dm(ok:Oks)(g:X->AV)(ρ:Nat->Option Row)(d:Nat)(K:AV->List (Nat×Row)->Prop)(z:AV):eff ok g ρ d (.alloc z) K=(ρ d=none/\K (.pt d 0 0) [(d,.var z)]):=rfl
theorem Pp(ok:Oks)(g:X->AV)(ρ:Nat->Option Row)(d:Nat)(K:AV->List (Nat×Row)->Prop)(n:Nat)(x:X):eff ok g ρ d (.box n x) K=(ρ d=none/\(g x).width=n/\K (.pt d 0 0) [(d,.var (g x))]):=rfl
theorem BE(ok:Oks)(g:X->AV)(ρ:Nat->Option Row)(d:Nat)(K:AV->List (Nat×Row)->Prop)(z:List AV)(ps:List (Nat×Nat×X)):eff ok g ρ d (.build z ps) K=
 ((∀p∈ps,(g p.2.2).width=p.2.1/\p.1+p.2.1<=z.length)/\K (.agg (kh z (ps.map fun p=>(p.1,g p.2.2)))) []):=rfl
theorem QE(ok:Oks)(g:X->AV)(ρ:Nat->Option Row)(d:Nat)(K:AV->List (Nat×Row)->Prop)(n:Nat)(fr:Bool)(ps:List X):eff ok g ρ d (.bsl n fr ps) K=((fr=true->aN (ps.map g)=[])/\ρ d=none/\(∀p∈ps,(g p).width=n)/\(aN (ps.map g)).Nodup/\
 K (.sl d 0 ps.length) (aL (aN (ps.map g))++[(d,.arr n ((ps.map g).map (lift ρ 2)))])):=rfl
theorem xK(x:AV):cL (some (.var x))=True:=rfl
theorem xP(n:Nat)(x:List AV):cL (some (.arr n x))=True:=rfl
theorem zP(rs:List Nat):aL rs=rs.map fun r=>(r,.dead):=rfl
theorem VR(K:AV->List (Nat×Row)->Prop)(v:AV):k1 K v=K v []:=rfl
theorem Gc(ok:Oks)(g:X->AV)(ρ:Nat->Option Row)(d:Nat)(K:AV->List (Nat×Row)->Prop)(n:Nat)(ag:Bool)(x:X):eff ok g ρ d (.load n ag x) K=dR K ρ n ag (g x):=rfl
theorem Ie(ρ:Nat->Option Row)(K:AV->List (Nat×Row)->Prop)(n:Nat)(ag:Bool)(f:Fl)(y:AV)(off:Nat):dR K ρ n ag (.bp f y off)=opt (part y off n ag) (k1 K):=rfl
theorem LR(ρ:Nat->Option Row)(K:AV->List (Nat×Row)->Prop)(n:Nat)(ag:Bool)(r i off:Nat):dR K ρ n ag (.pt r i off)=eg K (ρ r) i off n ag:=rfl
theorem vC(K:AV->List (Nat×Row)->Prop)(y:AV)(i off n:Nat)(ag:Bool):eg K (some (.var y)) i off n ag=(i=0/\opt (part y off n ag) (k1 K)):=rfl
theorem uZ(K:AV->List (Nat×Row)->Prop)(w:Nat)(es:List AV)(i off n:Nat)(ag:Bool):eg K (some (.arr w es)) i off n ag=opt es[i]? (GX K off n ag):=rfl
theorem FL(K:AV->List (Nat×Row)->Prop)(off n:Nat)(ag:Bool)(y:AV):GX K off n ag y=opt (part y.als off n ag) (k1 K):=rfl
theorem BP(ok:Oks)(g:X->AV)(ρ:Nat->Option Row)(d:Nat)(K:AV->List (Nat×Row)->Prop)(n:Nat)(x v:X):eff ok g ρ d (.store n x v) K=cX K ρ n (g x) (g v):=rfl
theorem Dp(ρ:Nat->Option Row)(K:AV->List (Nat×Row)->Prop)(n r i off:Nat)(v:AV):cX K ρ n (.pt r i off) v=(v.width=n/\da K ρ (ρ r) r i off v):=rfl
theorem sg(ρ:Nat->Option Row)(K:AV->List (Nat×Row)->Prop)(y:AV)(r i off:Nat)(v:AV):da K ρ (some (.var y)) r i off v=(i=0/\opt (setPart y off v) (Lg K r)):=rfl
theorem EL(K:AV->List (Nat×Row)->Prop)(r:Nat)(y:AV):Lg K r y=K .top [(r,.var y)]:=rfl
theorem sa(ρ:Nat->Option Row)(K:AV->List (Nat×Row)->Prop)(w:Nat)(es:List AV)(r i off:Nat)(v:AV):da K ρ (some (.arr w es)) r i off v=opt es[i]? (pd K ρ r w i off es v):=rfl
theorem Hz(ρ:Nat->Option Row)(K:AV->List (Nat×Row)->Prop)(w:Nat)(es:List AV)(r i off:Nat)(v y:AV):pd K ρ r w i off es v y=
 (r∉v.ments/\v.ments.Nodup/\(lift ρ 2 v).width=v.width/\opt (setPart y off (lift ρ 2 v)) (wE K (aL v.ments) r w i es)):=rfl
theorem Cz(K:AV->List (Nat×Row)->Prop)(u:List (Nat×Row))(r w i:Nat)(es:List AV)(y:AV):wE K u r w i es y=K .top (u++[(r,.arr w (es.set i y))]):=rfl
theorem Ph(ok:Oks)(g:X->AV)(ρ:Nat->Option Row)(d:Nat)(K:AV->List (Nat×Row)->Prop)(n:Nat)(ps:List X):eff ok g ρ d (.bsm n ps) K=((∀r∈aN (ps.map g),vY (ρ r))/\ρ d=none/\(∀p∈ps,(g p).width=n)/\(aN (ps.map g)).Nodup/\
 K (.sl d 0 ps.length) (aL (aN (ps.map g))++[(d,.arr n ((ps.map g).map (lift ρ 2)))])):=rfl
theorem QO(ok:Oks)(g:X->AV)(ρ:Nat->Option Row)(d:Nat)(K:AV->List (Nat×Row)->Prop)(n:Nat)(x v:X):eff ok g ρ d (.stv n x v) K=(vPv ρ (g x)/\cX K ρ n (g x) (g v)):=rfl
theorem Oj(ok:Oks)(g:X->AV)(ρ:Nat->Option Row)(d:Nat)(K:AV->List (Nat×Row)->Prop)(n:Nat)(ag:Bool)(x:X):eff ok g ρ d (.lda n ag x) K=(aPb ρ (g x)/\dR K ρ n ag (g x)):=rfl
theorem Px(ok:Oks)(g:X->AV)(ρ:Nat->Option Row)(d:Nat)(K:AV->List (Nat×Row)->Prop)(av:List Nat)(off:Nat)(x:X):eff ok g ρ d (.fdv av off x) K=(vPt av ρ (g x)/\jz K ρ off (g x)):=rfl
theorem VH(ρ:Nat->Option Row)(r i off:Nat):aPb ρ (.pt r i off)=vY (ρ r):=rfl
theorem Ua(ρ:Nat->Option Row)(f:Fl)(y:AV)(off:Nat):aPb ρ (.bp f y off)=True:=rfl
theorem Tt(ρ:Nat->Option Row)(r i off:Nat):vPv ρ (.pt r i off)=wn (ρ r):=rfl
theorem QI(ok:Oks)(g:X->AV)(ρ:Nat->Option Row)(d:Nat)(K:AV->List (Nat×Row)->Prop)(av:List Nat)(n:Nat)(ag:Bool)(x:X):eff ok g ρ d (.ldv av n ag x) K=(vPt av ρ (g x)/\dR K ρ n ag (g x)):=rfl
theorem NK(ok:Oks)(g:X->AV)(ρ:Nat->Option Row)(d:Nat)(K:AV->List (Nat×Row)->Prop)(n:Nat)(x v:X):eff ok g ρ d (.str n x v) K=(aPt ρ (g x)/\(g v).ments=[]/\cX K ρ n (g x) (g v)):=rfl
theorem UU(ρ:Nat->Option Row)(av:List Nat)(r i off:Nat):vPt av ρ (.pt r i off)=(r∉av/\wn (ρ r)):=rfl
theorem VL(ρ:Nat->Option Row)(av:List Nat)(f:Fl)(y:AV)(off:Nat):vPt av ρ (.bp f y off)=True:=rfl
theorem SO(ρ:Nat->Option Row)(r i off:Nat):aPt ρ (.pt r i off)=vY (ρ r):=rfl
theorem Mm(x:AV):wn (some (.var x))=True:=rfl
theorem JW(n:Nat)(x:List AV):vY (some (.arr n x))=True:=rfl
theorem Qt(ok:Oks)(g:X->AV)(ρ:Nat->Option Row)(d:Nat)(K:AV->List (Nat×Row)->Prop)(op:BinOp)(x y:X):eff ok g ρ d (.bin op x y) K=dc op (g x) (g y) (k1 K):=rfl
theorem OU(ok:Oks)(g:X->AV)(ρ:Nat->Option Row)(d:Nat)(K:AV->List (Nat×Row)->Prop)(neg:Bool)(x y:X):eff ok g ρ d (.beq neg x y) K=uh K neg (g x) (g y):=rfl
theorem SY(K:AV->List (Nat×Row)->Prop)(a b:Bool):uh K false (.sc (.bool a)) (.sc (.bool b))=K (.sc (.bool (a==b))) []:=rfl
theorem SQ(K:AV->List (Nat×Row)->Prop)(a b:Bool):uh K true (.sc (.bool a)) (.sc (.bool b))=K (.sc (.bool (!(a==b)))) []:=rfl
theorem MZ(ok:Oks)(g:X->AV)(ρ:Nat->Option Row)(d:Nat)(K:AV->List (Nat×Row)->Prop)(neg:Bool)(x y:X):eff ok g ρ d (.aeq neg x y) K=th K neg (g x) (g y):=rfl
theorem Ts(K:AV->List (Nat×Row)->Prop)(a b c e:Int):th K false (.agg [.sc (.int .i64 a),.sc (.int .i64 b)]) (.agg [.sc (.int .i64 c),.sc (.int .i64 e)])=K (.sc (.bool (a==c&&b==e))) []:=rfl
theorem TM(K:AV->List (Nat×Row)->Prop)(a b c e:Int):th K true (.agg [.sc (.int .i64 a),.sc (.int .i64 b)]) (.agg [.sc (.int .i64 c),.sc (.int .i64 e)])=K (.sc (.bool (!(a==c&&b==e)))) []:=rfl
theorem SM(ok:Oks)(g:X->AV)(ρ:Nat->Option Row)(d:Nat)(K:AV->List (Nat×Row)->Prop)(op:UnOp)(x:X):eff ok g ρ d (.un op x) K=unV op (g x) (k1 K):=rfl
theorem Hf(ok:Oks)(g:X->AV)(ρ:Nat->Option Row)(d:Nat)(K:AV->List (Nat×Row)->Prop)(q:IntKind)(x:X):eff ok g ρ d (.conv q x) K=pe K q (g x):=rfl
theorem PT(K:AV->List (Nat×Row)->Prop)(q q':IntKind)(n:Int):pe K q (.sc (.int q' n))=K (.sc (.int q (q.wrap n))) []:=rfl
theorem Nt(ok:Oks)(g:X->AV)(ρ:Nat->Option Row)(d:Nat)(K:AV->List (Nat×Row)->Prop)(f:Nat)(cs:List X):eff ok g ρ d (.mkf f cs) K=K (.fn f (cs.map g)) []:=rfl
theorem QH(ok:Oks)(g:X->AV)(ρ:Nat->Option Row)(d:Nat)(K:AV->List (Nat×Row)->Prop)(n:Nat)(z:AV)(bytes:Nat)(l c:X):eff ok g ρ d (.mks n z bytes l c) K=qk K (ρ d) d n z bytes (g l) (g c):=rfl
theorem Um(d:Nat)(K:AV->List (Nat×Row)->Prop)(o:Option Row)(n:Nat)(z:AV)(bytes:Nat)(l c:Int):qk K o d n z bytes (.sc (.int .i64 l)) (.sc (.int .i64 c))=
 (o=none/\z.width=n/\0<=l/\l<=c/\c*bytes<=140737488355328/\c<=9223372036854775807/\K (.sl d 0 l.toNat) [(d,.arr n (List.replicate l.toNat z))]):=rfl
theorem OZ(ok:Oks)(g:X->AV)(ρ:Nat->Option Row)(d:Nat)(K:AV->List (Nat×Row)->Prop)(n:Nat)(x:X)(lo hi mx:Option X):eff ok g ρ d (.slc n x lo hi mx) K=ov K ρ n (g x) (lo.map g) (hi.map g) (mx.map g):=rfl
theorem Jb(ρ:Nat->Option Row)(K:AV->List (Nat×Row)->Prop)(f:Fl)(n w:Nat)(xs:List AV)(lo hi:Option AV):ov K ρ n (.lst f w xs) lo hi none=
 (w=n/\bOk lo/\bOk hi/\bV lo 0<=bV hi xs.length/\bV hi xs.length<=xs.length/\K (.lst f n (sub xs (bV lo 0) (bV hi xs.length-bV lo 0))) []):=rfl
theorem DQ(ρ:Nat->Option Row)(K:AV->List (Nat×Row)->Prop)(f:Fl)(n w:Nat)(xs:List AV)(lo hi:Option AV)(m:AV):ov K ρ n (.lst f w xs) lo hi (some m)=
 (w=n/\bOk lo/\bOk hi/\bV lo 0<=bV hi xs.length/\bV hi xs.length<=xs.length/\hi.isSome/\bOk (some m)/\bV (some m) 0=bV hi xs.length/\K (.tg f n (sub xs (bV lo 0) (bV hi xs.length-bV lo 0))) []):=rfl
theorem Oo(ρ:Nat->Option Row)(K:AV->List (Nat×Row)->Prop)(n r i m:Nat)(lo hi mx:Option AV):ov K ρ n (.sl r i m) lo hi mx=
 ((∃es,ρ r=some (.arr n es))/\bOk lo/\bOk hi/\bV lo 0<=bV hi m/\bV hi m<=m/\mx=none/\K (.sl r (i+bV lo 0) (bV hi m-bV lo 0)) []):=rfl
theorem UZ(K:AV->List (Nat×Row)->Prop)(s:ByteArray)(lo hi:Option AV):PW K (.sc (.string s)) lo hi=
 (bOk lo/\bOk hi/\bV lo 0<=bV hi s.size/\bV hi s.size<=s.size/\K (.sc (.string (s.extract (bV lo 0) (bV hi s.size)))) []):=rfl
theorem Ef:bOk none=True:=rfl
theorem WC(q:IntKind)(j:Int):bOk (some (.sc (.int q j)))=(0<=j):=rfl
theorem PE(n:Nat):bV none n=n:=rfl
theorem bV_i(n:Nat)(q:IntKind)(j:Int):bV (some (.sc (.int q j))) n=j.toNat:=rfl
theorem Pn(ok:Oks)(g:X->AV)(ρ:Nat->Option Row)(d:Nat)(K:AV->List (Nat×Row)->Prop)(off:Nat)(x:X):eff ok g ρ d (.fad off x) K=jz K ρ off (g x):=rfl
theorem PQ(ρ:Nat->Option Row)(K:AV->List (Nat×Row)->Prop)(off o:Nat)(f:Fl)(y:AV):jz K ρ off (.bp f y o)=K (.bp f y (o+off)) []:=rfl
theorem OG(ρ:Nat->Option Row)(K:AV->List (Nat×Row)->Prop)(off r i o:Nat):jz K ρ off (.pt r i o)=(cL (ρ r)/\K (.pt r i (o+off)) []):=rfl
theorem QA(ok:Oks)(g:X->AV)(ρ:Nat->Option Row)(d:Nat)(K:AV->List (Nat×Row)->Prop)(n:Nat)(x i:X):eff ok g ρ d (.idx n x i) K=iz K ρ n (g x) (g i):=rfl
theorem NG(ok:Oks)(g:X->AV)(ρ:Nat->Option Row)(d:Nat)(K:AV->List (Nat×Row)->Prop)(av:List Nat)(n:Nat)(x i:X):eff ok g ρ d (.idv av n x i) K=(iPt av (g x)/\iz K ρ n (g x) (g i)):=rfl
theorem Tm(av:List Nat)(r i n:Nat):iPt av (.sl r i n)=(r∉av):=rfl
theorem Qi(av:List Nat)(f:Fl)(n:Nat)(xs:List AV):iPt av (.lst f n xs)=True:=rfl
theorem QR(ok:Oks)(g:X->AV)(ρ:Nat->Option Row)(d:Nat)(K:AV->List (Nat×Row)->Prop)(av:List Nat)(x:X):eff ok g ρ d (.lnv av x) K=(iPt av (g x)/\iY K ρ (g x)):=rfl
theorem Po(ok:Oks)(g:X->AV)(ρ:Nat->Option Row)(d:Nat)(K:AV->List (Nat×Row)->Prop)(r n:Nat)(x v:X):eff ok g ρ d (.stw r n x v) K=(wPt r ρ (g x)/\cX K ρ n (g x) (g v)):=rfl
theorem TN(ρ:Nat->Option Row)(r q i off:Nat):wPt r ρ (.pt q i off)=(q=r/\wn (ρ q)):=rfl
theorem KS(ρ:Nat->Option Row)(K:AV->List (Nat×Row)->Prop)(n w:Nat)(f:Fl)(xs:List AV)(q:IntKind)(j:Int):iz K ρ n (.lst f w xs) (.sc (.int q j))=(w=n/\0<=j/\opt xs[j.toNat]? (TV K f.als)):=rfl
theorem OK(K:AV->List (Nat×Row)->Prop)(f:Fl)(y:AV):TV K f y=K (.bp f y 0) []:=rfl
theorem Wy:Fl.als .o=.o:=rfl
theorem WK:Fl.als .s=.s:=rfl
theorem VT:Fl.als .m=.m:=rfl
theorem WG:Fl.als .u=.m:=rfl
theorem No(ρ:Nat->Option Row)(K:AV->List (Nat×Row)->Prop)(n r a m:Nat)(q:IntKind)(j:Int):iz K ρ n (.sl r a m) (.sc (.int q j))=((∃es,ρ r=some (.arr n es))/\0<=j/\j<m/\K (.pt r (a+j.toNat) 0) []):=rfl
theorem QT(ok:Oks)(g:X->AV)(ρ:Nat->Option Row)(d:Nat)(K:AV->List (Nat×Row)->Prop)(off n:Nat)(ag:Bool)(x:X):eff ok g ρ d (.fld off n ag x) K=CI K off n ag (g x):=rfl
theorem Fq(K:AV->List (Nat×Row)->Prop)(off n:Nat)(ag:Bool)(cs:List AV):CI K off n ag (.agg cs)=opt (part (.agg cs) off n ag) (k1 K):=by simp[CI,AV.isAgg]
theorem Kv(ok:Oks)(g:X->AV)(ρ:Nat->Option Row)(d:Nat)(K:AV->List (Nat×Row)->Prop)(x i:X):eff ok g ρ d (.stri x i) K=oL K (g x) (g i):=rfl
theorem Nl(K:AV->List (Nat×Row)->Prop)(s:ByteArray)(q:IntKind)(j:Int):oL K (.sc (.string s)) (.sc (.int q j))=(0<=j/\opt s[j.toNat]? (UX K)):=rfl
theorem NR(K:AV->List (Nat×Row)->Prop)(c:UInt8):UX K c=K (.sc (.int .u8 c.toNat)) []:=rfl
theorem PJ(ok:Oks)(g:X->AV)(ρ:Nat->Option Row)(d:Nat)(K:AV->List (Nat×Row)->Prop)(x:X)(j:Nat):eff ok g ρ d (.ext x j) K=vO K (g x) j:=rfl
theorem Kl(K:AV->List (Nat×Row)->Prop)(vs:List AV)(j:Nat):vO K (.tup vs) j=opt vs[j]? (k1 K):=rfl
theorem Hy(ok:Oks)(g:X->AV)(ρ:Nat->Option Row)(d:Nat)(K:AV->List (Nat×Row)->Prop)(f:Nat)(xs:List X):eff ok g ρ d (.call f xs) K=fB ok ρ d f (xs.map g) K:=rfl
theorem OY(ok:Oks)(g:X->AV)(ρ:Nat->Option Row)(d:Nat)(K:AV->List (Nat×Row)->Prop)(x:X)(xs:List X):eff ok g ρ d (.dyn x xs) K=uL ok ρ d (g x) (xs.map g) K:=rfl
theorem Cu(ok:Oks)(g:X->AV)(ρ:Nat->Option Row)(d:Nat)(K:AV->List (Nat×Row)->Prop)(f:Nat)(xs:List X)(rs:List Nat):eff ok g ρ d (.callM f xs rs) K=callM ok ρ d f (xs.map g) rs K:=rfl
theorem Gw(ok:Oks)(g:X->AV)(ρ:Nat->Option Row)(d:Nat)(K:AV->List (Nat×Row)->Prop)(x:X)(xs:List X)(rs:List Nat):eff ok g ρ d (.dynM x xs rs) K=oc ok ρ d (g x) (xs.map g) rs K:=rfl
theorem Eg(ok:Oks)(ρ:Nat->Option Row)(d:Nat)(K:AV->List (Nat×Row)->Prop)(f:Nat)(cs xs:List AV)(rs:List Nat):oc ok ρ d (.fn f cs) xs rs K=callM ok ρ d f (xs++cs) rs K:=rfl
theorem OT(ok:Oks)(ρ:Nat->Option Row)(d:Nat)(K:AV->List (Nat×Row)->Prop)(f:Nat)(cs xs:List AV):uL ok ρ d (.fn f cs) xs K=fB ok ρ d f (xs++cs) K:=rfl
theorem Ps(ok:Oks)(g:X->AV)(ρ:Nat->Option Row)(d:Nat)(K:AV->List (Nat×Row)->Prop)(x:X):eff ok g ρ d (.len x) K=iY K ρ (g x):=rfl
theorem Lb(ρ:Nat->Option Row)(K:AV->List (Nat×Row)->Prop)(f:Fl)(n:Nat)(xs:List AV):iY K ρ (.lst f n xs)=K (.sc (.int .i64 xs.length)) []:=rfl
theorem NB(ρ:Nat->Option Row)(K:AV->List (Nat×Row)->Prop)(f:Fl)(n:Nat)(xs:List AV):iY K ρ (.tg f n xs)=K (.sc (.int .i64 xs.length)) []:=rfl
theorem Ow(ρ:Nat->Option Row)(K:AV->List (Nat×Row)->Prop)(r i n:Nat):iY K ρ (.sl r i n)=((∃w es,ρ r=some (.arr w es))/\K (.sc (.int .i64 n)) []):=rfl
theorem JP(ok:Oks)(g:X->AV)(ρ:Nat->Option Row)(d:Nat)(K:AV->List (Nat×Row)->Prop)(x:X):eff ok g ρ d (.lenz x) K=ox K (g x):=rfl
theorem JE(ok:Oks)(g:X->AV)(ρ:Nat->Option Row)(d:Nat)(K:AV->List (Nat×Row)->Prop)(x:X):eff ok g ρ d (.capn x) K=oo K (g x):=rfl
theorem Ny(K:AV->List (Nat×Row)->Prop)(n:Nat):oo K (.lst .u n [])=K (.i 0) []:=rfl
theorem NF(ok:Oks)(g:X->AV)(ρ:Nat->Option Row)(d:Nat)(K:AV->List (Nat×Row)->Prop)(n:Nat)(x hi:X):eff ok g ρ d (.slg n x hi) K=vS K n (g x) (g hi):=rfl
theorem SS(K:AV->List (Nat×Row)->Prop)(n w:Nat)(k:IntKind)(h:Int):vS K n (.lst .u w []) (.sc (.int k h))=(w=n/\h=0/\K (.lst .u n []) []):=rfl
theorem OL(ok:Oks)(g:X->AV)(ρ:Nat->Option Row)(d:Nat)(K:AV->List (Nat×Row)->Prop)(n:Nat)(z:AV)(bytes:Nat)(x l:X):eff ok g ρ d (.apz n z bytes x l) K=DI K (ρ d) d n z bytes (g x) (g l):=rfl
theorem Vr(K:AV->List (Nat×Row)->Prop)(o:Option Row)(d n w:Nat)(z:AV)(bytes:Nat)(l:Int):DI K o d n z bytes (.lst .u w []) (.sc (.int .i64 l))=(o=none/\w=n/\z.width=n/\n=1/\0<l/\l*bytes<=140737488355328/\K (.sl d 0 l.toNat) [(d,.arr n (List.replicate l.toNat z))]):=rfl
theorem Qd(K:AV->List (Nat×Row)->Prop)(s:ByteArray):ox K (.sc (.string s))=K (.sc (.int .i64 s.size)) []:=rfl
theorem IH(ρ:Nat->Option Row)(K:AV->List (Nat×Row)->Prop)(f:Fl)(n:Nat)(xs:List AV):Pi K ρ (.lst f n xs)=(n=1/\opt (u8s xs) (Ml K)):=rfl
theorem PR(ρ:Nat->Option Row)(K:AV->List (Nat×Row)->Prop)(r i n:Nat):Pi K ρ (.sl r i n)=yt K (ρ r) i n:=rfl
theorem Dc(K:AV->List (Nat×Row)->Prop)(w:Nat)(es:List AV)(i m:Nat):yt K (some (.arr w es)) i m=(w=1/\opt (u8s (sub es i m)) (Ml K)):=rfl
theorem OO(K:AV->List (Nat×Row)->Prop)(ns:List Int):Ml K ns=K (.sc (.string (b2s ns))) []:=rfl
theorem OD(ok:Oks)(g:X->AV)(ρ:Nat->Option Row)(d:Nat)(K:AV->List (Nat×Row)->Prop)(neg:Bool)(x:X):eff ok g ρ d (.isn neg x) K=vo K ρ neg (g x):=rfl
theorem LO(ρ:Nat->Option Row)(K:AV->List (Nat×Row)->Prop)(neg:Bool)(f:Fl)(n:Nat)(xs:List AV):vo K ρ neg (.lst f n xs)=pX K neg xs.isEmpty:=rfl
theorem QU(ρ:Nat->Option Row)(K:AV->List (Nat×Row)->Prop)(neg:Bool)(f:Fl)(n:Nat)(xs:List AV):vo K ρ neg (.tg f n xs)=pX K neg xs.isEmpty:=rfl
theorem Ob(ρ:Nat->Option Row)(K:AV->List (Nat×Row)->Prop)(neg:Bool)(r i n:Nat):vo K ρ neg (.sl r i n)=((∃w es,ρ r=some (.arr w es))/\pX K neg (n==0)):=rfl
theorem QM(K:AV->List (Nat×Row)->Prop)(neg e:Bool):pX K neg e=K (cond e .ub (.sc (.bool neg))) []:=rfl
theorem TJ(x:AV):cond true AV.ub x=AV.ub:=rfl
theorem UJ(x:AV):cond false AV.ub x=x:=rfl
theorem DD{α β:Type}(f:α->β)(xs:List α):(xs.map f).isEmpty=xs.isEmpty:=List.isEmpty_map
theorem Qk(ρ:Nat->Option Row)(K:AV->List (Nat×Row)->Prop)(n r i m:Nat)(y:AV):TU K ρ n (.sl r i m) y=opt (du n ρ y) (Pt K (ρ r) r n i m):=rfl
theorem HU(K:AV->List (Nat×Row)->Prop)(w n r i m:Nat)(es ys:List AV):Pt K (some (.arr w es)) r n i m ys=(w=n/\i+m+ys.length<=es.length/\K (.sl r i (m+ys.length)) [(r,.arr w (fq es (i+m) ys))]):=rfl
theorem Nn(ρ:Nat->Option Row)(K:AV->List (Nat×Row)->Prop)(n r i m:Nat)(lo hi mx:AV):VE K ρ n (.sl r i m) lo hi mx=yF K (ρ r) n m lo hi mx:=rfl
theorem Cd(K:AV->List (Nat×Row)->Prop)(w n m:Nat)(es:List AV)(k1 k2 k3:IntKind)(l h q:Int):yF K (some (.arr w es)) n m (.sc (.int k1 l)) (.sc (.int k2 h)) (.sc (.int k3 q))=(w=n/\0<=l/\l<=h/\h<=q/\q<=(m:Int)/\K .top []):=rfl
theorem PH(ρ:Nat->Option Row)(K:AV->List (Nat×Row)->Prop)(n r i m:Nat)(lo hi:Option AV):Ks K ρ n (.sl r i m) lo hi=tj K (ρ r) r n i m lo hi:=rfl
theorem Au(K:AV->List (Nat×Row)->Prop)(w n r i m:Nat)(es:List AV)(lo hi:Option AV):tj K (some (.arr w es)) r n i m lo hi=
 (w=n/\bOk lo/\bOk hi/\bV lo 0<=bV hi m/\i+bV hi m<=es.length/\K (.sl r (i+bV lo 0) (bV hi m-bV lo 0)) []):=rfl
theorem Ot(ok:Oks)(g:X->AV)(ρ:Nat->Option Row)(d:Nat)(K:AV->List (Nat×Row)->Prop)(n:Nat)(z:AV)(x:X):eff ok g ρ d (.clr n z x) K=BQ K ρ n z (g x):=rfl
theorem OE(ρ:Nat->Option Row)(K:AV->List (Nat×Row)->Prop)(n r i m:Nat)(z:AV):BQ K ρ n z (.sl r i m)=vB K (ρ r) r n z i m:=rfl
theorem Bv(K:AV->List (Nat×Row)->Prop)(w n r i m:Nat)(es:List AV)(z:AV):vB K (some (.arr w es)) r n z i m=(w=n/\z.width=n/\K (.tup []) [(r,.arr w (fq es i (List.replicate m z)))]):=rfl
theorem Qx(ok:Oks)(g:X->AV)(ρ:Nat->Option Row)(d:Nat)(K:AV->List (Nat×Row)->Prop)(n:Nat)(x y:X):eff ok g ρ d (.cpy n x y) K=BO K ρ n (g x) (g y):=rfl
theorem PG(ρ:Nat->Option Row)(K:AV->List (Nat×Row)->Prop)(n r i m:Nat)(y:AV):BO K ρ n (.sl r i m) y=opt (du n ρ y) (tw K (ρ r) r n i m):=rfl
theorem CV(K:AV->List (Nat×Row)->Prop)(w n r i m:Nat)(es ys:List AV):tw K (some (.arr w es)) r n i m ys=(w=n/\K (.sc (.int .i64 (min ys.length m:Nat))) [(r,.arr w (fq es i (ys.take (min ys.length m))))]):=rfl
theorem Nz(ok:Oks)(g:X->AV)(ρ:Nat->Option Row)(d:Nat)(K:AV->List (Nat×Row)->Prop)(n bytes:Nat)(mv:Bool)(x y:X):eff ok g ρ d (.app n bytes mv x y) K=sM K ρ d n bytes mv (g x) (g y):=rfl
theorem NQ(ρ:Nat->Option Row)(d:Nat)(K:AV->List (Nat×Row)->Prop)(n bytes:Nat)(mv:Bool)(r i m:Nat)(y:AV):sM K ρ d n bytes mv (.sl r i m) y=(ρ d=none/\opt (lJ ρ n mv y) (nJ K (ρ r) d n bytes r i m)):=rfl
theorem Qs(ρ:Nat->Option Row)(d:Nat)(K:AV->List (Nat×Row)->Prop)(n bytes:Nat)(mv:Bool)(f:Fl)(w:Nat)(es:List AV)(y:AV):sM K ρ d n bytes mv (.tg f w es) y=(ρ d=none/\opt (lJ ρ n mv y) (uU K d n bytes w es)):=rfl
theorem Ge(d:Nat)(K:AV->List (Nat×Row)->Prop)(n bytes w:Nat)(es ys:List AV)(u:List (Nat×Row)):uU K d n bytes w es (ys,u)=
 (w=n/\0<ys.length/\(es.length+ys.length)*bytes<=140737488355328/\K (.sl d 0 (es.length+ys.length)) (u++[(d,.arr n (es.map AV.als++ys))])):=by simp[uU,gZ]
theorem Pc(ρ:Nat->Option Row)(n r m:Nat):lJ ρ n true (.sl r 0 m)=uG n r m (ρ r):=rfl
theorem Bz(n m r w:Nat)(ys:List AV):uG n r m (some (.arr w ys))=if w=n/\m=ys.length then some (ys,[(r,.dead)]) else none:=rfl
theorem Pr(ρ:Nat->Option Row)(n:Nat)(y:AV):lJ ρ n false y=kc (du n ρ y):=rfl
theorem wQ(ys:List AV):kc (some ys)=some (ys,[]):=rfl
theorem Bt(ρ:Nat->Option Row)(n w:Nat)(f:Fl)(xs:List AV):du n ρ (.lst f w xs)=if w=n then some xs else none:=rfl
theorem KJ(ρ:Nat->Option Row)(n w:Nat)(f:Fl)(xs:List AV):du n ρ (.tg f w xs)=if w=n then some xs else none:=rfl
theorem GY(ρ:Nat->Option Row)(n r i k:Nat):du n ρ (.sl r i k)=lL n (ρ r) i k:=rfl
theorem tV(n w i k:Nat)(es:List AV):lL n (some (.arr w es)) i k=if w=n then some ((sub es i k).map AV.als) else none:=by simp[lL,gZ]
theorem CA(d:Nat)(K:AV->List (Nat×Row)->Prop)(n bytes r i m w:Nat)(es ys:List AV)(u:List (Nat×Row)):nJ K (some (.arr w es)) d n bytes r i m (ys,u)=
 (w=n/\r∉u.map (·.1)/\(m+ys.length)*bytes<=140737488355328/\K (.sl d 0 (m+ys.length)) ((r,.dead)::u++[(d,.arr n (sub es i m++ys))])):=rfl
theorem JM(ok:Oks)(g:X->AV)(ρ:Nat->Option Row)(d:Nat)(K:AV->List (Nat×Row)->Prop)(x:X):eff ok g ρ d (.nilc x) K=pP K ρ (g x):=rfl
theorem Ol(ρ:Nat->Option Row)(K:AV->List (Nat×Row)->Prop)(f:Fl)(y:AV)(o:Nat):pP K ρ (.bp f y o)=K (.bp f y o) []:=rfl
theorem OB(ρ:Nat->Option Row)(K:AV->List (Nat×Row)->Prop)(r i o:Nat):pP K ρ (.pt r i o)=(cL (ρ r)/\K (.pt r i o) []):=rfl
theorem UB(ok:Oks)(g:X->AV)(ρ:Nat->Option Row)(d:Nat)(K:AV->List (Nat×Row)->Prop)(x y:X):eff ok g ρ d (.mn x y) K=eMn K (g x) (g y):=rfl
theorem VP(K:AV->List (Nat×Row)->Prop)(a b:Int):eMn K (.sc (.int .i64 a)) (.sc (.int .i64 b))=K (.sc (.int .i64 (if b<a then b else a))) []:=by simp[eMn]
theorem TB(ok:Oks)(g:X->AV)(ρ:Nat->Option Row)(d:Nat)(K:AV->List (Nat×Row)->Prop)(x y:X):eff ok g ρ d (.mx x y) K=eMx K (g x) (g y):=rfl
theorem Wp(K:AV->List (Nat×Row)->Prop)(a b:Int):eMx K (.sc (.int .i64 a)) (.sc (.int .i64 b))=K (.sc (.int .i64 (if a<b then b else a))) []:=by simp[eMx]
theorem Oy(K:AV->Prop)(k:IntKind)(a b:Int):dc .add (.sc (.int k a)) (.sc (.int k b)) K=K (.sc (.int k (k.wrap (a+b)))):=by simp[dc,dq,ofI]
theorem PM(K:AV->Prop)(k:IntKind)(a b:Int):dc .sub (.sc (.int k a)) (.sc (.int k b)) K=K (.sc (.int k (k.wrap (a-b)))):=by simp[dc,dq,ofI]
theorem OX(K:AV->Prop)(k:IntKind)(a b:Int):dc .mul (.sc (.int k a)) (.sc (.int k b)) K=K (.sc (.int k (k.wrap (a*b)))):=by simp[dc,dq,ofI]
theorem PO(K:AV->Prop)(k:IntKind)(a b:Int):dc .quo (.sc (.int k a)) (.sc (.int k b)) K=(b≠0/\K (.sc (.int k (k.wrap (a.tdiv b))))):=by simp[dc,dq,ofI]
theorem QF(K:AV->Prop)(k:IntKind)(a b:Int):dc .rem (.sc (.int k a)) (.sc (.int k b)) K=(b≠0/\K (.sc (.int k (a.tmod b)))):=by simp[dc,dq]
theorem Qf(K:AV->Prop)(k:IntKind)(a b:Int):dc .and (.sc (.int k a)) (.sc (.int k b)) K=K (.sc (.int k (bits .and k a b))):=by simp[dc,dq]
theorem TR(K:AV->Prop)(k:IntKind)(a b:Int):dc .or (.sc (.int k a)) (.sc (.int k b)) K=K (.sc (.int k (bits .or k a b))):=by simp[dc,dq]
theorem Ns(K:AV->Prop)(k:IntKind)(a b:Int):dc .xor (.sc (.int k a)) (.sc (.int k b)) K=K (.sc (.int k (bits .xor k a b))):=by simp[dc,dq]
theorem wT(K:AV->Prop)(k:IntKind)(a b:Int):dc .andNot (.sc (.int k a)) (.sc (.int k b)) K=K (.sc (.int k (bits .andNot k a b))):=by simp[dc,dq]
theorem Og(K:AV->Prop)(k:IntKind)(a b:Int):dc .eql (.sc (.int k a)) (.sc (.int k b)) K=K (.sc (.bool (a==b))):=by simp[dc,dq]
theorem NZ(K:AV->Prop)(k:IntKind)(a b:Int):dc .neq (.sc (.int k a)) (.sc (.int k b)) K=K (.sc (.bool (a !=b))):=by simp[dc,dq]
theorem Pe(K:AV->Prop)(k:IntKind)(a b:Int):dc .lss (.sc (.int k a)) (.sc (.int k b)) K=K (.sc (.bool (decide (a<b)))):=by simp[dc,dq]
theorem NT(K:AV->Prop)(k:IntKind)(a b:Int):dc .leq (.sc (.int k a)) (.sc (.int k b)) K=K (.sc (.bool (decide (a<=b)))):=by simp[dc,dq]
theorem QX(K:AV->Prop)(k:IntKind)(a b:Int):dc .gtr (.sc (.int k a)) (.sc (.int k b)) K=K (.sc (.bool (decide (b<a)))):=by simp[dc,dq]
theorem PC(K:AV->Prop)(k:IntKind)(a b:Int):dc .geq (.sc (.int k a)) (.sc (.int k b)) K=K (.sc (.bool (decide (b<=a)))):=by simp[dc,dq]
theorem Oz(K:AV->Prop)(k k':IntKind)(a b:Int):dc .shl (.sc (.int k a)) (.sc (.int k' b)) K=dW .shl k a b K:=by simp[dc]
theorem MY(K:AV->Prop)(k k':IntKind)(a b:Int):dc .shr (.sc (.int k a)) (.sc (.int k' b)) K=dW .shr k a b K:=by simp[dc]
theorem Wz(K:AV->Prop)(k:IntKind)(a b:Int):dW .shl k a b K=(0<=b/\K (.sc (.int k (k.wrap (a*2^(min b.toNat k.bits)))))):=by simp[dW,ofI]
theorem Wu(K:AV->Prop)(k:IntKind)(a b:Int):dW .shr k a b K=(0<=b/\K (.sc (.int k (a.fdiv (2^(min b.toNat k.bits)))))):=by simp[dW]
theorem Hp(K:AV->Prop)(a b:ByteArray):dc .add (.sc (.string a)) (.sc (.string b)) K=(a.size+b.size<=9223372036854775807/\K (.sc (.string (a++b)))):=rfl
theorem Kq(K:AV->Prop)(a b:ByteArray):dc .eql (.sc (.string a)) (.sc (.string b)) K=K (.sc (.bool (a.toList==b.toList))):=rfl
theorem Ji(K:AV->Prop)(a b:ByteArray):dc .neq (.sc (.string a)) (.sc (.string b)) K=K (.sc (.bool (!(a.toList==b.toList)))):=rfl
theorem Td(K:AV->Prop)(k:IntKind)(a:Int):unV .neg (.sc (.int k a)) K=K (.sc (.int k (k.wrap (0-a)))):=by simp[unV,ofI]
theorem Uq(K:AV->Prop)(a:Bool):unV .not (.sc (.bool a)) K=K (.sc (.bool (!a))):=rfl
theorem EO{α:Type}(x:α)(K:α->Prop):opt (some x) K=K x:=rfl
theorem Di(ok:Oks)(σ:St)(K:St->Prop):dS ok [] K σ=K σ:=rfl
theorem xr(ok:Oks)(σ:St)(K:St->Prop)(d:Option Nat)(o:AOp)(os:List bc):dS ok (⟨d,o,none⟩::os) K σ=eff ok σ.gx σ.row (d.getD 0) o (NP d (dS ok os K) σ):=rfl
theorem wd(ok:Oks)(σ:St)(K:St->Prop)(d:Option Nat)(o:AOp)(s:Nat)(w:Bool)(os:List bc):dS ok (⟨d,o,some (s,w)⟩::os) K σ=
 el σ s w (σ.get s) (xk ok d o (dS ok os K)) (Ls d (dS ok os K)):=rfl
theorem Ti(σ:St)(t len j:Nat):argI σ t len (.t j)=if j=t then .sl 1000000000 0 len else σ.get j:=rfl
theorem VJ(σ:St)(t len:Nat)(a:AV):argI σ t len (.c a)=a:=rfl
theorem Li(σ:St)(t j:Nat):HD σ t (.t j)=(j=t\/(σ.get j).ments=[]):=rfl
theorem LS(σ:St)(t:Nat)(a:AV):HD σ t (.c a)=(a.ments=[]):=rfl
theorem Pu(ok:Oks)(σ:St)(K:St->Prop)(d:Option Nat)(o:AOp):xk ok d o K σ=eff ok σ.gx σ.row (d.getD 0) o (NP d K σ):=rfl
theorem Pk(σ:St)(K:St->Prop)(d:Option Nat):Ls d K σ=K (σ.app d (.tup []) []):=rfl
theorem zJ(σ:St)(K:St->Prop)(d:Option Nat)(v:AV)(u:List (Nat×Row)):NP d K σ v u=K (σ.app d v u):=rfl
theorem Nv(σ:St)(Q:Ex->St->Prop)(can:List Can):Ic Q can σ=Q .nrm (σ.can can):=rfl
theorem BI(σ:St)(s:Nat)(A B:St->Prop):el σ s true (.sc (.bool true)) A B=A (σ.know s true):=by simp[el]
theorem Ba(σ:St)(s:Nat)(A B:St->Prop):el σ s true (.sc (.bool false)) A B=B (σ.know s false):=by simp[el]
theorem Az(σ:St)(s:Nat)(A B:St->Prop):el σ s false (.sc (.bool true)) A B=B (σ.know s true):=by simp[el]
theorem AP(σ:St)(s:Nat)(A B:St->Prop):el σ s false (.sc (.bool false)) A B=A (σ.know s false):=by simp[el]
theorem GU(σ:St)(s:Nat)(w:Bool)(A B:St->Prop):el σ s w (.tup []) A B=B σ:=rfl
theorem QG(σ:St):σ.can []=σ:=rfl
theorem LE(σ:St)(d:Nat)(ds:List Can):σ.can (.s d::ds)=(σ.canV d (σ.get d)).can ds:=rfl
theorem Bs(σ:St)(far:Bool)(d r j:Nat)(ds:List Can):σ.can (.f far d r j::ds)=(σ.canG far d r j (fX j (aD r σ.rows))).can ds:=rfl
theorem Ck(σ:St)(d:Nat)(ds:List Can):σ.can (.r d::ds)=(σ.canW d (σ.get d)).can ds:=rfl
theorem Pz(σ:St)(d r i n:Nat):σ.canW d (.sl r i n)=σ.canSr d r i n:=rfl
theorem Fo(σ:St)(d n:Nat):σ.canW d (.lst .u n [])=σ.canNil d n:=rfl
theorem Vc(σ:St)(d n:Nat)(xs:List AV):σ.canW d (.lst .o n xs)=σ:=rfl
theorem VK(σ:St)(d n:Nat)(xs:List AV):σ.canW d (.lst .m n xs)=σ:=rfl
theorem Ug(σ:St)(d n:Nat)(xs:List AV):σ.canW d (.lst .s n xs)=σ:=rfl
theorem Vv(σ:St)(far:Bool)(d r j n:Nat)(xs:List AV):σ.canG far d r j (.lst .o n xs)=σ:=rfl
theorem Tv(σ:St)(far:Bool)(d r j n:Nat)(xs:List AV):σ.canG far d r j (.lst .m n xs)=σ:=rfl
theorem TX(σ:St)(far:Bool)(d r j n:Nat)(xs:List AV):σ.canG far d r j (.lst .s n xs)=σ:=rfl
theorem Bi(σ:St)(d:Nat)(ds:List Can):σ.can (.z d::ds)=(σ.canZ d (σ.get d)).can ds:=rfl
theorem QK(σ:St)(d r i m:Nat):σ.canZ d (.sl r i m)=σ.canZr d i m r (aD r σ.rows):=rfl
theorem GW(σ:St)(d n:Nat)(f:Fl)(xs:List AV):σ.canZ d (.lst f n xs)=σ:=rfl
theorem Gz(σ:St)(d:Nat)(cs:List AV):σ.canZ d (.agg cs)=σ.canZc d cs 0 cs:=rfl
theorem AC(σ:St)(d j:Nat)(all:List AV):σ.canZc d all j []=σ:=by unfold St.canZc;rfl
theorem Ly(σ:St)(d j:Nat)(all cs:List AV)(r i m:Nat):σ.canZc d all j (.sl r i m::cs)=σ.canZcr d all j r i m (aD r σ.rows):=by rw[St.canZc]
theorem CC(σ:St)(d j:Nat)(all cs:List AV)(f:Fl)(n:Nat)(xs:List AV):σ.canZc d all j (.lst f n xs::cs)=σ.canZc d all (j+1) cs:=by rw[St.canZc];intros;contradiction
theorem LC(σ:St)(d j:Nat)(all cs:List AV)(v:Value):σ.canZc d all j (.sc v::cs)=σ.canZc d all (j+1) cs:=by rw[St.canZc];intros;contradiction
theorem Cc(env:List (Nat×AV))(rows:List (Nat×Row))(d j:Nat)(all:List AV)(r i m q:Nat)(es:List AV):St.canZcr ⟨env,rows⟩ d all j r i m (some (.arr q es))=⟨put d (.agg (gg all j (.lst .m q (di (sub es i m))))) env,put r .dead rows⟩:=rfl
theorem Db(σ:St)(far:Bool)(d k j:Nat)(ds:List Can):σ.can (.e far d k j::ds)=(σ.canE far d k j (fX j (some (.var (σ.get k))))).can ds:=rfl
theorem Qw(env:List (Nat×AV))(rows:List (Nat×Row))(far:Bool)(d k j q i m:Nat):St.canE ⟨env,rows⟩ far d k j (.sl q i m)=if q=d\/far=false/\1000000000<=q then⟨env,rows⟩ else⟨(env.map fun p=>(p.1,p.2.hush d)).map fun p=>(p.1,p.2.ren q d),((del d rows).map fun p=>(p.1,p.2.hush d)).map fun p=>(if p.1=q then d else p.1,p.2.map (·.ren q d))⟩:=rfl
theorem Eh(env:List (Nat×AV))(rows:List (Nat×Row))(far:Bool)(d k j m:Nat):St.canE ⟨env,rows⟩ far d k j (.lst .u m [])=St.canEN ⟨env,rows⟩ d k j m (aD k (env.map fun p=>(p.1,p.2.hush d))):=rfl
theorem Vb(σ:St)(far:Bool)(d r j n:Nat)(xs:List AV):σ.canE far d r j (.lst .o n xs)=σ:=rfl
theorem Vx(σ:St)(far:Bool)(d r j n:Nat)(xs:List AV):σ.canE far d r j (.lst .m n xs)=σ:=rfl
theorem Tr(σ:St)(far:Bool)(d r j n:Nat)(xs:List AV):σ.canE far d r j (.lst .s n xs)=σ:=rfl
theorem Fr(env:List (Nat×AV))(rows:List (Nat×Row))(d k j m:Nat)(cs:List AV):St.canEN ⟨env,rows⟩ d k j m (some (.agg cs))=⟨put k (.agg (gg cs j (.sl d 0 0))) (env.map fun p=>(p.1,p.2.hush d)),put d (.arr m []) ((del d rows).map fun p=>(p.1,p.2.hush d))⟩:=rfl
theorem Dd(σ:St)(r:Nat)(ds:List Can):σ.can (.w r::ds)=(σ.canX r (aD r σ.rows)).can ds:=rfl
theorem KV(env:List (Nat×AV))(rows:List (Nat×Row))(r n:Nat)(es:List AV):St.canX ⟨env,rows⟩ r (some (.arr n es))=⟨env,put r (.arr n (es.map AV.als)) rows⟩:=by simp[St.canX,gZ]
theorem AA(σ:St)(r:Nat):σ.canX r none=σ:=rfl
theorem Kx(σ:St)(r:Nat)(cs:List AV):σ.canX r (some (.var (.agg cs)))=σ.canXc r cs 0 cs:=rfl
theorem Dh(σ:St)(r j:Nat)(all:List AV):σ.canXc r all j []=σ:=by unfold St.canXc;rfl
theorem EZ(σ:St)(r j:Nat)(all cs:List AV)(q i m:Nat):σ.canXc r all j (.sl q i m::cs)=σ.canXcr r all j q i m (aD q σ.rows):=by rw[St.canXc]
theorem wK(σ:St)(r j:Nat)(all cs:List AV)(n:Nat)(xs:List AV):σ.canXc r all j (.lst .o n xs::cs)=σ.canXc r all (j+1) cs:=by rw[St.canXc]<;>(intros;simp_all)
theorem vJ(σ:St)(r j:Nat)(all cs:List AV)(n:Nat)(xs:List AV):σ.canXc r all j (.lst .m n xs::cs)=σ.canXc r all (j+1) cs:=by rw[St.canXc]<;>(intros;simp_all)
theorem wV(σ:St)(r j:Nat)(all cs:List AV)(n:Nat)(xs:List AV):σ.canXc r all j (.lst .s n xs::cs)=σ.canXc r all (j+1) cs:=by rw[St.canXc]<;>(intros;simp_all)
theorem wF(σ:St)(r j:Nat)(all cs:List AV)(n:Nat):σ.canXc r all j (.lst .u n []::cs)=⟨σ.env,put r (.var (.agg (gg all j (.lst .m n [])))) σ.rows⟩:=by rw[St.canXc]
theorem Ht(σ:St)(r j:Nat)(all cs:List AV)(v:Value):σ.canXc r all j (.sc v::cs)=σ.canXc r all (j+1) cs:=by rw[St.canXc]<;>(intros;contradiction)
theorem Bq(env:List (Nat×AV))(rows:List (Nat×Row))(r j:Nat)(all:List AV)(q i m k:Nat)(es:List AV):St.canXcr ⟨env,rows⟩ r all j q i m (some (.arr k es))=⟨env,put r (.var (.agg (gg all j (.lst .m k (di (sub es i m)))))) (put q .dead rows)⟩:=rfl
theorem BC(σ:St)(r:Nat):σ.canX r (some .dead)=σ:=rfl
theorem vU(j:Nat)(cs:List AV):fX j (some (.var (.agg cs)))=pS cs j:=rfl
theorem Br(q i m:Nat):fX 0 (some (.var (.sl q i m)))=.sl q i m:=rfl
theorem vW(f:Fl)(m:Nat)(xs:List AV):fX 0 (some (.var (.lst f m xs)))=.lst f m xs:=rfl
theorem ST(x:AV)(xs:List AV):pS (x::xs) 0=x:=rfl
theorem TL(x:AV)(xs:List AV)(j:Nat):pS (x::xs) (j+1)=pS xs j:=rfl
theorem UI(x y:AV)(xs:List AV):gg (x::xs) 0 y=y::xs:=rfl
theorem Tp(x y:AV)(xs:List AV)(j:Nat):gg (x::xs) (j+1) y=x::gg xs j y:=rfl
theorem OM(env:List (Nat×AV))(rows:List (Nat×Row))(far:Bool)(d r j q i m:Nat):St.canG ⟨env,rows⟩ far d r j (.sl q i m)=if q=d\/far=false/\1000000000<=q then⟨env,rows⟩ else⟨(env.map fun p=>(p.1,p.2.hush d)).map fun p=>(p.1,p.2.ren q d),((del d rows).map fun p=>(p.1,p.2.hush d)).map fun p=>(if p.1=q then d else p.1,p.2.map (·.ren q d))⟩:=rfl
theorem GG(env:List (Nat×AV))(rows:List (Nat×Row))(far:Bool)(d r j m:Nat):St.canG ⟨env,rows⟩ far d r j (.lst .u m [])=St.canFN ⟨env,rows⟩ d r j m (aD r ((del d rows).map fun p=>(p.1,p.2.hush d))):=rfl
theorem Jd(env:List (Nat×AV))(rows:List (Nat×Row))(d r j m k:Nat):St.canFN ⟨env,rows⟩ d r j m (some (.var (.lst .u k [])))=⟨env.map fun p=>(p.1,p.2.hush d),put d (.arr m []) (put r (.var (.sl d 0 0)) ((del d rows).map fun p=>(p.1,p.2.hush d)))⟩:=rfl
theorem Fe(env:List (Nat×AV))(rows:List (Nat×Row))(d r j m:Nat)(cs:List AV):St.canFN ⟨env,rows⟩ d r j m (some (.var (.agg cs)))=⟨env.map fun p=>(p.1,p.2.hush d),put d (.arr m []) (put r (.var (.agg (gg cs j (.sl d 0 0)))) ((del d rows).map fun p=>(p.1,p.2.hush d)))⟩:=rfl
theorem Qy(σ:St)(d r i n:Nat):σ.canV d (.sl r i n)=σ.canSl d r i n:=rfl
theorem KP(σ:St)(d n:Nat):σ.canV d (.lst .u n [])=σ.canNil d n:=rfl
theorem Ta(σ:St)(d n:Nat)(xs:List AV):σ.canV d (.lst .o n xs)=σ:=rfl
theorem Vk(σ:St)(d n:Nat)(xs:List AV):σ.canV d (.lst .m n xs)=σ:=rfl
theorem Vd(σ:St)(d n:Nat)(xs:List AV):σ.canV d (.lst .s n xs)=σ:=rfl
theorem Vn(env:List (Nat×AV))(rows:List (Nat×Row))(k:Nat):St.get ⟨env,rows⟩ k=(aD k env).getD .top:=rfl
theorem Vq(env:List (Nat×AV))(rows:List (Nat×Row))(k:Nat):St.row ⟨env,rows⟩ k=aD k rows:=rfl
theorem gx_t(σ:St)(n:Nat):σ.gx (.t n)=σ.get n:=rfl
theorem gx_c(σ:St)(a:AV):σ.gx (.c a)=a:=rfl
theorem vb(env:List (Nat×AV))(rows:List (Nat×Row))(d:Nat)(v:AV)(u:List (Nat×Row)):St.app ⟨env,rows⟩ (some d) v u=⟨put d v env,bq u rows⟩:=rfl
theorem vA(env:List (Nat×AV))(rows:List (Nat×Row))(v:AV)(u:List (Nat×Row)):St.app ⟨env,rows⟩ none v u=⟨env,bq u rows⟩:=rfl
theorem oh(rows:List (Nat×Row)):bq [] rows=rows:=rfl
theorem mE(p:Nat×Row)(u rows:List (Nat×Row)):bq (p::u) rows=bq u (put p.1 p.2 rows):=rfl
theorem NO(env:List (Nat×AV))(rows:List (Nat×Row))(s:Nat)(b:Bool):St.know ⟨env,rows⟩ s b=⟨put s (.sc (.bool b)) env,rows⟩:=rfl
theorem LX{α:Type}(k:Nat):aD k ([]:List (Nat×α))=none:=rfl
theorem Bu{α:Type}(k j:Nat)(x:α)(l:List (Nat×α)):aD k ((j,x)::l)=if j=k then some x else aD k l:=rfl
theorem zS{α:Type}(k:Nat)(x:α):put k x []=[(k,x)]:=rfl
theorem uS{α:Type}(k j:Nat)(x y:α)(l:List (Nat×α)):put k x ((j,y)::l)=if j=k then(k,x)::l else(j,y)::put k x l:=rfl
theorem PA{α:Type}(k:Nat):del k ([]:List (Nat×α))=[]:=rfl
theorem Ja{α:Type}(k j:Nat)(x:α)(l:List (Nat×α)):del k ((j,x)::l)=if j=k then del k l else(j,x)::del k l:=rfl
theorem getD_some{α:Type}(x y:α):(some x).getD y=x:=rfl
theorem DK{α:Type}(y:α):(none:Option α).getD y=y:=rfl
theorem Kg(env:List (Nat×AV))(rows:List (Nat×Row))(d r i n:Nat):St.canSr ⟨env,rows⟩ d r i n=if r=d then⟨env,rows⟩ else
 ⟨put d (.sl d i n) ((env.map fun p=>(p.1,p.2.hush d)).map fun p=>(p.1,p.2.ren r d)),
  ((del d rows).map fun p=>(p.1,p.2.hush d)).map fun p=>(if p.1=r then d else p.1,p.2.map (·.ren r d))⟩:=rfl
theorem MF(env:List (Nat×AV))(rows:List (Nat×Row))(d i m r q:Nat)(es:List AV):St.canZr ⟨env,rows⟩ d i m r (some (.arr q es))=⟨put d (.lst .m q (di (sub es i m))) env,put r .dead rows⟩:=rfl
theorem EU(env:List (Nat×AV))(rows:List (Nat×Row))(d r i n:Nat):St.canSl ⟨env,rows⟩ d r i n=if r=d\/1000000000<=r then⟨env,rows⟩ else
 ⟨put d (.sl d i n) ((env.map fun p=>(p.1,p.2.hush d)).map fun p=>(p.1,p.2.ren r d)),
  ((del d rows).map fun p=>(p.1,p.2.hush d)).map fun p=>(if p.1=r then d else p.1,p.2.map (·.ren r d))⟩:=rfl
theorem BD(env:List (Nat×AV))(rows:List (Nat×Row))(d n:Nat):St.canNil ⟨env,rows⟩ d n=
 ⟨put d (.sl d 0 0) (env.map fun p=>(p.1,p.2.hush d)),put d (.arr n []) ((del d rows).map fun p=>(p.1,p.2.hush d))⟩:=rfl
theorem UL(σ:St)(lv lr:List Nat):σ.res lv lr=⟨lv.map fun k=>(k,σ.get k),lr.map fun r=>(r,(σ.row r).getD .dead)⟩:=rfl
theorem ML(σ:St)(lv lr:List Nat):σ.resOk lv lr=((∀k∈lv,∀r∈(σ.get k).ments,r∈lr)/\(∀q∈lr,∀r∈((σ.row q).getD .dead).ments,r∈lr)/\lr.Nodup):=rfl
theorem DR(r:Nat)(x:AV):Row.hush r (.var x)=if r∈x.ments then .dead else .var x:=rfl
theorem Bf(r:Nat)(n:Nat)(x:List AV):Row.hush r (.arr n x)=.arr n x:=rfl
theorem wS(r:Nat):Row.hush r .dead=.dead:=rfl
theorem LN(h:AV->AV)(x:AV):Row.map h (.var x)=.var (h x):=rfl
theorem Fg(h:AV->AV)(n:Nat)(x:List AV):Row.map h (.arr n x)=.arr n x:=rfl
theorem Cl(h:AV->AV):Row.map h .dead=.dead:=rfl
theorem we(x:AV):Row.ments (.var x)=x.ments:=rfl
theorem vR(n:Nat)(x:List AV):Row.ments (.arr n x)=[]:=rfl
theorem uI:Row.ments .dead=[]:=rfl
theorem OC(r:Nat)(a:AV):a.hush r=if r∈a.ments then .top else a:=rfl
theorem Fb(v:Value):(AV.sc v).ments=[]:=by simp[AV.ments]
theorem Dg(f:Fl)(n:Nat)(x:List AV):(AV.lst f n x).ments=[]:=by simp[AV.ments]
theorem EK(f:Fl)(n:Nat)(x:List AV):(AV.tg f n x).ments=[]:=by simp[AV.ments]
theorem Gm(f:Fl)(x:AV)(n:Nat):(AV.bp f x n).ments=[]:=by simp[AV.ments]
theorem DH:AV.top.ments=[]:=by simp[AV.ments]
theorem HR(r i n:Nat):(AV.sl r i n).ments=[r]:=by simp[AV.ments]
theorem Km(r i n:Nat):(AV.pt r i n).ments=[r]:=by simp[AV.ments]
theorem DX(cs:List AV):(AV.agg cs).ments=aN cs:=by simp[AV.ments]
theorem EG(f:Nat)(cs:List AV):(AV.fn f cs).ments=aN cs:=by simp[AV.ments]
theorem AG(cs:List AV):(AV.tup cs).ments=aN cs:=by simp[AV.ments]
theorem vT:aN []=[]:=by simp[aN]
theorem tl(c:AV)(cs:List AV):aN (c::cs)=c.ments++aN cs:=by simp[aN]
theorem dU(v:Value):(AV.sc v).fz=true:=by simp[AV.fz]
theorem ct(n:Nat)(xs:List AV):(AV.lst .o n xs).fz=fzL xs:=by simp[AV.fz]
theorem cV(cs:List AV):(AV.agg cs).fz=fzL cs:=by simp[AV.fz]
theorem cu:fzL []=true:=by simp[fzL]
theorem bS(c:AV)(cs:List AV):fzL (c::cs)=(c.fz&&fzL cs):=by simp[fzL]
theorem dT(v:Value):(AV.sc v).ouB=true:=by simp[AV.ouB]
theorem cr(n:Nat)(xs:List AV):(AV.lst .u n xs).ouB=cH xs:=by simp[AV.ouB]
theorem cU(cs:List AV):(AV.agg cs).ouB=cH cs:=by simp[AV.ouB]
theorem co:cH []=true:=by simp[cH]
theorem bU(c:AV)(cs:List AV):cH (c::cs)=(c.ouB&&cH cs):=by simp[cH]
theorem cR(xs:List Int):fzL (xs.map AV.i)=true:=by induction xs<;>simp_all [fzL,AV.fz]
theorem cP(xs:List Bool):fzL (xs.map AV.b)=true:=by induction xs<;>simp_all [fzL,AV.fz]
theorem cQ(xs:List ByteArray):fzL (xs.map AV.z)=true:=by induction xs<;>simp_all [fzL,AV.fz]
theorem cW(xs:List Int):fzL (xs.map AV.u8)=true:=by induction xs<;>simp_all [fzL,AV.fz]
theorem cn(xs:List Int):fzL (xs.map AV.u64)=true:=by induction xs<;>simp_all [fzL,AV.fz]
theorem cY(xs:List Int):cH (xs.map AV.u8)=true:=by induction xs<;>simp_all [cH,AV.ouB]
theorem cq(xs:List Int):cH (xs.map AV.u64)=true:=by induction xs<;>simp_all [cH,AV.ouB]
theorem cS(xs:List Int):cH (xs.map AV.i)=true:=by induction xs<;>simp_all [cH,AV.ouB]
theorem cT(xs:List Bool):cH (xs.map AV.b)=true:=by induction xs<;>simp_all [cH,AV.ouB]
theorem cO(xs:List ByteArray):cH (xs.map AV.z)=true:=by induction xs<;>simp_all [cH,AV.ouB]
theorem xE(x:AV)(off n:Nat):part x off n false=x.cells[off]?:=rfl
theorem AO(cs:List AV)(off n:Nat):part (.agg cs) off n true=if off+n<=cs.length then some (if off=0/\n=cs.length then .agg cs else .agg ((cs.drop off).take n)) else none:=by
 unfold part;by_cases h:off+n<=cs.length
 ·rw[if_pos rfl,if_pos ⟨rfl,h⟩,if_pos h];rfl
 ·rw[if_pos rfl,if_neg (fun e=>h e.2),if_neg h]
theorem sx(cs:List AV)(off:Nat)(v:Value):setPart (.agg cs) off (.sc v)=if off+1<=cs.length then some (.agg (fill cs off (.sc v))) else none:=rfl
theorem vq(cs:List AV)(off r i n:Nat):setPart (.agg cs) off (.sl r i n)=if off+1<=cs.length then some (.agg (fill cs off (.sl r i n))) else none:=rfl
theorem rF(cs:List AV)(off n:Nat)(f:Fl)(xs:List AV):setPart (.agg cs) off (.lst f n xs)=if off+1<=cs.length then some (.agg (fill cs off (.lst f n xs))) else none:=rfl
theorem rT(cs vs:List AV)(off:Nat):setPart (.agg cs) off (.agg vs)=if off=0/\vs.length=cs.length then some (.agg vs) else if off+vs.length<=cs.length then some (.agg (fill cs off (.agg vs))) else none:=rfl
theorem wP(x v:Value):setPart (.sc x) 0 (.sc v)=some (.sc v):=by simp[setPart,AV.isAgg,AV.width]
theorem uk(f:Fl)(n:Nat)(xs:List AV)(f':Fl)(n':Nat)(xs':List AV):setPart (.lst f n xs) 0 (.lst f' n' xs')=some (.lst f' n' xs'):=by simp[setPart,AV.isAgg,AV.width]
theorem qd(f:Fl)(n:Nat)(xs:List AV)(r i k:Nat):setPart (.lst f n xs) 0 (.sl r i k)=some (.sl r i k):=by simp[setPart,AV.isAgg,AV.width]
theorem sL(r' i' k' r i k:Nat):setPart (.sl r' i' k') 0 (.sl r i k)=some (.sl r i k):=by simp[setPart,AV.isAgg,AV.width]
theorem AN(cs:List AV):(AV.agg cs).cells=cs:=rfl
theorem FK(v:Value):(AV.sc v).cells=[.sc v]:=rfl
theorem DL(f:Fl)(n:Nat)(xs:List AV):(AV.lst f n xs).cells=[.lst f n xs]:=rfl
theorem Fp(r i n:Nat):(AV.sl r i n).cells=[.sl r i n]:=rfl
theorem Je(f:Nat)(cs:List AV):(AV.fn f cs).cells=[.fn f cs]:=rfl
theorem CF(cs:List AV):(AV.agg cs).width=cs.length:=rfl
theorem KF(v:Value):(AV.sc v).width=1:=rfl
theorem Dx(f:Fl)(n:Nat)(xs:List AV):(AV.lst f n xs).width=1:=rfl
theorem MW(r i n:Nat):(AV.sl r i n).width=1:=rfl
theorem Gr(f:Nat)(cs:List AV):(AV.fn f cs).width=1:=rfl
theorem Oq(cs:List AV)(off:Nat)(v:AV):fill cs off v=cs.take off++v.cells++cs.drop (off+v.cells.length):=rfl
theorem CU(cs:List AV):kh cs []=cs:=rfl
theorem wh(cs:List AV)(off:Nat)(v:AV)(l:List (Nat×AV)):kh cs ((off,v)::l)=kh (fill cs off v) l:=rfl
theorem Nr(rs:List RV)(res:AV)(σ:St):fin rs res .ret σ=opt (RVs.val σ rs) fun xs=>(aN xs).Nodup/\lift σ.row 3 (gl xs)=res:=by
 simp only[fin,opt];cases RVs.val σ rs<;>simp
theorem Oa(rs:List RV)(res:AV)(σ:St):fin rs res .nrm σ=opt (RVs.val σ rs) fun xs=>(aN xs).Nodup/\lift σ.row 3 (gl xs)=res:=by
 simp only[fin,opt];cases RVs.val σ rs<;>simp
def Tn(o:Option Row)(k:Nat)(ag:Bool):Option AV:=match o with
 |some (.var y)=>part y 0 k ag
 |_=>none
def rvC(σ:St)(a:AV)(k:Nat)(ag:Bool):Option AV:=match a with
 | .pt r 0 0=>Tn (σ.row r) k ag
 |_=>none
theorem rv_t(σ:St)(n:Nat):RV.val σ (.t n)=some (σ.get n):=rfl
theorem rv_c(σ:St)(n k:Nat)(ag:Bool):RV.val σ (.c n k ag)=rvC σ (σ.get n) k ag:=by simp only[RV.val];rfl
theorem VC(σ:St)(r k:Nat)(ag:Bool):rvC σ (.pt r 0 0) k ag=Tn (σ.row r) k ag:=rfl
theorem Jq(y:AV)(k:Nat)(ag:Bool):Tn (some (.var y)) k ag=part y 0 k ag:=rfl
def Sf(x:Option AV)(xs:Option (List AV)):Option (List AV):=match x,xs with
 |some x,some xs=>some (x::xs)
 |_,_=>none
theorem NY(σ:St):RVs.val σ []=some []:=rfl
theorem JO(σ:St)(r:RV)(rs:List RV):RVs.val σ (r::rs)=Sf (r.val σ) (RVs.val σ rs):=by simp only[RVs.val];rfl
theorem wq(x:AV)(xs:List AV):Sf (some x) (some xs)=some (x::xs):=rfl
theorem Lq(x:AV):gl [x]=x:=rfl
theorem ME(x y:AV)(l:List AV):gl (x::y::l)=.tup (x::y::l):=rfl
theorem FV(args:List AV):St.start args=⟨St.start.go 0 args,[]⟩:=rfl
theorem CG(n:Nat):St.start.go n []=[]:=rfl
theorem xu(n:Nat)(a:AV)(l:List AV):St.start.go n (a::l)=(n,a)::St.start.go (n+1) l:=rfl
theorem aJ(ok:Oks)(a:au)(rs:List RV)(args:List AV)(res:AV):Up ok a rs args res=AWP ok a (fin rs res) (St.start args):=rfl
theorem fl1:Fl.als .u=.m:=rfl
theorem fl2:Fl.als .o=.o:=rfl
theorem fl3:Fl.als .s=.s:=rfl
theorem fl4:Fl.als .m=.m:=rfl
theorem fl5:Fl.fix .u=.u:=rfl
theorem fl6:Fl.fix .o=.s:=rfl
theorem fl7:Fl.fix .s=.s:=rfl
theorem fl8:Fl.fix .m=.m:=rfl
theorem nV{α β:Type}(f:α->β)(x:α)(l:List α):(x::l).map f=f x::l.map f:=rfl
theorem qF{α β:Type}(f:α->β):[].map f=[]:=rfl
theorem Aw{α:Type}(l:List α):l++[]=l:=List.append_nil l
theorem rp{α:Type}(l:List α):[]++l=l:=rfl
theorem nE{α:Type}(x:α)(k l:List α):(x::k)++l=x::(k++l):=rfl
theorem xc{α:Type}(x:α)(l:List α):(x::l).length=l.length+1:=rfl
theorem Ar{α:Type}:([]:List α).length=0:=rfl
theorem qP{α β:Type}(f:α->β)(l:List α):(l.map f).length=l.length:=List.length_map ..
theorem SW{α:Type}(x:α)(l:List α):(x::l)[0]?=some x:=rfl
theorem UM{α:Type}(x:α)(l:List α)(n:Nat):(x::l)[n+1]?=l[n]?:=rfl
theorem FW{α β:Type}(f:α->β)(l:List α)(n:Nat):(l.map f)[n]?=(l[n]?).map f:=List.getElem?_map ..
theorem wN{α β:Type}(f:α->β)(x:α):(some x).map f=some (f x):=rfl
theorem xL{α β:Type}(f:α->β):(none:Option α).map f=none:=rfl
theorem GM{α:Type}(l:List α):l.take 0=[]:=rfl
theorem IR{α:Type}(x:α)(l:List α)(n:Nat):(x::l).take (n+1)=x::l.take n:=rfl
theorem MM{α:Type}(l:List α):l.drop 0=l:=rfl
theorem MU{α:Type}(x:α)(l:List α)(n:Nat):(x::l).drop (n+1)=l.drop n:=rfl
theorem LQ{α:Type}(n:Nat):([]:List α).drop n=[]:=List.drop_nil
theorem Kt{α:Type}(n:Nat):([]:List α).take n=[]:=List.take_nil
theorem NH(l:List Int):u8s (l.map AV.u8)=some l:=by induction l<;>simp_all [u8s]
theorem wk(n:Nat):((n:Int)).toNat=n:=rfl
theorem Fh{ok:Oks}{a:au}{Q:Ex->St->Prop}{σ:St}(lv lr:List Nat)(I:St->Prop)(μ:St->Nat)(h0:σ.resOk lv lr)(h1:I (σ.res lv lr))(h2:∀τ,I τ->AWP ok a (thn (fun τ'=>τ'.resOk lv lr/\I (τ'.res lv lr)/\μ (τ'.res lv lr)<μ τ) Q) τ):AWP ok (.loop a) Q σ:=by
 simp only[AWP];exact⟨lv,lr,I,μ,h0,h1,h2⟩
theorem KA{ok:Oks}{ρ:Nat->Option Row}{d f:Nat}{args:List AV}{K:AV->List (Nat×Row)->Prop}{res:AV}(h:ok.p f (args.map (snp ρ 4)) res)(hu:res.allU)(hn:∀p∈(adopt 4 d res).2.1,ρ p.1=none/\p.1<1000000000)(hk:K (adopt 4 d res).1 (adopt 4 d res).2.1):fB ok ρ d f args K:=⟨res,h,.inl hu,hn,hk⟩
theorem Hm{ok:Oks}{ρ:Nat->Option Row}{d f:Nat}{args:List AV}{K:AV->List (Nat×Row)->Prop}{v:Value}(h:ok.p f (args.map (snp ρ 4)) (.sc v))(hk:K (.sc v) []):fB ok ρ d f args K:=⟨.sc v,h,.inl (by simp[AV.allU]),by simp[lD],by simpa[lD] using hk⟩
theorem HW{ok:Oks}{ρ:Nat->Option Row}{d f:Nat}{args:List AV}{rs:List Nat}{K:AV->List (Nat×Row)->Prop}{res:AV}{outs:List (Nat×Row)}(h:ok.m f (args.map (AV.rg (cnm rs))) (rs.map (gv ρ rs)) res outs)(h1:rs.Nodup/\(∀r∈rs,cL (ρ r))/\(∀r∈rs,∀q∈me (ρ r),q∈rs)/\(∀r∈aN args,r∈rs))(h2:(outs.map fun p=>bkn d rs p.1).Nodup/\(∀p∈outs,1000000000<=p.1->p.1-1000000000<rs.length)/\(∀p∈outs,p.1<1000000000->ρ (bkn d rs p.1)=none/\bkn d rs p.1<1000000000))(hk:K (res.rg (bkn d rs)) (aL rs++outs.map (eS d rs))):callM ok ρ d f args rs K:=⟨res,outs,h,h1,h2,hk⟩
theorem gc{α:Type}{e:α->AV}(h:∀x,(e x).fz=true)(xs:List α):fzL (xs.map e)=true:=by induction xs<;>simp_all [fzL]
theorem gf{α:Type}{e:α->AV}(h:∀x,(e x).ouB=true)(xs:List α):cH (xs.map e)=true:=by induction xs<;>simp_all [cH]
theorem ZI{A B:Prop}(a:A)(b:B):A/\B:=⟨a,b⟩
def VS1:=ZI @gM (ZI @gZ (ZI @fe (ZI @Vl (ZI @Nf (ZI @Uu (ZI @Nk (ZI @Un (ZI @Uk (ZI @UO (ZI @CS (ZI @Ui (ZI @CB (ZI @Ox (ZI @Lh (ZI @LB (ZI @JA (ZI @PV (ZI @wR (ZI @lD (ZI @yE (ZI @yx (ZI @Aa (ZI @yI (ZI @rq (ZI @rh (ZI @qz (ZI @pF (ZI @cm (ZI @eb (ZI @ea (ZI @Tq (ZI @dp (ZI @ed (ZI @dZ (ZI @dG (ZI @dQ (ZI @dN (ZI @eu (ZI @ey (ZI @dP (ZI @CM (ZI @DS (ZI @rm (ZI @lR (ZI @lY (ZI @jS (ZI @vM (ZI @Bo (ZI @CZ (ZI @Cj (ZI @wL (ZI @nM (ZI @NN (ZI @c_eq (ZI @VS (ZI @SZ (ZI @QB (ZI @Ij (ZI @Th (ZI @Vh (ZI @OP (ZI @Nq (ZI @FQ (ZI @FR (ZI @Kz (ZI @UH (ZI @Ud (ZI @TT (ZI @Wo (ZI @Wc (ZI @VX (ZI @Wj (ZI @TD (ZI @TP (ZI @WH (ZI @Wg (ZI @OJ (ZI @lm (ZI @Sb (ZI @JB (ZI @Rg (ZI @Sg @HV))))))))))))))))))))))))))))))))))))))))))))))))))))))))))))))))))))))))))))))))))
def VS2:=ZI @IJ (ZI @RK (ZI @HO (ZI @Sq (ZI @So (ZI @zj (ZI @zR (ZI @vk (ZI @tc (ZI @MD (ZI @Ko (ZI @Gd (ZI @vD (ZI @xQ (ZI @wJ (ZI @Af (ZI @zE (ZI @Uh (ZI @OQ (ZI @Uw (ZI @SX (ZI @OW (ZI @QJ (ZI @UG (ZI @Qh (ZI @UK (ZI @UA (ZI @Iz (ZI @NS (ZI @Pv (ZI @QC (ZI @Hu (ZI @UF (ZI @SR (ZI @Tx (ZI @FA (ZI @Hd (ZI @WJ (ZI @UD (ZI @Qg (ZI @Ra (ZI @Im (ZI @Nw (ZI @Pb (ZI @UQ (ZI @OA (ZI @QN (ZI @Te (ZI @QD (ZI @UR (ZI @Gk (ZI @PD (ZI @Nb (ZI @Dm (ZI @Pp (ZI @BE (ZI @QE (ZI @xK (ZI @xP (ZI @zP (ZI @VR (ZI @Gc (ZI @Ie (ZI @LR (ZI @vC (ZI @uZ (ZI @FL (ZI @BP (ZI @Dp (ZI @sg (ZI @EL (ZI @sa (ZI @Hz (ZI @Cz (ZI @Ph (ZI @QO (ZI @Oj (ZI @Px (ZI @VH (ZI @Ua (ZI @Tt (ZI @QI @NK)))))))))))))))))))))))))))))))))))))))))))))))))))))))))))))))))))))))))))))))))
def VS3:=ZI @UU (ZI @VL (ZI @SO (ZI @Mm (ZI @JW (ZI @Qt (ZI @OU (ZI @SY (ZI @SQ (ZI @MZ (ZI @Ts (ZI @TM (ZI @SM (ZI @Hf (ZI @PT (ZI @Nt (ZI @QH (ZI @Um (ZI @OZ (ZI @Jb (ZI @DQ (ZI @Oo (ZI @UZ (ZI @Ef (ZI @WC (ZI @PE (ZI @bV_i (ZI @Pn (ZI @PQ (ZI @OG (ZI @QA (ZI @NG (ZI @Tm (ZI @Qi (ZI @QR (ZI @Po (ZI @TN (ZI @KS (ZI @OK (ZI @Wy (ZI @WK (ZI @VT (ZI @WG (ZI @No (ZI @QT (ZI @Fq (ZI @Kv (ZI @Nl (ZI @NR (ZI @PJ (ZI @Kl (ZI @Hy (ZI @OY (ZI @Cu (ZI @Gw (ZI @Eg (ZI @OT (ZI @Ps (ZI @Lb (ZI @NB (ZI @Ow (ZI @JP (ZI @JE (ZI @Ny (ZI @NF (ZI @SS (ZI @OL (ZI @Vr (ZI @Qd (ZI @IH (ZI @PR (ZI @Dc (ZI @OO (ZI @OD (ZI @LO (ZI @QU (ZI @Ob (ZI @QM (ZI @TJ (ZI @UJ @DD)))))))))))))))))))))))))))))))))))))))))))))))))))))))))))))))))))))))))))))))
def VS4:=ZI @Qk (ZI @HU (ZI @Nn (ZI @Cd (ZI @PH (ZI @Au (ZI @Ot (ZI @OE (ZI @Bv (ZI @Qx (ZI @PG (ZI @CV (ZI @Nz (ZI @NQ (ZI @Qs (ZI @Ge (ZI @Pc (ZI @Bz (ZI @Pr (ZI @wQ (ZI @Bt (ZI @KJ (ZI @GY (ZI @tV (ZI @CA (ZI @JM (ZI @Ol (ZI @OB (ZI @UB (ZI @VP (ZI @TB (ZI @Wp (ZI @Oy (ZI @PM (ZI @OX (ZI @PO (ZI @QF (ZI @Qf (ZI @TR (ZI @Ns (ZI @wT (ZI @Og (ZI @NZ (ZI @Pe (ZI @NT (ZI @QX (ZI @PC (ZI @Oz (ZI @MY (ZI @Wz (ZI @Wu (ZI @Hp (ZI @Kq (ZI @Ji (ZI @Td (ZI @Uq (ZI @EO (ZI @Di (ZI @xr (ZI @wd (ZI @Ti (ZI @VJ (ZI @Li (ZI @LS (ZI @Pu (ZI @Pk (ZI @zJ (ZI @Nv (ZI @BI (ZI @Ba (ZI @Az (ZI @AP (ZI @GU @QG))))))))))))))))))))))))))))))))))))))))))))))))))))))))))))))))))))))))
def VS5:=ZI @LE (ZI @Bs (ZI @Ck (ZI @Pz (ZI @Fo (ZI @Vc (ZI @VK (ZI @Ug (ZI @Vv (ZI @Tv (ZI @TX (ZI @Bi (ZI @QK (ZI @GW (ZI @Gz (ZI @AC (ZI @Ly (ZI @CC (ZI @LC (ZI @Cc (ZI @Db (ZI @Qw (ZI @Eh (ZI @Vb (ZI @Vx (ZI @Tr (ZI @Fr (ZI @Dd (ZI @KV (ZI @AA (ZI @Kx (ZI @Dh (ZI @EZ (ZI @wK (ZI @vJ (ZI @wV (ZI @wF (ZI @Ht (ZI @Bq (ZI @BC (ZI @vU (ZI @Br (ZI @vW (ZI @ST (ZI @TL (ZI @UI (ZI @Tp (ZI @OM (ZI @GG (ZI @Jd (ZI @Fe (ZI @Qy (ZI @KP (ZI @Ta (ZI @Vk (ZI @Vd (ZI @Vn (ZI @Vq (ZI @gx_t (ZI @gx_c (ZI @vb (ZI @vA (ZI @oh (ZI @mE (ZI @NO (ZI @LX (ZI @Bu (ZI @zS (ZI @uS (ZI @PA (ZI @Ja (ZI @getD_some (ZI @DK (ZI @Kg (ZI @MF (ZI @EU (ZI @BD (ZI @UL (ZI @ML (ZI @DR (ZI @Bf (ZI @wS (ZI @LN @Fg))))))))))))))))))))))))))))))))))))))))))))))))))))))))))))))))))))))))))))))))))
def VS6:=ZI @Cl (ZI @we (ZI @vR (ZI @uI (ZI @OC (ZI @Fb (ZI @Dg (ZI @EK (ZI @Gm (ZI @DH (ZI @HR (ZI @Km (ZI @DX (ZI @EG (ZI @AG (ZI @vT (ZI @tl (ZI @xE (ZI @AO (ZI @sx (ZI @vq (ZI @rF (ZI @rT (ZI @wP (ZI @uk (ZI @qd (ZI @sL (ZI @AN (ZI @FK (ZI @DL (ZI @Fp (ZI @Je (ZI @CF (ZI @KF (ZI @Dx (ZI @MW (ZI @Gr (ZI @Oq (ZI @CU (ZI @wh (ZI @Nr (ZI @Oa (ZI @rv_t (ZI @rv_c (ZI @VC (ZI @Jq (ZI @NY (ZI @JO (ZI @wq (ZI @Lq (ZI @ME (ZI @FV (ZI @CG (ZI @xu (ZI @aJ (ZI @fl1 (ZI @fl2 (ZI @fl3 (ZI @fl4 (ZI @fl5 (ZI @fl6 (ZI @fl7 (ZI @fl8 (ZI @nV (ZI @qF (ZI @Aw (ZI @rp (ZI @nE (ZI @xc (ZI @Ar (ZI @qP (ZI @SW (ZI @UM (ZI @FW (ZI @wN (ZI @xL (ZI @GM (ZI @IR (ZI @MM (ZI @MU (ZI @LQ (ZI @Kt (ZI @NH @wk))))))))))))))))))))))))))))))))))))))))))))))))))))))))))))))))))))))))))))))))))
def VA:=ZI @fe (ZI @lD (ZI @yE (ZI @yx (ZI @Aa (ZI @yI (ZI @rq (ZI @rh (ZI @qz (ZI @pF (ZI @dG (ZI @dQ (ZI @dN (ZI @dP (ZI @rm (ZI @jS (ZI @nM (ZI @FR (ZI @Kz (ZI @lm (ZI @Sb (ZI @JB (ZI @Rg (ZI @Sg (ZI @HV (ZI @IJ (ZI @RK (ZI @HO (ZI @Sq (ZI @So (ZI @zj (ZI @zR (ZI @vk (ZI @tc (ZI @MD (ZI @Ko (ZI @vD (ZI @Af (ZI @zE (ZI @zP (ZI @zJ (ZI @vb (ZI @vA (ZI @oh (ZI @mE (ZI @zS (ZI @uS (ZI @fl5 (ZI @fl6 (ZI @fl7 (ZI @fl8 (ZI @nV (ZI @qF (ZI @rp (ZI @nE (@qP)))))))))))))))))))))))))))))))))))))))))))))))))))))))
end Vs

