/-
  Part of the proof that FnExactCheapestPair returns true at every input.
-/
import Derived.Test.YtfmhphgpijjejaaGreatUe
import Derived.Test.YtfmhphgpijjejaaGreatChecked
import Derived.KernelRfl
import Derived.Shelf.SlSortCmp.NoneTotal
set_option linter.defProp false
set_option linter.unusedSimpArgs false
set_option linter.unusedVariables false
namespace Vs
open Go
structure ax where
 A:Int
 B:Int
 N:Int
 F:Int
 deriving DecidableEq
def ai(f:Fl)(x:ax):AV:=.agg [.i x.A,.i x.B,.i x.N,.i x.F]
theorem gh(f:Fl)(x:ax):(ai f x).nrm=ai .o x:=by simp[ai,cP,fX,fV,cP]
theorem qy(f:Fl)(xs:List ax):(xs.map (ai f)).map AV.nrm=xs.map (ai .o):=by simp[gh]
theorem eO(f:Fl)(x:ax):(ai f x).als=ai f.als x:=by simp[ai,ec,gf,gb,cP]
theorem qu(f:Fl)(xs:List ax):(xs.map (ai f)).map AV.als=xs.map (ai f.als):=by simp[eO]
theorem qd(f:Fl):AV.als∘ai f=ai f.als:=by funext x;simp[eO]
theorem eN(f:Fl)(x:ax):(ai f x).fix=ai f.fix x:=by simp[ai,eT,fE,fF,cP]
theorem kC(f:Fl)(xs:List ax):(xs.map (ai f)).map AV.fix=xs.map (ai f.fix):=by simp[eN]
theorem mL(x:ax):(ai .o x).fz=true:=by simp[ai,AV.i,AV.b,AV.z,fR,dl,ef,di,cE,dW,ea,ed,dY,dg,dX,dh,fT,dm,ee,dp,cF,dZ,eb,dV]
theorem eY(xs:List ax):fzL (xs.map (ai .o))=true:=jq mL xs
theorem mY(x:ax):(ai .u x).ouB=true:=by simp[ai,AV.i,AV.b,AV.z,fR,dl,ef,di,cE,dW,ea,ed,dY,dg,dX,dh,fT,dm,ee,dp,cF,dZ,eb,dV]
theorem eU(xs:List ax):df (xs.map (ai .u))=true:=jl mY xs
structure ae where
 N:List ByteArray
 F:List ax
def aP(f:Fl)(x:ae):AV:=.agg [.lst f 1 (x.N.map AV.z),.lst f 4 (x.F.map (ai f))]
theorem jN(f:Fl)(x:ae):(aP f x).nrm=aP .o x:=by simp[aP,cP,fX,fV,gh,gi,mj]
theorem nf(f:Fl)(xs:List ae):(xs.map (aP f)).map AV.nrm=xs.map (aP .o):=by simp[jN]
theorem gD(f:Fl)(x:ae):(aP f x).als=aP f.als x:=by simp[aP,ec,gf,gb,eO,gk,mG]
theorem na(f:Fl)(xs:List ae):(xs.map (aP f)).map AV.als=xs.map (aP f.als):=by simp[gD]
theorem nr(f:Fl):AV.als∘aP f=aP f.als:=by funext x;simp[gD]
theorem gt(f:Fl)(x:ae):(aP f x).fix=aP f.fix x:=by simp[aP,eT,fE,fF,eN,fD,ka]
theorem iY(f:Fl)(xs:List ae):(xs.map (aP f)).map AV.fix=xs.map (aP f.fix):=by simp[gt]
theorem kD(x:ae):(aP .o x).fz=true:=by simp[aP,AV.i,AV.b,AV.z,fR,dl,ef,di,cE,dW,ea,ed,dY,dg,dX,dh,fT,dm,ee,dp,cF,dZ,eb,dV,eY,eU]
theorem pu(xs:List ae):fzL (xs.map (aP .o))=true:=jq kD xs
theorem kB(x:ae):(aP .u x).ouB=true:=by simp[aP,AV.i,AV.b,AV.z,fR,dl,ef,di,cE,dW,ea,ed,dY,dg,dX,dh,fT,dm,ee,dp,cF,dZ,eb,dV,eY,eU]
theorem oC(xs:List ae):df (xs.map (aP .u))=true:=jl kB xs
structure au where
 N:Int
 F:Int
 deriving DecidableEq
def ay(f:Fl)(x:au):AV:=.agg [.i x.N,.i x.F]
theorem kF(f:Fl)(x:au):(ay f x).nrm=ay .o x:=by simp[ay,cP,fX,fV,cP]
theorem og(f:Fl)(xs:List au):(xs.map (ay f)).map AV.nrm=xs.map (ay .o):=by simp[kF]
theorem gX(f:Fl)(x:au):(ay f x).als=ay f.als x:=by simp[ay,ec,gf,gb,cP]
theorem pA(f:Fl)(xs:List au):(xs.map (ay f)).map AV.als=xs.map (ay f.als):=by simp[gX]
theorem ot(f:Fl):AV.als∘ay f=ay f.als:=by funext x;simp[gX]
theorem gZ(f:Fl)(x:au):(ay f x).fix=ay f.fix x:=by simp[ay,eT,fE,fF,cP]
theorem jp(f:Fl)(xs:List au):(xs.map (ay f)).map AV.fix=xs.map (ay f.fix):=by simp[gZ]
theorem ma(x:au):(ay .o x).fz=true:=by simp[ay,AV.i,AV.b,AV.z,fR,dl,ef,di,cE,dW,ea,ed,dY,dg,dX,dh,fT,dm,ee,dp,cF,dZ,eb,dV]
theorem qr(xs:List au):fzL (xs.map (ay .o))=true:=jq ma xs
theorem lL(x:au):(ay .u x).ouB=true:=by simp[ay,AV.i,AV.b,AV.z,fR,dl,ef,di,cE,dW,ea,ed,dY,dg,dX,dh,fT,dm,ee,dp,cF,dZ,eb,dV]
theorem qf(xs:List au):df (xs.map (ay .u))=true:=jl lL xs
structure aI where
 N:Int
 L:Int
 F:Int
 P:Int
 deriving DecidableEq
def aK(f:Fl)(x:aI):AV:=.agg [.i x.N,.i x.L,.i x.F,.i x.P]
theorem kv(f:Fl)(x:aI):(aK f x).nrm=aK .o x:=by simp[aK,cP,fX,fV,cP]
theorem oE(f:Fl)(xs:List aI):(xs.map (aK f)).map AV.nrm=xs.map (aK .o):=by simp[kv]
theorem hX(f:Fl)(x:aI):(aK f x).als=aK f.als x:=by simp[aK,ec,gf,gb,cP]
theorem po(f:Fl)(xs:List aI):(xs.map (aK f)).map AV.als=xs.map (aK f.als):=by simp[hX]
theorem nZ(f:Fl):AV.als∘aK f=aK f.als:=by funext x;simp[hX]
theorem gY(f:Fl)(x:aI):(aK f x).fix=aK f.fix x:=by simp[aK,eT,fE,fF,cP]
theorem ji(f:Fl)(xs:List aI):(xs.map (aK f)).map AV.fix=xs.map (aK f.fix):=by simp[gY]
theorem lw(x:aI):(aK .o x).fz=true:=by simp[aK,AV.i,AV.b,AV.z,fR,dl,ef,di,cE,dW,ea,ed,dY,dg,dX,dh,fT,dm,ee,dp,cF,dZ,eb,dV]
theorem qh(xs:List aI):fzL (xs.map (aK .o))=true:=jq lw xs
theorem lP(x:aI):(aK .u x).ouB=true:=by simp[aK,AV.i,AV.b,AV.z,fR,dl,ef,di,cE,dW,ea,ed,dY,dg,dX,dh,fT,dm,ee,dp,cF,dZ,eb,dV]
theorem pZ(xs:List aI):df (xs.map (aK .u))=true:=jl lP xs
structure ah where
 N:Int
 F:List Int
 deriving DecidableEq
def aw(f:Fl)(x:ah):AV:=.agg [.i x.N,.lst f 1 (x.F.map AV.i)]
theorem fW(f:Fl)(x:ah):(aw f x).nrm=aw .o x:=by simp[aw,cP,fX,fV,gi]
theorem qq(f:Fl)(xs:List ah):(xs.map (aw f)).map AV.nrm=xs.map (aw .o):=by simp[fW]
theorem gc(f:Fl)(x:ah):(aw f x).als=aw f.als x:=by simp[aw,ec,gf,gb,gk]
theorem pX(f:Fl)(xs:List ah):(xs.map (aw f)).map AV.als=xs.map (aw f.als):=by simp[gc]
theorem pY(f:Fl):AV.als∘aw f=aw f.als:=by funext x;simp[gc]
theorem fY(f:Fl)(x:ah):(aw f x).fix=aw f.fix x:=by simp[aw,eT,fE,fF,fD]
theorem kx(f:Fl)(xs:List ah):(xs.map (aw f)).map AV.fix=xs.map (aw f.fix):=by simp[fY]
theorem mH(x:ah):(aw .o x).fz=true:=by simp[aw,AV.i,AV.b,AV.z,fR,dl,ef,di,cE,dW,ea,ed,dY,dg,dX,dh,fT,dm,ee,dp,cF,dZ,eb,dV]
theorem iC(xs:List ah):fzL (xs.map (aw .o))=true:=jq mH xs
theorem mP(x:ah):(aw .u x).ouB=true:=by simp[aw,AV.i,AV.b,AV.z,fR,dl,ef,di,cE,dW,ea,ed,dY,dg,dX,dh,fT,dm,ee,dp,cF,dZ,eb,dV]
theorem iE(xs:List ah):df (xs.map (aw .u))=true:=jl mP xs
structure bC where
 n:ae
 N:Int
 F:List ah
def aL(f:Fl)(x:bC):AV:=.agg [.lst f 1 (x.n.N.map AV.z),.lst f 4 (x.n.F.map (ai f)),.i x.N,.lst f 2 (x.F.map (aw f))]
theorem ja(f:Fl)(x:bC):(aL f x).nrm=aL .o x:=by simp[aL,cP,fX,fV,gh,fW,gi,mj]
theorem mo(f:Fl)(xs:List bC):(xs.map (aL f)).map AV.nrm=xs.map (aL .o):=by simp[ja]
theorem fN(f:Fl)(x:bC):(aL f x).als=aL f.als x:=by simp[aL,ec,gf,gb,eO,gc,gk,mG]
theorem mE(f:Fl)(xs:List bC):(xs.map (aL f)).map AV.als=xs.map (aL f.als):=by simp[fN]
theorem mD(f:Fl):AV.als∘aL f=aL f.als:=by funext x;simp[fN]
theorem fP(f:Fl)(x:bC):(aL f x).fix=aL f.fix x:=by simp[aL,eT,fE,fF,eN,fY,fD,ka]
theorem iu(f:Fl)(xs:List bC):(xs.map (aL f)).map AV.fix=xs.map (aL f.fix):=by simp[fP]
theorem jr(x:bC):(aL .o x).fz=true:=by simp[aL,AV.i,AV.b,AV.z,fR,dl,ef,di,cE,dW,ea,ed,dY,dg,dX,dh,fT,dm,ee,dp,cF,dZ,eb,dV,eY,eU,iC,iE]
theorem nw(xs:List bC):fzL (xs.map (aL .o))=true:=jq jr xs
theorem jn(x:bC):(aL .u x).ouB=true:=by simp[aL,AV.i,AV.b,AV.z,fR,dl,ef,di,cE,dW,ea,ed,dY,dg,dX,dh,fT,dm,ee,dp,cF,dZ,eb,dV,eY,eU,iC,iE]
theorem nt(xs:List bC):df (xs.map (aL .u))=true:=jl jn xs
structure aA where
 F:ah
 N:Int
 deriving DecidableEq
def aR(f:Fl)(x:aA):AV:=.agg [.i x.F.N,.lst f 1 (x.F.F.map AV.i),.i x.N]
theorem ky(f:Fl)(x:aA):(aR f x).nrm=aR .o x:=by simp[aR,cP,fX,fV,gi]
theorem nV(f:Fl)(xs:List aA):(xs.map (aR f)).map AV.nrm=xs.map (aR .o):=by simp[ky]
theorem gV(f:Fl)(x:aA):(aR f x).als=aR f.als x:=by simp[aR,ec,gf,gb,gk]
theorem oB(f:Fl)(xs:List aA):(xs.map (aR f)).map AV.als=xs.map (aR f.als):=by simp[gV]
theorem oX(f:Fl):AV.als∘aR f=aR f.als:=by funext x;simp[gV]
theorem gW(f:Fl)(x:aA):(aR f x).fix=aR f.fix x:=by simp[aR,eT,fE,fF,fD]
theorem jI(f:Fl)(xs:List aA):(xs.map (aR f)).map AV.fix=xs.map (aR f.fix):=by simp[gW]
theorem lS(x:aA):(aR .o x).fz=true:=by simp[aR,AV.i,AV.b,AV.z,fR,dl,ef,di,cE,dW,ea,ed,dY,dg,dX,dh,fT,dm,ee,dp,cF,dZ,eb,dV]
theorem qe(xs:List aA):fzL (xs.map (aR .o))=true:=jq lS xs
theorem lu(x:aA):(aR .u x).ouB=true:=by simp[aR,AV.i,AV.b,AV.z,fR,dl,ef,di,cE,dW,ea,ed,dY,dg,dX,dh,fT,dm,ee,dp,cF,dZ,eb,dV]
theorem qi(xs:List aA):df (xs.map (aR .u))=true:=jl lu xs
def cd(f:Fl)(xs:List Int):AV:=.lst f 1 (xs.map AV.i)
theorem tE(f:Fl)(x:List Int):(cd f x).nrm=cd .o x:=by simp[cd,cP,fX,fV,gi]
theorem Bd(f:Fl)(xs:List (List Int)):(xs.map (cd f)).map AV.nrm=xs.map (cd .o):=by simp[tE]
theorem oL(f:Fl)(x:List Int):(cd f x).als=cd f.als x:=by simp[cd,ec,gf,gb,gk]
theorem BP(f:Fl)(xs:List (List Int)):(xs.map (cd f)).map AV.als=xs.map (cd f.als):=by simp[oL]
theorem BW(f:Fl):AV.als∘cd f=cd f.als:=by funext x;simp[oL]
theorem oU(f:Fl)(x:List Int):(cd f x).fix=cd f.fix x:=by simp[cd,eT,fE,fF,fD]
theorem rn(f:Fl)(xs:List (List Int)):(xs.map (cd f)).map AV.fix=xs.map (cd f.fix):=by simp[oU]
theorem ze(x:List Int):(cd .o x).fz=true:=by simp[cd,AV.i,AV.b,AV.z,fR,dl,ef,di,cE,dW,ea,ed,dY,dg,dX,dh,fT,dm,ee,dp,cF,dZ,eb,dV]
theorem JD(xs:List (List Int)):fzL (xs.map (cd .o))=true:=jq ze xs
theorem yz(x:List Int):(cd .u x).ouB=true:=by simp[cd,AV.i,AV.b,AV.z,fR,dl,ef,di,cE,dW,ea,ed,dY,dg,dX,dh,fT,dm,ee,dp,cF,dZ,eb,dV]
theorem Hp(xs:List (List Int)):df (xs.map (cd .u))=true:=jl yz xs
def M_k(b:List ByteArray)(a:Int×Int):Option ((Int×Int)⊕(Int⊕Int)):=
 cond (decide (a.2<(b.length:Int))) ((bR b a.2).bind fun c=>cond (decide ((IntKind.wrap .i64 (a.1-(c.size:Int)))<0)) (some (.inr (.inr (-1)))) (some (.inl (IntKind.wrap .i64 (a.1-(c.size:Int)),IntKind.wrap .i64 (a.2+1))))) (some (.inr (.inl a.1)))
def FO(a:List ByteArray)(b:Int):Option Int:=
 cond (decide ((IntKind.wrap .i64 (b-(a.length:Int)))<0)) (some (-1)) ((bg (M_k a) N0 (IntKind.wrap .i64 (b-(a.length:Int)),0)).bind fun c=>(match c with| .inl d=>some d| .inr g=>some g))
def Ft(a:List ax)(b:Int):Option Int:=
 cond (decide ((IntKind.wrap .i64 (b-(a.length:Int)))<0)) (some (-1)) (some (IntKind.wrap .i64 (b-(a.length:Int))))
def Gn(a:ae)(d:Int):Option Int:=
 (FO a.N d).bind fun b=>cond (decide (b<0)) (some (-1)) ((Ft a.F b).bind fun c=>cond (decide (c<0)) (some (-1)) (some c))
def Hq(a:List au)(b:Int):Option Int:=
 cond (decide ((IntKind.wrap .i64 (b-(a.length:Int)))<0)) (some (-1)) (some (IntKind.wrap .i64 (b-(a.length:Int))))
def M_y(b:List ByteArray)(a:Int×List ByteArray):Option ((Int×List ByteArray)⊕(List ByteArray)):=
 cond (decide (a.1<(b.length:Int))) ((bR b a.1).bind fun c=>(grd (0<=a.1/\a.1<(a.2.length:Int))).bind fun g=>(a.2[(Int.toNat a.1)]?).bind fun i=>bnd (a.2.set (Int.toNat a.1) c) fun d=>some (.inl (IntKind.wrap .i64 (a.1+1),d))) (some (.inr a.2))
def ED(a:List ByteArray):Option (List ByteArray):=
 (grd (0<=(a.length:Int)/\(a.length:Int)<=(a.length:Int)/\(a.length:Int)*((16:Nat):Int)<=140737488355328/\(a.length:Int)<=9223372036854775807)).bind fun d=>bnd (List.replicate (Int.toNat (a.length:Int)) (⟨#[]⟩:ByteArray)) fun b=>(bg (M_y a) N0 (0,b)).bind fun c=>some c
def AH(a:ax):Option ax:=
 some (⟨a.A,a.B,a.N,a.F⟩:ax)
def M_z(b:List ax)(a:Int×List ax):Option ((Int×List ax)⊕(List ax)):=
 cond (decide (a.1<(b.length:Int))) ((bR b a.1).bind fun c=>(AH c).bind fun d=>(grd (0<=a.1/\a.1<(a.2.length:Int))).bind fun i=>(a.2[(Int.toNat a.1)]?).bind fun j=>bnd (a.2.set (Int.toNat a.1) d) fun g=>some (.inl (IntKind.wrap .i64 (a.1+1),g))) (some (.inr a.2))
def IG(a:List ax):Option (List ax):=
 (grd (0<=(a.length:Int)/\(a.length:Int)<=(a.length:Int)/\(a.length:Int)*((32:Nat):Int)<=140737488355328/\(a.length:Int)<=9223372036854775807)).bind fun d=>bnd (List.replicate (Int.toNat (a.length:Int)) (⟨0,0,0,0⟩:ax)) fun b=>(bg (M_z a) N0 (0,b)).bind fun c=>some c
def tz(a:ae):Option ae:=
 (ED a.N).bind fun b=>(IG a.F).bind fun c=>some (⟨b,c⟩:ae)
def zY(a:au):Option au:=
 some (⟨a.N,a.F⟩:au)
def AF(b:List au)(a:Int×List au):Option ((Int×List au)⊕(List au)):=
 cond (decide (a.1<(b.length:Int))) ((bR b a.1).bind fun c=>(zY c).bind fun d=>(grd (0<=a.1/\a.1<(a.2.length:Int))).bind fun i=>(a.2[(Int.toNat a.1)]?).bind fun j=>bnd (a.2.set (Int.toNat a.1) d) fun g=>some (.inl (IntKind.wrap .i64 (a.1+1),g))) (some (.inr a.2))
def ug(a:List au):Option (List au):=
 (grd (0<=(a.length:Int)/\(a.length:Int)<=(a.length:Int)/\(a.length:Int)*((16:Nat):Int)<=140737488355328/\(a.length:Int)<=9223372036854775807)).bind fun d=>bnd (List.replicate (Int.toNat (a.length:Int)) (⟨0,0⟩:au)) fun b=>(bg (AF a) N0 (0,b)).bind fun c=>some c
def ve(a:aI):Option aI:=
 some (⟨a.N,a.L,a.F,a.P⟩:aI)
def M_c(a:Int)(b:Int)(c:Int):Option Bool:=
 cond (decide (b<=a)) (some (decide (a<=c))) (some false)
def Dh(a:Int):Option Bool:=
 cond (decide (97<=a)) (cond (decide (a<=122)) (some true) (cond (decide (48<=a)) (some (decide (a<=57))) (some false))) (cond (decide (48<=a)) (some (decide (a<=57))) (some false))
def M_a(b:ByteArray)(a:Int):Option (Int⊕(Unit⊕Bool)):=
 cond (decide (a<(b.size:Int))) ((sD b a).bind fun c=>(Dh (c.toNat:Int)).bind fun d=>cond (!d) (some (.inr (.inr false))) (some (.inl (IntKind.wrap .i64 (a+1))))) (some (.inr (.inl ())))
def DS(a:ByteArray):Option Bool:=
 ((M_c (a.size:Int) 1 8).bind fun c=>cond (!c) (some true) ((sD a 0).bind fun b=>cond (decide ((b.toNat:Int)<97)) (some true) (some (decide (122<(b.toNat:Int))))):Option Bool).bind fun d=>cond (d) (some false) ((bg (M_a a) N0 0).bind fun g=>(match g with| .inl j=>some true| .inr i=>some i))
def BA(b:List ByteArray)(c:ByteArray)(a:Int):Option (Int⊕(Unit⊕Int)):=
 cond (decide (a<(b.length:Int))) ((bR b a).bind fun d=>cond (d.toList==c.toList) (some (.inr (.inr a))) (some (.inl (IntKind.wrap .i64 (a+1))))) (some (.inr (.inl ())))
def Ku(a:List ByteArray)(b:ByteArray):Option Int:=
 (bg (BA a b) N0 0).bind fun c=>(match c with| .inl g=>some (-1)| .inr d=>some d)
def DN(a:ax)(b:Int):Option Bool:=
 (M_c a.A 0 (IntKind.wrap .i64 (b-1))).bind fun c=>cond (c) ((M_c a.B (IntKind.wrap .i64 (a.A+1)) (IntKind.wrap .i64 (b-1))).bind fun d=>cond (d) ((M_c a.N 1 5000).bind fun g=>cond (g) ((M_c a.F 0 9).bind fun i=>some i) (some false)) (some false)) (some false)
def Ei(a:ax)(b:ax):Option Int:=
 cond (a.A !=b.A) (some (IntKind.wrap .i64 (a.A-b.A))) (cond (a.B !=b.B) (some (IntKind.wrap .i64 (a.B-b.B))) (cond (a.N !=b.N) (some (IntKind.wrap .i64 (a.N-b.N))) (some (IntKind.wrap .i64 (a.F-b.F)))))
def M_d(b:ae)(a:Int):Option (Int⊕(Unit⊕Bool)):=
 cond (decide (a<(b.N.length:Int))) (((bR b.N a).bind fun c=>(DS c).bind fun d=>cond (!d) (some true) ((Ku b.N c).bind fun g=>some (g !=a)):Option Bool).bind fun i=>cond (i) (some (.inr (.inr false))) (some (.inl (IntKind.wrap .i64 (a+1))))) (some (.inr (.inl ())))
def Cc(b:ae)(a:Int):Option (Int⊕(Unit⊕Bool)):=
 cond (decide (a<(b.F.length:Int))) (((bR b.F a).bind fun c=>(DN c (b.N.length:Int)).bind fun d=>cond (!d) (some true) (cond (decide (0<a)) ((bR b.F (IntKind.wrap .i64 (a-1))).bind fun g=>(Ei g c).bind fun i=>some (decide (0<i))) (some false)):Option Bool).bind fun j=>cond (j) (some (.inr (.inr false))) (some (.inl (IntKind.wrap .i64 (a+1))))) (some (.inr (.inl ())))
def FB(a:ae):Option Bool:=
 ((M_c (a.N.length:Int) 2 8).bind fun b=>cond (!b) (some true) (some (decide (14<(a.F.length:Int)))):Option Bool).bind fun c=>cond (c) (some false) ((bg (M_d a) N0 0).bind fun d=>(match d with| .inl k=>(bg (Cc a) N0 0).bind fun g=>(match g with| .inl l=>some true| .inr i=>some i)| .inr j=>some j))
def M_h(c:List au)(a:Int):Option (Int⊕(Unit⊕Bool)):=
 (cond (decide (a<(c.length:Int))) (some (decide (a<=6))) (some false):Option Bool).bind fun g=>cond (g) (((bR c a).bind fun b=>(M_c b.N 1 20000).bind fun i=>cond (!i) (some true) ((M_c b.F 1 1000).bind fun j=>cond (!j) (some true) (cond (decide (0<a)) ((bR c (IntKind.wrap .i64 (a-1))).bind fun d=>cond (decide (d.N<=b.N)) (some true) (some (decide (b.F<=d.F)))) (some false))):Option Bool).bind fun k=>cond (k) (some (.inr (.inr false))) (some (.inl (IntKind.wrap .i64 (a+1))))) (some (.inr (.inl ())))
def Kn(a:List au):Option Bool:=
 (bg (M_h a) N0 0).bind fun b=>(match b with| .inl g=>(M_c (a.length:Int) 1 6).bind fun c=>some c| .inr d=>some d)
def Ja(b:ae)(a:aI):Option Bool:=
 (M_c a.N 0 (IntKind.wrap .i64 ((b.N.length:Int)-1))).bind fun c=>cond (c) ((M_c a.L 0 (IntKind.wrap .i64 ((b.N.length:Int)-1))).bind fun d=>cond (d) (cond (a.N !=a.L) ((M_c a.F 1 1000).bind fun g=>cond (g) ((M_c a.P 0 2).bind fun i=>some i) (some false)) (some false)) (some false)) (some false)
def M_f(c:ae)(b:ah)(a:Int×Int):Option ((Int×Int)⊕Int):=
 cond (decide (a.2<(b.F.length:Int))) ((bR b.F a.2).bind fun d=>(bR c.F d).bind fun g=>some (.inl (IntKind.wrap .i64 (a.1+g.N),IntKind.wrap .i64 (a.2+1)))) (some (.inr a.1))
def wW(a:ae)(b:ah):Option Int:=
 (bg (M_f a b) N0 (0,0)).bind fun c=>some c
def tx(a:Int):Option Int:=
 cond (decide (a<0)) (some (-1)) (cond (decide (0<a)) (some 1) (some 0))
def AQ(b:ah)(g:ah)(a:Int):Option (Int⊕(Unit⊕Int)):=
 cond (decide (a<(b.F.length:Int))) ((bR b.F a).bind fun c=>(bR g.F a).bind fun d=>cond (c !=d) ((tx (IntKind.wrap .i64 (c-d))).bind fun i=>some (.inr (.inr i))) (some (.inl (IntKind.wrap .i64 (a+1))))) (some (.inr (.inl ())))
def Ah(c:ae)(a:ah)(b:ah):Option Int:=
 (wW c a).bind fun d=>(wW c b).bind fun g=>cond ((IntKind.wrap .i64 (d-g)) !=0) ((tx (IntKind.wrap .i64 (d-g))).bind fun i=>some i) (cond ((IntKind.wrap .i64 ((a.F.length:Int)-(b.F.length:Int))) !=0) ((tx (IntKind.wrap .i64 ((a.F.length:Int)-(b.F.length:Int)))).bind fun j=>some j) ((bg (AQ a b) N0 0).bind fun k=>(match k with| .inl p=>(tx (IntKind.wrap .i64 (a.N-b.N))).bind fun l=>some l| .inr m=>some m)))
def Ci(c:ae)(d:Int)(b:Int):Option Int:=
 (bR c.F d).bind fun a=>cond (b==a.A) (some a.B) (cond (b==a.B) (some a.A) (some (-1)))
def Bh(b:List Int)(c:Int)(a:Int):Option (Int⊕(Unit⊕Bool)):=
 cond (decide (a<(b.length:Int))) ((bR b a).bind fun d=>cond (d==c) (some (.inr (.inr true))) (some (.inl (IntKind.wrap .i64 (a+1))))) (some (.inr (.inl ())))
def xf(a:List Int)(b:Int):Option Bool:=
 (bg (Bh a b) N0 0).bind fun c=>(match c with| .inl g=>some false| .inr d=>some d)
def qx(a:List Int):Option (List Int):=
 (grd (a.length*8<=140737488355328)).bind fun b=>some a
def JK(b:List au)(c:Int)(a:Int×Int):Option ((Int×Int)⊕Int):=
 cond (decide (a.2<(b.length:Int))) ((bR b a.2).bind fun d=>cond (decide (c<=d.N)) (some (.inl (a.2,IntKind.wrap .i64 (a.2+1)))) (some (.inl (a.1,IntKind.wrap .i64 (a.2+1))))) (some (.inr a.1))
def En(a:List au)(b:Int):Option Int:=
 (bg (JK a b) N0 ((-1),0)).bind fun c=>some c
def Ev(b:List au)(g:Int)(c:Int):Option Int:=
 (En b g).bind fun d=>cond (decide (d<0)) (some 0) ((bR b d).bind fun a=>(grd (a.F≠0)).bind fun i=>cond (decide (24<(IntKind.wrap .i64 (Int.tdiv (IntKind.wrap .i64 ((IntKind.wrap .i64 (c+a.F))-1)) a.F)))) (some 0) (some (IntKind.wrap .i64 (Int.tdiv (IntKind.wrap .i64 ((IntKind.wrap .i64 (c+a.F))-1)) a.F))))
def M_g(b:ae)(c:Int)(a:Int×List Int):Option ((Int×List Int)⊕(List Int)):=
 cond (decide (a.1<(b.F.length:Int))) ((bR b.F a.1).bind fun d=>(bR b.F c).bind fun g=>cond (d.F==g.F) (bnd ([a.1]) fun i=>(grd ((a.2.length+1)*8<=140737488355328)).bind fun k=>bnd (a.2++i) fun j=>some (.inl (IntKind.wrap .i64 (a.1+1),j))) (some (.inl (IntKind.wrap .i64 (a.1+1),a.2)))) (some (.inr a.2))
def wq(b:ae)(a:Int):Option (List Int):=
 (bR b.F a).bind fun c=>cond (c.F==0) (bnd ([a]) fun d=>some d) ((bg (M_g b a) N0 (0,[])).bind fun g=>some g)
def M_p(b:ah)(c:List Int)(a:Int):Option (Int⊕(Unit⊕Bool)):=
 cond (decide (a<(b.F.length:Int))) ((bR b.F a).bind fun d=>(xf c d).bind fun g=>cond (g) (some (.inr (.inr false))) (some (.inl (IntKind.wrap .i64 (a+1))))) (some (.inr (.inl ())))
def zG(c:ae)(b:ah)(d:ah)(a:Int):Option (Int⊕(Unit⊕Bool)):=
 cond (decide (a<(b.F.length:Int))) (((bR b.F a).bind fun g=>(wq c g).bind fun i=>(bg (M_p d i) N0 0).bind fun j=>(match j with| .inl p=>some (.inl ())| .inr k=>some (.inr k)):Option (Unit⊕Bool)).bind fun l=>(match l with| .inl q=>some (.inl (IntKind.wrap .i64 (a+1)))| .inr m=>some (.inr (.inr m)))) (some (.inr (.inl ())))
def Bc(a:ae)(b:ah)(c:ah):Option Bool:=
 (bg (zG a b c) N0 0).bind fun d=>(match d with| .inl i=>some true| .inr g=>some g)
def M_q(k:ae)(j:List ah)(l:List Int)(d:Int×Int×Int×Int)(a:Int×Int×Int×Int):Option ((Int×Int×Int×Int)⊕(Int×Int×Int)):=
 cond (decide (a.2.2.2<(j.length:Int))) ((bR l d.2.2.2).bind fun g=>(bR j d.2.2.2).bind fun b=>(bR l a.2.2.2).bind fun i=>(bR j a.2.2.2).bind fun c=>(cond (d.2.2.2==a.2.2.2) (some true) (cond (decide ((IntKind.wrap .i64 (i*(c.F.length:Int)))<(IntKind.wrap .i64 (g*(b.F.length:Int))))) (some true) (cond ((IntKind.wrap .i64 (g*(b.F.length:Int)))==(IntKind.wrap .i64 (i*(c.F.length:Int)))) (cond (decide (a.2.2.2<d.2.2.2)) (some true) ((Bc k b c).bind fun m=>some (!m))) ((Bc k b c).bind fun p=>some (!p)))):Option Bool).bind fun q=>cond (q) (some (.inl (a.1,a.2.1,a.2.2.1,IntKind.wrap .i64 (a.2.2.2+1)))) ((cond (decide (a.1<0)) (some true) (some (decide ((IntKind.wrap .i64 ((IntKind.wrap .i64 (g*(b.F.length:Int)))+(IntKind.wrap .i64 (i*(c.F.length:Int)))))<a.2.2.1))):Option Bool).bind fun s=>cond (s) (some (.inl (d.2.2.2,a.2.2.2,IntKind.wrap .i64 ((IntKind.wrap .i64 (g*(b.F.length:Int)))+(IntKind.wrap .i64 (i*(c.F.length:Int)))),IntKind.wrap .i64 (a.2.2.2+1)))) (some (.inl (a.1,a.2.1,a.2.2.1,IntKind.wrap .i64 (a.2.2.2+1)))))) (some (.inr (a.1,a.2.1,a.2.2.1)))
def FG(g:ae)(d:List ah)(i:List Int)(a:Int×Int×Int×Int):Option ((Int×Int×Int×Int)⊕(Int×Int)):=
 cond (decide (a.2.2.2<(d.length:Int))) (((bg (M_q g d i a) N0 (a.1,a.2.1,a.2.2.1,0)).bind fun b=>some (b.1,b.2.1,b.2.2):Option (Int×Int×Int)).bind fun c=>some (.inl (c.1,c.2.1,c.2.2,IntKind.wrap .i64 (a.2.2.2+1)))) (some (.inr (a.1,a.2.1)))
def Dw(b:ae)(c:List ah)(d:List Int):Option (Int×Int):=
 (bg (FG b c d) N0 ((-1),(-1),0,0)).bind fun a=>some (a.1,a.2)
def PE(c:ah)(d:List ByteArray)(g:List ax)(b:List ah)(a:Int):Option (Int⊕Int):=
 cond (decide (0<a)) ((grd (0<=(IntKind.wrap .i64 (a-1))/\(IntKind.wrap .i64 (a-1))<(b.length:Int))).bind fun k=>(b[(Int.toNat (IntKind.wrap .i64 (a-1)))]?).bind fun i=>(Ah (⟨d,g⟩:ae) c i).bind fun j=>cond (decide (j<0)) (some (.inl (IntKind.wrap .i64 (a-1)))) (some (.inr a))) (some (.inr a))
def Pw(d:ah)(g:List ByteArray)(i:List ax)(l:Int)(a:List ah):Option (List ByteArray×List ax×Int×List ah×List ah):=
 (bg (PE d g i a) N0 (a.length:Int)).bind fun b=>(grd (True/\0<=b/\True/\Int.toNat b<=a.length)).bind fun q=>bnd (iq a 0 (Int.toNat b)) fun c=>(grd (c.length*32<=140737488355328)).bind fun s=>bnd ([d]) fun m=>(grd ((c.length+1)*32<=140737488355328)).bind fun t=>bnd (c++m) fun j=>(grd (0<=b/\True/\Int.toNat b<=a.length/\True)).bind fun u=>bnd (iq a (Int.toNat b) (a.length-(Int.toNat b))) fun k=>(grd ((j.length+k.length)*32<=140737488355328)).bind fun v=>bnd (j++k) fun p=>some (g,i,l,p,a)
def Bu(c:ah)(d:List ByteArray)(g:List ax)(b:List ah)(a:Int):Option (Int⊕Int):=
 cond (decide (0<a)) ((grd (0<=(IntKind.wrap .i64 (a-1))/\(IntKind.wrap .i64 (a-1))<(b.length:Int))).bind fun k=>(b[(Int.toNat (IntKind.wrap .i64 (a-1)))]?).bind fun i=>(Ah (⟨d,g⟩:ae) c i).bind fun j=>cond (decide (j<0)) (some (.inl (IntKind.wrap .i64 (a-1)))) (some (.inr a))) (some (.inr a))
def Fd(d:ah)(g:List ByteArray)(i:List ax)(l:Int)(a:List ah):Option (List ByteArray×List ax×Int×List ah×List ah):=
 (bg (Bu d g i a) N0 (a.length:Int)).bind fun b=>(grd (True/\0<=b/\True/\Int.toNat b<=a.length)).bind fun q=>bnd (iq a 0 (Int.toNat b)) fun c=>(grd (c.length*32<=140737488355328)).bind fun s=>bnd ([d]) fun m=>(grd ((c.length+1)*32<=140737488355328)).bind fun t=>bnd (c++m) fun j=>(grd (0<=b/\True/\Int.toNat b<=a.length/\True)).bind fun u=>bnd (iq a (Int.toNat b) (a.length-(Int.toNat b))) fun k=>(grd ((j.length+k.length)*32<=140737488355328)).bind fun v=>bnd (j++k) fun p=>some (g,i,l,p,a)
def JQ(j:Int)(k:List Int)(d:List Int)(l:Int->List ByteArray->List ax->Int->List ah->List Int->List Int->Option (List ByteArray×List ax×Int×List ah×List Int))(m:Int)(a:Int×List ByteArray×List ax×Int×List ah):Option ((Int×List ByteArray×List ax×Int×List ah)⊕(List ByteArray×List ax×Int×List ah)):=
 (cond (decide (a.1<(a.2.2.1.length:Int))) (some (decide ((a.2.2.2.2.length:Int)<=200))) (some false):Option Bool).bind fun p=>cond (p) ((Ci (⟨a.2.1,a.2.2.1⟩:ae) a.1 m).bind fun c=>(cond (decide (0<=c)) ((xf d c).bind fun q=>some (!q)) (some false):Option Bool).bind fun s=>cond (s) ((qx k).bind fun g=>bnd ([a.1]) fun t=>(grd ((g.length+1)*8<=140737488355328)).bind fun x=>bnd (g++t) fun u=>(qx d).bind fun i=>bnd ([c]) fun v=>(grd ((i.length+1)*8<=140737488355328)).bind fun y=>bnd (i++v) fun w=>(l j a.2.1 a.2.2.1 a.2.2.2.1 a.2.2.2.2 u w).bind fun b=>some (.inl (IntKind.wrap .i64 (a.1+1),b.1,b.2.1,b.2.2.1,b.2.2.2.1))) (some (.inl (IntKind.wrap .i64 (a.1+1),a.2.1,a.2.2.1,a.2.2.2.1,a.2.2.2.2)))) (some (.inr (a.2.1,a.2.2.1,a.2.2.2.1,a.2.2.2.2)))
def Ar(p:Int->List ByteArray->List ax->Int->List ah->List Int->List Int->Option (List ByteArray×List ax×Int×List ah×List Int))(g:Int)(i:List ByteArray)(j:List ax)(d:Int)(k:List ah)(l:List Int)(a:List Int):Option (List ByteArray×List ax×Int×List ah×List Int):=
 (grd (0<=(IntKind.wrap .i64 ((a.length:Int)-1))/\(IntKind.wrap .i64 ((a.length:Int)-1))<(a.length:Int))).bind fun q=>(a[(Int.toNat (IntKind.wrap .i64 ((a.length:Int)-1)))]?).bind fun m=>cond (m==d) ((Fd (⟨g,l⟩:ah) i j d k).bind fun b=>some (b.1,b.2.1,b.2.2.1,b.2.2.2.1,a)) ((bg (JQ g l a p m) N0 (0,i,j,d,k)).bind fun c=>some (c.1,c.2.1,c.2.2.1,c.2.2.2,a))
def wA:Nat->Int->List ByteArray->List ax->Int->List ah->List Int->List Int->Option (List ByteArray×List ax×Int×List ah×List Int)
 |0,_,_,_,_,_,_,_=>none
 |n+1,a,b,c,d,g,i,j=>Ar (wA n) a b c d g i j
def RI(j:Int)(d:List Int)(k:Int)(a:Int×List ByteArray×List ax×Int×List ah):Option ((Int×List ByteArray×List ax×Int×List ah)⊕(List ByteArray×List ax×Int×List ah)):=
 (cond (decide (a.1<(a.2.2.1.length:Int))) (some (decide ((a.2.2.2.2.length:Int)<=200))) (some false):Option Bool).bind fun l=>cond (l) ((Ci (⟨a.2.1,a.2.2.1⟩:ae) a.1 k).bind fun c=>(cond (decide (0<=c)) ((xf d c).bind fun m=>some (!m)) (some false):Option Bool).bind fun p=>cond (p) ((qx ([])).bind fun g=>bnd ([a.1]) fun q=>(grd ((g.length+1)*8<=140737488355328)).bind fun v=>bnd (g++q) fun s=>(qx d).bind fun i=>bnd ([c]) fun t=>(grd ((i.length+1)*8<=140737488355328)).bind fun w=>bnd (i++t) fun u=>(wA N0 j a.2.1 a.2.2.1 a.2.2.2.1 a.2.2.2.2 s u).bind fun b=>some (.inl (IntKind.wrap .i64 (a.1+1),b.1,b.2.1,b.2.2.1,b.2.2.2.1))) (some (.inl (IntKind.wrap .i64 (a.1+1),a.2.1,a.2.2.1,a.2.2.2.1,a.2.2.2.2)))) (some (.inr (a.2.1,a.2.2.1,a.2.2.2.1,a.2.2.2.2)))
def Ln(g:Int)(i:List ByteArray)(j:List ax)(d:Int)(a:List Int):Option (List ByteArray×List ax×Int×List ah×List Int):=
 (grd (0<=(IntKind.wrap .i64 ((a.length:Int)-1))/\(IntKind.wrap .i64 ((a.length:Int)-1))<(a.length:Int))).bind fun l=>(a[(Int.toNat (IntKind.wrap .i64 ((a.length:Int)-1)))]?).bind fun k=>cond (k==d) ((Pw (⟨g,[]⟩:ah) i j d ([])).bind fun b=>some (b.1,b.2.1,b.2.2.1,b.2.2.2.1,a)) ((bg (RI g a k) N0 (0,i,j,d,[])).bind fun c=>some (c.1,c.2.1,c.2.2.1,c.2.2.2,a))
def Cg(b:ae)(c:Int)(d:Int):Option (Bool×List ah):=
 bnd ([c]) fun g=>(Ln c ((b).N) ((b).F) d g).bind fun a=>cond (decide (200<(a.2.2.2.1.length:Int))) (some (false,[])) ((grd (a.2.2.2.1.length*32<=140737488355328)).bind fun i=>some (true,a.2.2.2.1))
def BD(g:ae)(i:aI)(j:List au)(b:Bool×List ah)(a:Int×List ah×List Int):Option ((Int×List ah×List Int)⊕(List ah×List Int)):=
 cond (decide (a.1<(b.2.length:Int))) ((grd (0<=a.1/\a.1<(b.2.length:Int))).bind fun s=>(b.2[(Int.toNat a.1)]?).bind fun c=>(wW g c).bind fun k=>(Ev j k ((i).F)).bind fun d=>cond (decide (0<d)) (bnd ([c]) fun l=>(grd ((a.2.1.length+1)*32<=140737488355328)).bind fun t=>bnd (a.2.1++l) fun m=>bnd ([d]) fun p=>(grd ((a.2.2.length+1)*8<=140737488355328)).bind fun u=>bnd (a.2.2++p) fun q=>some (.inl (IntKind.wrap .i64 (a.1+1),m,q))) (some (.inl (IntKind.wrap .i64 (a.1+1),a.2.1,a.2.2)))) (some (.inr (a.2.1,a.2.2)))
def Mr(c:ae)(a:aI)(b:List au):Option (Bool×List ah×List Int×List au):=
 (Cg c ((a).N) ((a).L)).bind fun d=>cond (!d.1) (some (false,[],[],b)) ((bg (BD c a b d) N0 (0,[],[])).bind fun g=>some (true,g.1,g.2,b))
def HF(b:ae)(d:aI)(c:List au):Option (Bool×List ah×List Int×List au):=
 ((FB b).bind fun g=>cond (!g) (some true) ((Kn c).bind fun i=>cond (!i) (some true) ((Ja b d).bind fun j=>some (!j))):Option Bool).bind fun k=>cond (k) (some (false,[],[],c)) ((Mr b d c).bind fun a=>some (a.1,a.2.1,a.2.2.1,a.2.2.2))
def xb(g:aI)(c:List ByteArray)(d:List ax)(i:List au):Option (ah×ah×Bool×List au):=
 (HF (⟨c,d⟩:ae) g i).bind fun a=>cond (!a.1) (some ((⟨0,[]⟩:ah),(⟨0,[]⟩:ah),false,a.2.2.2)) ((Dw (⟨c,d⟩:ae) a.2.1 a.2.2.1).bind fun b=>cond (decide (b.1<0)) (some ((⟨0,[]⟩:ah),(⟨0,[]⟩:ah),false,a.2.2.2)) ((grd (0<=b.1/\b.1<(a.2.1.length:Int))).bind fun l=>(a.2.1[(Int.toNat b.1)]?).bind fun j=>(grd (0<=b.2/\b.2<(a.2.1.length:Int))).bind fun m=>(a.2.1[(Int.toNat b.2)]?).bind fun k=>some (j,k,true,a.2.2.2)))
def M_b(a:Int)(b:Int)(c:Int):Option Bool:=
 cond (decide (b<=a)) (some (decide (a<=c))) (some false)
def Bq(c:List au)(a:Int):Option (Int⊕(Unit⊕Bool)):=
 cond (decide (a<(c.length:Int))) ((bR c a).bind fun b=>(M_b b.N 1 20000).bind fun g=>cond (!g) (some (.inr (.inr false))) ((M_b b.F 1 1000).bind fun i=>cond (!i) (some (.inr (.inr false))) (cond (decide (0<a)) ((bR c (IntKind.wrap .i64 (a-1))).bind fun d=>cond (decide (d.N<=b.N)) (some (.inr (.inr false))) (cond (decide (b.F<=d.F)) (some (.inr (.inr false))) (some (.inl (IntKind.wrap .i64 (a+1)))))) (some (.inl (IntKind.wrap .i64 (a+1))))))) (some (.inr (.inl ())))
def Cn(a:List au):Option Bool:=
 (bg (Bq a) N0 0).bind fun b=>(match b with| .inl g=>(M_b (a.length:Int) 1 6).bind fun c=>some c| .inr d=>some d)
def Ad(c:ByteArray)(b:Int):Option (Int⊕(Unit⊕Bool)):=
 cond (decide (b<(c.size:Int))) (((sD c b).bind fun a=>cond (decide (97<=(a.toNat:Int))) (cond (decide (48<=(a.toNat:Int))) (some (decide ((a.toNat:Int)<=122),decide ((a.toNat:Int)<=57))) (some (decide ((a.toNat:Int)<=122),false))) (cond (decide (48<=(a.toNat:Int))) (some (false,decide ((a.toNat:Int)<=57))) (some (false,false))):Option (Bool×Bool)).bind fun d=>cond (!d.1) (cond (!d.2) (some (.inr (.inr false))) (cond (b==0) (some (.inr (.inr false))) (some (.inl (IntKind.wrap .i64 (b+1)))))) (some (.inl (IntKind.wrap .i64 (b+1))))) (some (.inr (.inl ())))
def EB(a:ByteArray):Option Bool:=
 (bg (Ad a) N0 0).bind fun b=>(match b with| .inl g=>(M_b (a.size:Int) 1 8).bind fun c=>some c| .inr d=>some d)
def BE(b:List ByteArray)(c:ByteArray)(a:Int):Option (Int⊕(Unit⊕Int)):=
 cond (decide (a<(b.length:Int))) ((bR b a).bind fun d=>cond (c.toList==d.toList) (some (.inr (.inr a))) (some (.inl (IntKind.wrap .i64 (a+1))))) (some (.inr (.inl ())))
def LY(a:List ByteArray)(b:ByteArray):Option Int:=
 (bg (BE a b) N0 0).bind fun c=>(match c with| .inl g=>some (-1)| .inr d=>some d)
def HJ(a:List ByteArray)(b:ByteArray):Option Bool:=
 (LY a b).bind fun c=>some (decide (0<=c))
def sZ(a:Int):Option Bool:=
 some (a !=a)
def M_i(a:Int)(b:Int):Option Int:=
 (sZ a).bind fun d=>(sZ b).bind fun c=>cond (d) (cond (c) (some 0) (some (-1))) (cond (c) (some 1) (cond (decide (a<b)) (some (-1)) (cond (decide (b<a)) (some 1) (some 0))))
def M_j(b:List Int)(a:Int):Option (Int⊕(Unit⊕Int)):=
 cond (decide (a<(b.length:Int))) ((bR b a).bind fun c=>cond (c !=0) (some (.inr (.inr c))) (some (.inl (IntKind.wrap .i64 (a+1))))) (some (.inr (.inl ())))
def M_r(a:List Int):Option Int:=
 (bg (M_j a) N0 0).bind fun b=>(match b with| .inl d=>some 0| .inr c=>some c)
def FK(a:ax)(b:ax):Option Int:=
 (M_i a.A b.A).bind fun c=>(M_i a.B b.B).bind fun d=>(M_i a.N b.N).bind fun g=>(M_i a.F b.F).bind fun i=>bnd ([c,d,g,i]) fun j=>(M_r j).bind fun k=>some k
def zl(b:ae)(a:Int):Option (Int⊕(Unit⊕Bool)):=
 cond (decide (a<(b.N.length:Int))) ((bR b.N a).bind fun c=>(EB c).bind fun d=>cond (!d) (some (.inr (.inr false))) ((slT b.N a).bind fun g=>(HJ g c).bind fun i=>cond (i) (some (.inr (.inr false))) (some (.inl (IntKind.wrap .i64 (a+1)))))) (some (.inr (.inl ())))
def zH(c:ae)(b:Int):Option (Int⊕(Unit⊕Bool)):=
 cond (decide (b<(c.F.length:Int))) ((bR c.F b).bind fun a=>cond (decide (a.A<0)) (some (.inr (.inr false))) (cond (decide (a.B<=a.A)) (some (.inr (.inr false))) (cond (decide ((c.N.length:Int)<=a.B)) (some (.inr (.inr false))) ((M_b a.N 1 5000).bind fun d=>cond (!d) (some (.inr (.inr false))) ((M_b a.F 0 9).bind fun g=>cond (!g) (some (.inr (.inr false))) (cond (decide (0<b)) ((bR c.F (IntKind.wrap .i64 (b-1))).bind fun i=>(FK i a).bind fun j=>cond (decide (0<j)) (some (.inr (.inr false))) (some (.inl (IntKind.wrap .i64 (b+1))))) (some (.inl (IntKind.wrap .i64 (b+1)))))))))) (some (.inr (.inl ())))
def BG(a:ae):Option Bool:=
 (bg (zl a) N0 0).bind fun b=>(match b with| .inl j=>(bg (zH a) N0 0).bind fun c=>(match c with| .inl k=>(M_b (a.N.length:Int) 2 8).bind fun d=>cond (d) (some (decide ((a.F.length:Int)<=14))) (some false)| .inr g=>some g)| .inr i=>some i)
def DM(b:ae)(a:aI):Option Bool:=
 (M_b a.N 0 (IntKind.wrap .i64 ((b.N.length:Int)-1))).bind fun c=>cond (c) ((M_b a.L 0 (IntKind.wrap .i64 ((b.N.length:Int)-1))).bind fun d=>cond (d) (cond (a.N !=a.L) ((M_b a.F 1 1000).bind fun g=>cond (g) ((M_b a.P 0 2).bind fun i=>some i) (some false)) (some false)) (some false)) (some false)
def LH(a:aI)(p1Z0:ae):Option Bool:=
 (DM p1Z0 a).bind fun b=>some (!b)
def AL(b:List aI)(c:aI->Option Bool)(a:Int):Option (Int⊕(Unit⊕Int)):=
 cond (decide (a<(b.length:Int))) ((bR b a).bind fun d=>(c d).bind fun g=>cond (g) (some (.inr (.inr a))) (some (.inl (IntKind.wrap .i64 (a+1))))) (some (.inr (.inl ())))
def Kw(a:List aI)(b:aI->Option Bool):Option Int:=
 (bg (AL a b) N0 0).bind fun c=>(match c with| .inl g=>some (-1)| .inr d=>some d)
def FI(a:List aI)(b:aI->Option Bool):Option Bool:=
 (Kw a b).bind fun c=>some (decide (0<=c))
def Ff(a:ae)(b:List aI):Option Bool:=
 (BG a).bind fun c=>cond (c) (cond (decide ((b.length:Int)<=12)) ((FI b (fun x0=>LH x0 a)).bind fun d=>some (!d)) (some false)) (some false)
def LK(a:Int)(p1Z0:ae):Option Bool:=
 (M_b a 0 (IntKind.wrap .i64 ((p1Z0.N.length:Int)-1))).bind fun b=>some (!b)
def zU(b:List Int)(c:Int->Option Bool)(a:Int):Option (Int⊕(Unit⊕Int)):=
 cond (decide (a<(b.length:Int))) ((bR b a).bind fun d=>(c d).bind fun g=>cond (g) (some (.inr (.inr a))) (some (.inl (IntKind.wrap .i64 (a+1))))) (some (.inr (.inl ())))
def Ot(a:List Int)(b:Int->Option Bool):Option Int:=
 (bg (zU a b) N0 0).bind fun c=>(match c with| .inl g=>some (-1)| .inr d=>some d)
def JU(a:List Int)(b:Int->Option Bool):Option Bool:=
 (Ot a b).bind fun c=>some (decide (0<=c))
def Jr(a:ae)(b:List Int):Option Bool:=
 (BG a).bind fun c=>cond (c) ((JU b (fun x0=>LK x0 a)).bind fun d=>some (!d)) (some false)
def zV(a:List Int):Option (List Int):=
 cond (a.isEmpty) (amb (some ([])) ((grd (a.length*8<=140737488355328)).bind fun b=>some a)) ((grd (a.length*8<=140737488355328)).bind fun c=>some a)
def Bn(a:ax)(b:Int):Option Int:=
 cond (b==a.A) (some a.B) (cond (b==a.B) (some a.A) (some (-1)))
def M_x(j:Int)(d:Int)(g:List Int)(i:ae)(k:Int->Int->List Int->Int->List ah->Int->ae->Option (Int×List ah×Int×ae))(a:Int×Int×List ah×Int×ae):Option ((Int×Int×List ah×Int×ae)⊕(Int×List ah×Int×ae)):=
 cond (decide (a.1<(((i).F).length:Int))) ((bR ((i).F) a.1).bind fun l=>(Bn l j).bind fun b=>(cond (decide (0<=b)) ((grd (0<=b)).bind fun s=>some ((bits .and .i64 (Int.fdiv d (2^(min (Int.toNat b) (IntKind.bits .i64)))) 1)==0)) (some false):Option Bool).bind fun m=>cond (m) ((grd (0<=b)).bind fun t=>bnd ([a.1]) fun p=>(grd ((g.length+1)*8<=140737488355328)).bind fun u=>bnd (g++p) fun q=>(k b (bits .or .i64 d (IntKind.wrap .i64 (1*2^(min (Int.toNat b) (IntKind.bits .i64))))) q a.2.1 a.2.2.1 a.2.2.2.1 a.2.2.2.2).bind fun c=>some (.inl (IntKind.wrap .i64 (a.1+1),c.1,c.2.1,c.2.2.1,c.2.2.2))) (some (.inl (IntKind.wrap .i64 (a.1+1),a.2.1,a.2.2.1,a.2.2.2.1,a.2.2.2.2)))) (some (.inr (a.2.1,a.2.2.1,a.2.2.2.1,a.2.2.2.2)))
def Dx(k:Int->Int->List Int->Int->List ah->Int->ae->Option (Int×List ah×Int×ae))(i:Int)(l:Int)(j:List Int)(b:Int)(c:List ah)(d:Int)(g:ae):Option (Int×List ah×Int×ae):=
 cond (i==b) ((zV j).bind fun m=>bnd ([(⟨d,m⟩:ah)]) fun p=>(grd ((c.length+1)*32<=140737488355328)).bind fun s=>bnd (c++p) fun q=>some (b,q,d,g)) ((bg (M_x i l j g k) N0 (0,b,c,d,g)).bind fun a=>some (a.1,a.2.1,a.2.2.1,a.2.2.2))
def AR:Nat->Int->Int->List Int->Int->List ah->Int->ae->Option (Int×List ah×Int×ae)
 |0,_,_,_,_,_,_,_=>none
 |n+1,a,b,c,d,g,i,j=>Dx (AR n) a b c d g i j
def Rs(j:Int)(d:Int)(g:List Int)(i:ae)(a:Int×Int×List ah×Int×ae):Option ((Int×Int×List ah×Int×ae)⊕(Int×List ah×Int×ae)):=
 cond (decide (a.1<(((i).F).length:Int))) ((bR ((i).F) a.1).bind fun k=>(Bn k j).bind fun b=>(cond (decide (0<=b)) ((grd (0<=b)).bind fun q=>some ((bits .and .i64 (Int.fdiv d (2^(min (Int.toNat b) (IntKind.bits .i64)))) 1)==0)) (some false):Option Bool).bind fun l=>cond (l) ((grd (0<=b)).bind fun s=>bnd ([a.1]) fun m=>(grd ((g.length+1)*8<=140737488355328)).bind fun t=>bnd (g++m) fun p=>(AR N0 b (bits .or .i64 d (IntKind.wrap .i64 (1*2^(min (Int.toNat b) (IntKind.bits .i64))))) p a.2.1 a.2.2.1 a.2.2.2.1 a.2.2.2.2).bind fun c=>some (.inl (IntKind.wrap .i64 (a.1+1),c.1,c.2.1,c.2.2.1,c.2.2.2))) (some (.inl (IntKind.wrap .i64 (a.1+1),a.2.1,a.2.2.1,a.2.2.2.1,a.2.2.2.2)))) (some (.inr (a.2.1,a.2.2.1,a.2.2.2.1,a.2.2.2.2)))
def Og(i:Int)(k:Int)(j:List Int)(b:Int)(c:List ah)(d:Int)(g:ae):Option (Int×List ah×Int×ae):=
 cond (i==b) ((zV j).bind fun l=>bnd ([(⟨d,l⟩:ah)]) fun m=>(grd ((c.length+1)*32<=140737488355328)).bind fun q=>bnd (c++m) fun p=>some (b,p,d,g)) ((bg (Rs i k j g) N0 (0,b,c,d,g)).bind fun a=>some (a.1,a.2.1,a.2.2.1,a.2.2.2))
def PA(c:ae)(b:ah)(a:Int×Int):Option ((Int×Int)⊕Int):=
 cond (decide (a.2<(b.F.length:Int))) ((bR b.F a.2).bind fun d=>(bR c.F d).bind fun g=>some (.inl (IntKind.wrap .i64 (a.1+g.N),IntKind.wrap .i64 (a.2+1)))) (some (.inr a.1))
def wO(a:ae)(b:ah):Option Int:=
 (bg (PA a b) N0 (0,0)).bind fun c=>some c
def M_m(s1Z0:List Int)(s2Z0:List Int)(a:Int):Option (Int⊕(Unit⊕Int)):=
 cond (decide (a<(s1Z0.length:Int))) ((bR s1Z0 a).bind fun c=>cond (decide ((s2Z0.length:Int)<=a)) (some (.inr (.inr 1))) ((bR s2Z0 a).bind fun d=>(M_i c d).bind fun b=>cond (b !=0) (some (.inr (.inr b))) (some (.inl (IntKind.wrap .i64 (a+1)))))) (some (.inr (.inl ())))
def HU(s1Z0:List Int)(s2Z0:List Int):Option Int:=
 (bg (M_m s1Z0 s2Z0) N0 0).bind fun a=>(match a with| .inl c=>cond (decide ((s1Z0.length:Int)<(s2Z0.length:Int))) (some (-1)) (some 0)| .inr b=>some b)
def pe(c:ae)(a:ah)(b:ah):Option Int:=
 (wO c a).bind fun d=>(wO c b).bind fun g=>(M_i d g).bind fun i=>(M_i (a.F.length:Int) (b.F.length:Int)).bind fun j=>(HU a.F b.F).bind fun k=>(M_i a.N b.N).bind fun l=>bnd ([i,j,k,l]) fun m=>(M_r m).bind fun p=>some p
def wG(a:ah)(b:ah)(p2Z0:ae):Option Int:=
 (pe p2Z0 a b).bind fun c=>some c
def EN(b:ae)(a:Int)(c:Int):Option (List ah):=
 (cond (a !=c) ((grd (0<=a)).bind fun j=>(Og a (IntKind.wrap .i64 (1*2^(min (Int.toNat a) (IntKind.bits .i64)))) ([]) c ([]) a b).bind fun d=>some (d.2.2.2,d.2.1)) (some (b,[])):Option (ae×List ah)).bind fun g=>(mS (fun x0 x1=>wG x0 x1 g.1) g.2).bind fun i=>some i
def BM(c:ae)(a:Int)(b:Int):Option (List ah×Bool):=
 (bnd ([a,b]) fun g=>(Jr c g).bind fun i=>cond (!i) (some true) (some (a==b)):Option Bool).bind fun j=>cond (j) (some (([]),false)) ((EN c a b).bind fun d=>cond (decide (200<(d.length:Int))) (some (([]),false)) (some (d,true)))
def CV(b:List au)(c:Int)(a:Int):Option (Int⊕(Unit⊕(Int×Bool))):=
 cond (decide (0<=a)) ((bR b a).bind fun d=>cond (decide (c<=d.N)) (some (.inr (.inr (a,true)))) (some (.inl (IntKind.wrap .i64 (a-1))))) (some (.inr (.inl ())))
def EH(a:List au)(b:Int):Option (Int×Bool):=
 ((Cn a).bind fun c=>cond (!c) (some true) ((M_b b 0 20000).bind fun d=>some (!d)):Option Bool).bind fun g=>cond (g) (some (0,false)) ((bg (CV a b) N0 (IntKind.wrap .i64 ((a.length:Int)-1))).bind fun i=>(match i with| .inl k=>some (0,false)| .inr j=>some j))
def Ce(c:List au)(g:Int)(b:Int):Option (Int×Bool):=
 (EH c g).bind fun d=>(cond (!d.2) (some true) ((M_b b 1 1000).bind fun i=>some (!i)):Option Bool).bind fun j=>cond (j) (some (0,false)) ((bR c d.1).bind fun a=>(grd (a.F≠0)).bind fun k=>cond (decide (24<(IntKind.wrap .i64 (Int.tdiv (IntKind.wrap .i64 ((IntKind.wrap .i64 (b+a.F))-1)) a.F)))) (some (0,false)) (some ((IntKind.wrap .i64 (Int.tdiv (IntKind.wrap .i64 ((IntKind.wrap .i64 (b+a.F))-1)) a.F)),true)))
def M_s(g:ae)(i:List au)(j:aI)(b:List ah×Bool)(a:Int×List aA):Option ((Int×List aA)⊕(List aA)):=
 cond (decide (a.1<(b.1.length:Int))) ((grd (0<=a.1/\a.1<(b.1.length:Int))).bind fun p=>(b.1[(Int.toNat a.1)]?).bind fun c=>(wO g c).bind fun k=>(Ce i k j.F).bind fun d=>cond (d.2) (bnd ([(⟨(⟨c.N,c.F⟩:ah),d.1⟩:aA)]) fun l=>(grd ((a.2.length+1)*40<=140737488355328)).bind fun q=>bnd (a.2++l) fun m=>some (.inl (IntKind.wrap .i64 (a.1+1),m))) (some (.inl (IntKind.wrap .i64 (a.1+1),a.2)))) (some (.inr a.2))
def HW(b:ae)(c:List au)(a:aI):Option (List aA×Bool):=
 ((Cn c).bind fun g=>cond (!g) (some true) (bnd ([a]) fun i=>(Ff b i).bind fun j=>some (!j)):Option Bool).bind fun k=>cond (k) (some (([]),false)) ((BM b a.N a.L).bind fun d=>cond (!d.2) (some (([]),false)) ((bg (M_s b c a d) N0 (0,[])).bind fun l=>some (l,true)))
def Aa(b:ae)(c:Int×List (List Int))(a:Int×List Int):Option ((Int×List Int)⊕(List Int)):=
 cond (decide (a.1<(b.F.length:Int))) ((bR b.F a.1).bind fun d=>cond (d.F==c.1) (bnd ([a.1]) fun g=>(grd ((a.2.length+1)*8<=140737488355328)).bind fun j=>bnd (a.2++g) fun i=>some (.inl (IntKind.wrap .i64 (a.1+1),i))) (some (.inl (IntKind.wrap .i64 (a.1+1),a.2)))) (some (.inr a.2))
def zL(c:ae)(a:Int×List (List Int)):Option ((Int×List (List Int))⊕(List (List Int))):=
 cond (decide (a.1<=9)) ((bg (Aa c a) N0 (0,[])).bind fun b=>cond (decide (0<(b.length:Int))) (bnd ([b]) fun d=>(grd ((a.2.length+1)*24<=140737488355328)).bind fun i=>bnd (a.2++d) fun g=>some (.inl (IntKind.wrap .i64 (a.1+1),g))) (some (.inl (IntKind.wrap .i64 (a.1+1),a.2)))) (some (.inr a.2))
def Cl(b:ae)(a:Int×List (List Int)):Option ((Int×List (List Int))⊕(List (List Int))):=
 cond (decide (a.1<(b.F.length:Int))) ((bR b.F a.1).bind fun c=>cond (c.F==0) (bnd ([a.1]) fun d=>bnd ([d]) fun g=>(grd ((a.2.length+1)*24<=140737488355328)).bind fun j=>bnd (a.2++g) fun i=>some (.inl (IntKind.wrap .i64 (a.1+1),i))) (some (.inl (IntKind.wrap .i64 (a.1+1),a.2)))) (some (.inr a.2))
def IJ(a:ae):Option (List (List Int)):=
 (bg (zL a) N0 (1,[])).bind fun b=>(bg (Cl a) N0 (0,b)).bind fun c=>some c
def Ch(b:List Int)(c:Int)(a:Int):Option (Int⊕(Unit⊕Int)):=
 cond (decide (a<(b.length:Int))) ((bR b a).bind fun d=>cond (c==d) (some (.inr (.inr a))) (some (.inl (IntKind.wrap .i64 (a+1))))) (some (.inr (.inl ())))
def KI(a:List Int)(b:Int):Option Int:=
 (bg (Ch a b) N0 0).bind fun c=>(match c with| .inl g=>some (-1)| .inr d=>some d)
def zI(a:List Int)(b:Int):Option Bool:=
 (KI a b).bind fun c=>some (decide (0<=c))
def DR(a:List Int)(p1Z0:Int):Option Bool:=
 (zI a p1Z0).bind fun b=>some b
def CK(b:List (List Int))(c:(List Int)->Option Bool)(a:Int):Option (Int⊕(Unit⊕Int)):=
 cond (decide (a<(b.length:Int))) ((bR b a).bind fun d=>(c d).bind fun g=>cond (g) (some (.inr (.inr a))) (some (.inl (IntKind.wrap .i64 (a+1))))) (some (.inr (.inl ())))
def DA(a:List (List Int))(b:(List Int)->Option Bool):Option Int:=
 (bg (CK a b) N0 0).bind fun c=>(match c with| .inl g=>some (-1)| .inr d=>some d)
def GD(a:ae)(b:Int):Option Int:=
 (IJ a).bind fun c=>(DA c (fun x0=>DR x0 b)).bind fun d=>some d
def Ck(c:ae)(b:List Int)(a:Int×List Int):Option ((Int×List Int)⊕(List Int)):=
 cond (decide (a.1<(b.length:Int))) ((bR b a.1).bind fun d=>(GD c d).bind fun g=>bnd ([g]) fun i=>(grd ((a.2.length+1)*8<=140737488355328)).bind fun k=>bnd (a.2++i) fun j=>some (.inl (IntKind.wrap .i64 (a.1+1),j))) (some (.inr a.2))
def zN(a:ae)(b:List Int):Option (List Int):=
 (bg (Ck a b) N0 (0,[])).bind fun c=>some c
def QU(c:Int):Option Int:=
 (cond (decide (4294967296<=c)) (some (Int.fdiv c (2^(min (Int.toNat 32) (IntKind.bits .u64))),32)) (some (c,0)):Option (Int×Int)).bind fun a=>(cond (decide (65536<=a.1)) (some (Int.fdiv a.1 (2^(min (Int.toNat 16) (IntKind.bits .u64))),IntKind.wrap .i64 (a.2+16))) (some (a.1,a.2)):Option (Int×Int)).bind fun b=>(cond (decide (256<=b.1)) (some (Int.fdiv b.1 (2^(min (Int.toNat 8) (IntKind.bits .u64))),IntKind.wrap .i64 (b.2+8))) (some (b.1,b.2)):Option (Int×Int)).bind fun d=>(sD (⟨#[0,1,2,2,3,3,3,3,4,4,4,4,4,4,4,4,5,5,5,5,5,5,5,5,5,5,5,5,5,5,5,5,6,6,6,6,6,6,6,6,6,6,6,6,6,6,6,6,6,6,6,6,6,6,6,6,6,6,6,6,6,6,6,6,7,7,7,7,7,7,7,7,7,7,7,7,7,7,7,7,7,7,7,7,7,7,7,7,7,7,7,7,7,7,7,7,7,7,7,7,7,7,7,7,7,7,7,7,7,7,7,7,7,7,7,7,7,7,7,7,7,7,7,7,7,7,7,7,8,8,8,8,8,8,8,8,8,8,8,8,8,8,8,8,8,8,8,8,8,8,8,8,8,8,8,8,8,8,8,8,8,8,8,8,8,8,8,8,8,8,8,8,8,8,8,8,8,8,8,8,8,8,8,8,8,8,8,8,8,8,8,8,8,8,8,8,8,8,8,8,8,8,8,8,8,8,8,8,8,8,8,8,8,8,8,8,8,8,8,8,8,8,8,8,8,8,8,8,8,8,8,8,8,8,8,8,8,8,8,8,8,8,8,8,8,8,8,8,8,8,8,8,8,8,8,8]⟩:ByteArray) (IntKind.wrap .u8 d.1)).bind fun g=>some (IntKind.wrap .i64 (d.2+(IntKind.wrap .i64 (g.toNat:Int))))
def IY(a:Int):Option Int:=
 (QU a).bind fun b=>some b
def Dv(a:Int)(b:Int):Option Bool:=
 (sZ a).bind fun c=>cond (c) ((sZ b).bind fun d=>cond (!d) (some true) (some (decide (a<b)))) (some (decide (a<b)))
def M_l(c:Int)(a:Int×List Int):Option ((Int×List Int)⊕(List Int)):=
 (cond (decide (c<a.1)) ((grd (0<=a.1/\a.1<(a.2.length:Int))).bind fun p=>(a.2[(Int.toNat a.1)]?).bind fun d=>(grd (0<=(IntKind.wrap .i64 (a.1-1))/\(IntKind.wrap .i64 (a.1-1))<(a.2.length:Int))).bind fun q=>(a.2[(Int.toNat (IntKind.wrap .i64 (a.1-1)))]?).bind fun g=>(Dv d g).bind fun i=>some i) (some false):Option Bool).bind fun j=>cond (j) ((grd (0<=(IntKind.wrap .i64 (a.1-1))/\(IntKind.wrap .i64 (a.1-1))<(a.2.length:Int))).bind fun s=>(a.2[(Int.toNat (IntKind.wrap .i64 (a.1-1)))]?).bind fun k=>(grd (0<=a.1/\a.1<(a.2.length:Int))).bind fun t=>(a.2[(Int.toNat a.1)]?).bind fun l=>bnd (a.2.set (Int.toNat a.1) k) fun b=>(b[(Int.toNat (IntKind.wrap .i64 (a.1-1)))]?).bind fun u=>bnd (b.set (Int.toNat (IntKind.wrap .i64 (a.1-1))) l) fun m=>some (.inl (IntKind.wrap .i64 (a.1-1),m))) (some (.inr a.2))
def M_t(b:Int)(c:Int)(a:Int×List Int):Option ((Int×List Int)⊕(List Int)):=
 cond (decide (a.1<c)) (((bg (M_l b) N0 (a.1,a.2)).bind fun d=>some d:Option (List Int)).bind fun g=>some (.inl (IntKind.wrap .i64 (a.1+1),g))) (some (.inr a.2))
def DQ(a:Int)(b:Int)(c:List Int):Option (List Int):=
 (bg (M_t a b) N0 (IntKind.wrap .i64 (a+1),c)).bind fun d=>some d
def NT(a:Int)(b:Int)(c:Int)(d:List Int)(i:Unit):Option (Unit⊕(Empty⊕(List Int))):=
 cond (decide ((IntKind.wrap .i64 (b-a))<=12)) ((DQ a b d).bind fun g=>some (.inr (.inr g))) (cond (c==0) (none) (none))
def Ml(a:Int)(b:Int)(c:Int)(d:List Int):Option (List Int):=
 (bg (NT a b c d) N0 ()).bind fun g=>(match g with| .inl i=>(i.elim)| .inr j=>some j)
def HL(a:List Int):Option (List Int):=
 (IY (IntKind.wrap .u64 (a.length:Int))).bind fun b=>(Ml 0 (a.length:Int) b a).bind fun c=>some c
def M_o(c:Nat)(d:Nat)(b:Int)(a:Int×Int×List Int):Option ((Int×Int×List Int)⊕(Int×List Int)):=
 cond (decide (a.2.1<(((d-(Int.toNat b)):Nat):Int))) ((grd (0<=a.2.1/\a.2.1<(((d-(Int.toNat b)):Nat):Int))).bind fun k=>(a.2.2[((c+(Int.toNat b))+(Int.toNat a.2.1))]?).bind fun g=>(grd (0<=(IntKind.wrap .i64 (a.2.1-1))/\(IntKind.wrap .i64 (a.2.1-1))<(((d-(Int.toNat b)):Nat):Int))).bind fun l=>(a.2.2[((c+(Int.toNat b))+(Int.toNat (IntKind.wrap .i64 (a.2.1-1))))]?).bind fun i=>cond (g !=i) ((grd (0<=a.1/\a.1<(d:Int))).bind fun m=>(a.2.2[(c+(Int.toNat a.1))]?).bind fun p=>bnd (a.2.2.set (c+(Int.toNat a.1)) g) fun j=>some (.inl (IntKind.wrap .i64 (a.1+1),IntKind.wrap .i64 (a.2.1+1),j))) (some (.inl (a.1,IntKind.wrap .i64 (a.2.1+1),a.2.2)))) (some (.inr (a.1,a.2.2)))
def M_w(d:Nat)(b:Nat)(g:List Int)(a:Int):Option (Int⊕(Unit⊕(Nat×Nat×List Int))):=
 cond (decide (a<(b:Int))) ((grd (0<=a/\a<(b:Int))).bind fun l=>(g[(d+(Int.toNat a))]?).bind fun i=>(grd (0<=(IntKind.wrap .i64 (a-1))/\(IntKind.wrap .i64 (a-1))<(b:Int))).bind fun m=>(g[(d+(Int.toNat (IntKind.wrap .i64 (a-1))))]?).bind fun j=>cond (i==j) ((grd (0<=a/\True/\Int.toNat a<=b/\True)).bind fun p=>(bg (M_o d b a) N0 (a,1,g)).bind fun c=>(grd (0<=c.1/\True/\Int.toNat c.1<=b/\True)).bind fun q=>bnd (dA c.2 (d+(Int.toNat c.1)) (List.replicate (b-(Int.toNat c.1)) 0)) fun k=>(grd (True/\0<=c.1/\True/\Int.toNat c.1<=b)).bind fun s=>some (.inr (.inr (d,(Int.toNat c.1),k)))) (some (.inl (IntKind.wrap .i64 (a+1))))) (some (.inr (.inl ())))
def DL(b:Nat)(a:Nat)(c:List Int):Option (Nat×Nat×List Int):=
 cond (decide ((a:Int)<2)) (some (b,a,c)) ((bg (M_w b a c) N0 1).bind fun d=>(match d with| .inl i=>some (b,a,c)| .inr g=>some g))
def xB(b:List Int)(d:List Int)(a:Int×List Int):Option ((Int×List Int)⊕(List Int)):=
 cond (decide (a.1<(b.length:Int))) ((bR b a.1).bind fun c=>(zI d c).bind fun g=>cond (g) (bnd ([c]) fun i=>(grd ((a.2.length+1)*8<=140737488355328)).bind fun k=>bnd (a.2++i) fun j=>some (.inl (IntKind.wrap .i64 (a.1+1),j))) (some (.inl (IntKind.wrap .i64 (a.1+1),a.2)))) (some (.inr a.2))
def Ie(c:List Int)(d:List Int):Option (List Int):=
 (bg (xB c d) N0 (0,[])).bind fun b=>(HL b).bind fun g=>(DL 0 b.length g).bind fun a=>bnd (iq a.2.2 a.1 a.2.1) fun i=>some i
def Ag(a:ae)(b:List Int)(c:List Int):Option Bool:=
 (zN a b).bind fun d=>(zN a c).bind fun g=>(Ie d g).bind fun i=>some ((i.length:Int)==0)
def M_e(a:aA):Option Int:=
 some (IntKind.wrap .i64 (a.N*(a.F.F.length:Int)))
def M_u(g:ae)(i:List aA×Bool)(j:Bool×Int×aA×aA)(c:aA)(a:Bool×Int×aA×aA):Option ((Bool×Int×aA×aA)⊕(Bool×aA×aA)):=
 cond (decide (a.2.1<(((i.1.length-(Int.toNat (IntKind.wrap .i64 (j.2.1+1)))):Nat):Int))) ((grd (0<=a.2.1/\a.2.1<(((i.1.length-(Int.toNat (IntKind.wrap .i64 (j.2.1+1)))):Nat):Int))).bind fun g1=>(i.1[((Int.toNat (IntKind.wrap .i64 (j.2.1+1)))+(Int.toNat a.2.1))]?).bind fun d=>(Ag g c.F.F d.F.F).bind fun l=>cond (!l) (some (.inl (a.1,IntKind.wrap .i64 (a.2.1+1),a.2.2.1,a.2.2.2))) (((M_e d).bind fun m=>(M_e c).bind fun p=>cond (decide (m<p)) (some (d,c)) (some (c,d)):Option (aA×aA)).bind fun b=>(M_e b.1).bind fun q=>(M_e b.2).bind fun s=>(M_e a.2.2.1).bind fun t=>(M_e a.2.2.2).bind fun u=>(M_i (IntKind.wrap .i64 (q+s)) (IntKind.wrap .i64 (t+u))).bind fun v=>bnd ([v,0]) fun w=>(M_r w).bind fun k=>((cond (a.1) (some (k==0)) (some false):Option Bool).bind fun x=>cond (x) ((pe g b.1.F a.2.2.1.F).bind fun y=>(pe g b.2.F a.2.2.2.F).bind fun z=>bnd ([y,z]) fun a1=>(M_r a1).bind fun b1=>some b1) (some k):Option Int).bind fun c1=>(cond (!a.1) (some true) (some (decide (c1<0))):Option Bool).bind fun d1=>cond (d1) (some (.inl (true,IntKind.wrap .i64 (a.2.1+1),b.1,b.2))) (some (.inl (a.1,IntKind.wrap .i64 (a.2.1+1),a.2.2.1,a.2.2.2))))) (some (.inr (a.1,a.2.2.1,a.2.2.2)))
def M_n(g:ae)(b:List aA×Bool)(a:Bool×Int×aA×aA):Option ((Bool×Int×aA×aA)⊕(Bool×aA×aA)):=
 cond (decide (a.2.1<(b.1.length:Int))) (((grd (0<=a.2.1/\a.2.1<(b.1.length:Int))).bind fun j=>(b.1[(Int.toNat a.2.1)]?).bind fun i=>(grd (0<=(IntKind.wrap .i64 (a.2.1+1))/\True/\Int.toNat (IntKind.wrap .i64 (a.2.1+1))<=b.1.length/\True)).bind fun k=>(bg (M_u g b a i) N0 (a.1,0,a.2.2.1,a.2.2.2)).bind fun c=>some (c.1,c.2.1,c.2.2):Option (Bool×aA×aA)).bind fun d=>some (.inl (d.1,IntKind.wrap .i64 (a.2.1+1),d.2.1,d.2.2))) (some (.inr (a.1,a.2.2.1,a.2.2.2)))
def HI(b:ae)(d:List au)(g:aI):Option (aA×aA×Bool):=
 (HW b d g).bind fun c=>cond (!c.2) (some ((⟨(⟨0,[]⟩:ah),0⟩:aA),(⟨(⟨0,[]⟩:ah),0⟩:aA),false)) ((bg (M_n b c) N0 (false,0,(⟨(⟨0,[]⟩:ah),0⟩:aA),(⟨(⟨0,[]⟩:ah),0⟩:aA))).bind fun a=>some (a.2.1,a.2.2,a.1))
def uR(b:ae)(c:List au)(d:aI):Option (ah×ah×Bool):=
 (HI b c d).bind fun a=>some ((⟨a.1.F.N,a.1.F.F⟩:ah),(⟨a.2.1.F.N,a.2.1.F.F⟩:ah),a.2.2)
def BL(b:List Int)(c:List Int)(a:Int):Option (Int⊕(Unit⊕Bool)):=
 cond (decide (a<(b.length:Int))) ((bR b a).bind fun d=>(bR c a).bind fun g=>cond (d !=g) (some (.inr (.inr false))) (some (.inl (IntKind.wrap .i64 (a+1))))) (some (.inr (.inl ())))
def FZ(a:List Int)(b:List Int):Option Bool:=
 cond ((a.length:Int) !=(b.length:Int)) (some false) ((bg (BL a b) N0 0).bind fun c=>(match c with| .inl g=>some true| .inr d=>some d))
def pW(a:ah)(b:ah):Option Bool:=
 cond (a.N !=b.N) (some false) ((FZ a.F b.F).bind fun c=>cond (!c) (some false) (some true))
def AN(b:List ByteArray)(c:List ByteArray)(a:Int):Option (Int⊕(Unit⊕Bool)):=
 cond (decide (a<(b.length:Int))) ((bR b a).bind fun d=>(bR c a).bind fun g=>cond (!(d.toList==g.toList)) (some (.inr (.inr false))) (some (.inl (IntKind.wrap .i64 (a+1))))) (some (.inr (.inl ())))
def Ka(a:List ByteArray)(b:List ByteArray):Option Bool:=
 cond ((a.length:Int) !=(b.length:Int)) (some false) ((bg (AN a b) N0 0).bind fun c=>(match c with| .inl g=>some true| .inr d=>some d))
def zA(a:ax)(b:ax):Option Bool:=
 cond (a.A !=b.A) (some false) (cond (a.B !=b.B) (some false) (cond (a.N !=b.N) (some false) (cond (a.F !=b.F) (some false) (some true))))
def Bx(b:List ax)(c:List ax)(a:Int):Option (Int⊕(Unit⊕Bool)):=
 cond (decide (a<(b.length:Int))) ((bR b a).bind fun d=>(bR c a).bind fun g=>(zA d g).bind fun i=>cond (!i) (some (.inr (.inr false))) (some (.inl (IntKind.wrap .i64 (a+1))))) (some (.inr (.inl ())))
def Dp(a:List ax)(b:List ax):Option Bool:=
 cond ((a.length:Int) !=(b.length:Int)) (some false) ((bg (Bx a b) N0 0).bind fun c=>(match c with| .inl g=>some true| .inr d=>some d))
def Jw(a:ae)(b:ae):Option Bool:=
 (Ka a.N b.N).bind fun c=>cond (!c) (some false) ((Dp a.F b.F).bind fun d=>cond (!d) (some false) (some true))
def Bz(a:au)(b:au):Option Bool:=
 cond (a.N !=b.N) (some false) (cond (a.F !=b.F) (some false) (some true))
def zr(b:List au)(c:List au)(a:Int):Option (Int⊕(Unit⊕Bool)):=
 cond (decide (a<(b.length:Int))) ((bR b a).bind fun d=>(bR c a).bind fun g=>(Bz d g).bind fun i=>cond (!i) (some (.inr (.inr false))) (some (.inl (IntKind.wrap .i64 (a+1))))) (some (.inr (.inl ())))
def GJ(a:List au)(b:List au):Option Bool:=
 cond ((a.length:Int) !=(b.length:Int)) (some false) ((bg (zr a b) N0 0).bind fun c=>(match c with| .inl g=>some true| .inr d=>some d))
def AC(a:Int×ByteArray):Option ((Int×ByteArray)⊕ByteArray):=
 cond (decide (0<a.1)) ((grd (10≠0)).bind fun c=>bnd ([IntKind.wrap .u8 (IntKind.wrap .i64 (48+(Int.tmod a.1 10)))]) fun b=>(grd ((b2s b).size+a.2.size<=9223372036854775807)).bind fun d=>(grd (10≠0)).bind fun g=>some (.inl (IntKind.wrap .i64 (Int.tdiv a.1 10),(b2s b)++a.2))) (some (.inr a.2))
def xw(a:Int):Option ByteArray:=
 cond (decide (a<=0)) (some (⟨#[109,48]⟩:ByteArray)) ((bg (AC) N0 (a,(⟨#[]⟩:ByteArray))).bind fun b=>(grd ((⟨#[109]⟩:ByteArray).size+b.size<=9223372036854775807)).bind fun c=>some ((⟨#[109]⟩:ByteArray)++b))
def zD(a:Int×Int×List ByteArray):Option ((Int×Int×List ByteArray)⊕(Int×List ByteArray)):=
 cond (decide (a.2.1<(a.2.2.length:Int))) ((xw a.1).bind fun b=>(grd (0<=a.2.1/\a.2.1<(a.2.2.length:Int))).bind fun d=>(a.2.2[(Int.toNat a.2.1)]?).bind fun g=>bnd (a.2.2.set (Int.toNat a.2.1) b) fun c=>some (.inl (IntKind.wrap .i64 (a.1+1),IntKind.wrap .i64 (a.2.1+1),c))) (some (.inr (a.1,a.2.2)))
def FY(b:Int)(c:List ByteArray):Option (Int×List ByteArray):=
 (bg (zD) N0 (b,0,c)).bind fun a=>some (a.1,a.2)
def zR(a:Int×Int×List ax):Option ((Int×Int×List ax)⊕(Int×List ax)):=
 cond (decide (a.2.1<(a.2.2.length:Int))) ((grd (0<=a.2.1/\a.2.1<(a.2.2.length:Int))).bind fun m=>(a.2.2[(Int.toNat a.2.1)]?).bind fun b=>bnd (a.2.2.set (Int.toNat a.2.1) (⟨a.1,b.B,b.N,b.F⟩:ax)) fun i=>(i[(Int.toNat a.2.1)]?).bind fun c=>bnd (i.set (Int.toNat a.2.1) (⟨c.A,IntKind.wrap .i64 (a.1+1),c.N,c.F⟩:ax)) fun j=>(j[(Int.toNat a.2.1)]?).bind fun d=>bnd (j.set (Int.toNat a.2.1) (⟨d.A,d.B,IntKind.wrap .i64 ((IntKind.wrap .i64 (a.1+1))+1),d.F⟩:ax)) fun k=>(k[(Int.toNat a.2.1)]?).bind fun g=>bnd (k.set (Int.toNat a.2.1) (⟨g.A,g.B,g.N,IntKind.wrap .i64 ((IntKind.wrap .i64 ((IntKind.wrap .i64 (a.1+1))+1))+1)⟩:ax)) fun l=>some (.inl (IntKind.wrap .i64 ((IntKind.wrap .i64 ((IntKind.wrap .i64 ((IntKind.wrap .i64 (a.1+1))+1))+1))+1),IntKind.wrap .i64 (a.2.1+1),l))) (some (.inr (a.1,a.2.2)))
def HG(b:Int)(c:List ax):Option (Int×List ax):=
 (bg (zR) N0 (b,0,c)).bind fun a=>some (a.1,a.2)
def CR(c:Int)(d:List ByteArray)(g:List ax):Option (Int×List ByteArray×List ax):=
 (FY c d).bind fun a=>(HG a.1 g).bind fun b=>some (b.1,a.2,b.2)
def BB(a:Int×Int×List au):Option ((Int×Int×List au)⊕(Int×List au)):=
 cond (decide (a.2.1<(a.2.2.length:Int))) ((grd (0<=a.2.1/\a.2.1<(a.2.2.length:Int))).bind fun i=>(a.2.2[(Int.toNat a.2.1)]?).bind fun c=>bnd (a.2.2.set (Int.toNat a.2.1) (⟨a.1,c.F⟩:au)) fun b=>(b[(Int.toNat a.2.1)]?).bind fun d=>bnd (b.set (Int.toNat a.2.1) (⟨d.N,IntKind.wrap .i64 (a.1+1)⟩:au)) fun g=>some (.inl (IntKind.wrap .i64 ((IntKind.wrap .i64 (a.1+1))+1),IntKind.wrap .i64 (a.2.1+1),g))) (some (.inr (a.1,a.2.2)))
def Hg(b:Int)(c:List au):Option (Int×List au):=
 (bg (BB) N0 (b,0,c)).bind fun a=>some (a.1,a.2)
def Cw(a:Int×Int×List Int):Option ((Int×Int×List Int)⊕(Int×List Int)):=
 cond (decide (a.2.1<(a.2.2.length:Int))) ((grd (0<=a.2.1/\a.2.1<(a.2.2.length:Int))).bind fun c=>(a.2.2[(Int.toNat a.2.1)]?).bind fun d=>bnd (a.2.2.set (Int.toNat a.2.1) a.1) fun b=>some (.inl (IntKind.wrap .i64 (a.1+1),IntKind.wrap .i64 (a.2.1+1),b))) (some (.inr (a.1,a.2.2)))
def Ii(b:Int)(c:List Int):Option (Int×List Int):=
 (bg (Cw) N0 (b,0,c)).bind fun a=>some (a.1,a.2)
def zK(d:Int)(b:Int)(c:List Int):Option (Int×List Int):=
 (Ii b c).bind fun a=>some (a.1,a.2)
def Aj(b:List Int)(a:Int×Int):Option ((Int×Int)⊕(Int⊕Int)):=
 cond (decide (a.2<(b.length:Int))) ((bR b a.2).bind fun c=>cond (c !=a.1) (some (.inr (.inr (-1)))) (some (.inl (IntKind.wrap .i64 (a.1+1),IntKind.wrap .i64 (a.2+1))))) (some (.inr (.inl a.1)))
def AX(a:List Int)(b:Int):Option Int:=
 (bg (Aj a) N0 (b,0)).bind fun c=>(match c with| .inl d=>some d| .inr g=>some g)
def pV(b:ah)(c:Int):Option Int:=
 (AX b.F c).bind fun a=>cond (decide (a<0)) (some (-1)) (some a)
def Ma(d:ae)(g:List au)(j:aI):Option Bool:=
 (Gn d 1048576).bind fun m=>cond (decide (m<0)) (some true) ((Hq g m).bind fun a1=>cond (decide (a1<0)) (some true) ((tz d).bind fun p=>(ug g).bind fun b1=>(ve j).bind fun c1=>(xb c1 p.N p.F b1).bind fun b=>(tz d).bind fun c=>(ug g).bind fun k=>(ve j).bind fun d1=>(uR (⟨c.N,c.F⟩:ae) k d1).bind fun a=>((pW (⟨a.1.N,a.1.F⟩:ah) b.1).bind fun g1=>cond (!g1) (some true) ((pW (⟨a.2.1.N,a.2.1.F⟩:ah) b.2.1).bind fun i1=>cond (!i1) (some true) (some (!(a.2.2==b.2.2.1)))):Option Bool).bind fun j1=>cond (j1) (some false) ((tz d).bind fun q=>(Jw (⟨c.N,c.F⟩:ae) (⟨q.N,q.F⟩:ae)).bind fun k1=>cond (!k1) (some false) ((ug g).bind fun l1=>(GJ k l1).bind fun m1=>cond (!m1) (some false) ((CR 1 c.N c.F).bind fun p1=>(Hg p1.1 k).bind fun q1=>(cond (decide (q1.1<0)) (some true) ((pW (⟨a.1.N,a.1.F⟩:ah) b.1).bind fun s1=>cond (!s1) (some true) ((pW (⟨a.2.1.N,a.2.1.F⟩:ah) b.2.1).bind fun t1=>cond (!t1) (some true) (some (!(a.2.2==b.2.2.1))))):Option Bool).bind fun u1=>cond (u1) (some false) ((zK a.1.N 1 a.1.F).bind fun s=>(zK a.2.1.N s.1 a.2.1.F).bind fun l=>bnd (iq s.2 0 a.1.F.length) fun t=>(pV (⟨a.1.N,t⟩:ah) 1).bind fun u=>cond (decide (u<0)) (some false) (bnd (iq l.2 0 a.2.1.F.length) fun v=>(pV (⟨a.2.1.N,v⟩:ah) u).bind fun w=>cond (decide (w<0)) (some false) (cond (w !=l.1) (some false) ((tz d).bind fun x=>(ug g).bind fun v1=>(ve j).bind fun w1=>(uR (⟨x.N,x.F⟩:ae) v1 w1).bind fun i=>((pW (⟨i.1.N,i.1.F⟩:ah) b.1).bind fun y1=>cond (!y1) (some true) ((pW (⟨i.2.1.N,i.2.1.F⟩:ah) b.2.1).bind fun z1=>cond (!z1) (some true) (some (!(i.2.2==b.2.2.1)))):Option Bool).bind fun a2=>cond (a2) (some false) ((pV (⟨a.1.N,t⟩:ah) 1).bind fun y=>cond (decide (y<0)) (some false) ((pV (⟨a.2.1.N,v⟩:ah) y).bind fun z=>cond (decide (z<0)) (some false) (cond (z !=l.1) (some false) (some true)))))))))))))
end Vs

namespace Vs
open Go
structure bA(H:World->Prop) where
 N:Int
 F:Raw H
structure ar(H:World->Prop) where
 F:bA H
 N:Int
def bA.un{H:World->Prop}(x:bA H):ah:=⟨x.N,x.F.l⟩
def ar.un{H:World->Prop}(x:ar H):aA:=⟨x.F.un,x.N⟩
def ar.zero{H:World->Prop}:ar H:=⟨⟨0,Raw.none⟩,0⟩
def aY{H:World->Prop}(_:Fl)(x:bA H):AV:=.agg [.i x.N,.sc x.F.v]
def aM{H:World->Prop}(_:Fl)(x:ar H):AV:=.agg [.i x.F.N,.sc x.F.F.v,.i x.N]
theorem rV:∀{H:World->Prop}(f:Fl)(x:bA H),aY f x=.agg [.i x.N,.sc x.F.v]:=fun _ _=>rfl
theorem kz:∀{H:World->Prop}(f:Fl)(x:bA H),(aY f x).nrm=aY .o x:=fun _ _=>by simp[aY,AV.nrm,fQ]
theorem nX:∀{H:World->Prop}(f:Fl)(xs:List (bA H)),(xs.map (aY f)).map AV.nrm=xs.map (aY .o):=fun _ _=>by simp[kz]
theorem hU:∀{H:World->Prop}(f:Fl)(x:bA H),(aY f x).als=aY (f.als) x:=fun _ _=>by simp[aY,AV.als,da]
theorem pL:∀{H:World->Prop}(f:Fl)(xs:List (bA H)),(xs.map (aY f)).map AV.als=xs.map (aY (f.als)):=fun _ _=>by simp[hU]
theorem kA:∀{H:World->Prop}(f:Fl)(x:bA H),(aY f x).fix=aY (f.fix) x:=fun _ _=>by simp[aY,AV.fix,fJ]
theorem oy:∀{H:World->Prop}(f:Fl)(xs:List (bA H)),(xs.map (aY f)).map AV.fix=xs.map (aY (f.fix)):=fun _ _=>by simp[kA]
theorem pP:∀{H:World->Prop}(f:Fl),AV.als∘(aY (H:=H) f)=aY f.als:=fun _=>by funext x;simp[hU]
theorem qt:∀{H:World->Prop}(f:Fl)(x:ar H),aM f x=.agg [.i x.F.N,.sc x.F.F.v,.i x.N]:=fun _ _=>rfl
theorem jE:∀{H:World->Prop}(f:Fl)(x:ar H),(aM f x).nrm=aM .o x:=fun _ _=>by simp[aM,AV.nrm,fQ]
theorem nk:∀{H:World->Prop}(f:Fl)(xs:List (ar H)),(xs.map (aM f)).map AV.nrm=xs.map (aM .o):=fun _ _=>by simp[jE]
theorem gn:∀{H:World->Prop}(f:Fl)(x:ar H),(aM f x).als=aM (f.als) x:=fun _ _=>by simp[aM,AV.als,da]
theorem no:∀{H:World->Prop}(f:Fl)(xs:List (ar H)),(xs.map (aM f)).map AV.als=xs.map (aM (f.als)):=fun _ _=>by simp[gn]
theorem jL:∀{H:World->Prop}(f:Fl)(x:ar H),(aM f x).fix=aM (f.fix) x:=fun _ _=>by simp[aM,AV.fix,fJ]
theorem ni:∀{H:World->Prop}(f:Fl)(xs:List (ar H)),(xs.map (aM f)).map AV.fix=xs.map (aM (f.fix)):=fun _ _=>by simp[jL]
theorem nh:∀{H:World->Prop}(f:Fl),AV.als∘(aM (H:=H) f)=aM f.als:=fun _=>by funext x;simp[gn]
theorem Raw.none_v:∀{H:World->Prop},(Raw.none (H:=H)).v=.slice .none 0 0:=rfl
theorem Rx:∀(H:World->Prop)(P:Program),(OkT H P).p=OkR H P:=fun _ _=>rfl
def bZ{H:World->Prop}(nZ0:ae)(formatsZ0:List au)(dZ0:aI)(rZ10:List (bA H)×Bool)(sZ12:Int×List (ar H)):Option ((Int×List (ar H))⊕(List (ar H))):=
 cond (decide (sZ12.1<(rZ10.1.length:Int))) ((grd (0<=sZ12.1/\sZ12.1<(rZ10.1.length:Int))).bind fun kZ14=>(rZ10.1[(Int.toNat sZ12.1)]?).bind fun yZ15=>(wO nZ0 yZ15.un).bind fun rZ16=>(Ce formatsZ0 rZ16 dZ0.F).bind fun rZ17=>cond (rZ17.2) (bnd ([(⟨(⟨yZ15.N,yZ15.F⟩:(bA H)),rZ17.1⟩:(ar H))]) fun lZ19=>(grd ((sZ12.2.length+1)*40<=140737488355328)).bind fun uZ22=>bnd (sZ12.2++lZ19) fun lZ23=>some (.inl (IntKind.wrap .i64 (sZ12.1+1),lZ23))) (some (.inl (IntKind.wrap .i64 (sZ12.1+1),sZ12.2)))) (some (.inr sZ12.2))
def bE{H:World->Prop}(nZ0:ae)(rZ1:List (ar H)×Bool)(sZ3:Bool×Int×(ar H)×(ar H))(yZ6:(ar H))(sZ8:Bool×Int×(ar H)×(ar H)):Option ((Bool×Int×(ar H)×(ar H))⊕(Bool×(ar H)×(ar H))):=
 cond (decide (sZ8.2.1<(((rZ1.1.length-(Int.toNat (IntKind.wrap .i64 (sZ3.2.1+1)))):Nat):Int))) ((grd (0<=sZ8.2.1/\sZ8.2.1<(((rZ1.1.length-(Int.toNat (IntKind.wrap .i64 (sZ3.2.1+1)))):Nat):Int))).bind fun kZ10=>(rZ1.1[((Int.toNat (IntKind.wrap .i64 (sZ3.2.1+1)))+(Int.toNat sZ8.2.1))]?).bind fun yZ11=>(Ag nZ0 yZ6.F.F.l yZ11.F.F.l).bind fun rZ12=>cond (!rZ12) (some (.inl (sZ8.1,IntKind.wrap .i64 (sZ8.2.1+1),sZ8.2.2.1,sZ8.2.2.2))) (((M_e yZ11.un).bind fun rZ14=>(M_e yZ6.un).bind fun rZ15=>cond (decide (rZ14<rZ15)) (some (yZ11,yZ6)) (some (yZ6,yZ11)):Option ((ar H)×(ar H))).bind fun oZ17=>(M_e oZ17.1.un).bind fun rZ18=>(M_e oZ17.2.un).bind fun rZ19=>(M_e sZ8.2.2.1.un).bind fun rZ20=>(M_e sZ8.2.2.2.un).bind fun rZ21=>(M_i (IntKind.wrap .i64 (rZ18+rZ19)) (IntKind.wrap .i64 (rZ20+rZ21))).bind fun rZ22=>bnd ([rZ22,0]) fun lZ23=>(M_r lZ23).bind fun rZ27=>((cond (sZ8.1) (some (rZ27==0)) (some false):Option Bool).bind fun oZ29=>cond (oZ29) ((pe nZ0 oZ17.1.F.un sZ8.2.2.1.F.un).bind fun rZ31=>(pe nZ0 oZ17.2.F.un sZ8.2.2.2.F.un).bind fun rZ32=>bnd ([rZ31,rZ32]) fun lZ33=>(M_r lZ33).bind fun rZ37=>some rZ37) (some rZ27):Option Int).bind fun oZ38=>(cond (!sZ8.1) (some true) (some (decide (oZ38<0))):Option Bool).bind fun oZ40=>cond (oZ40) (some (.inl (true,IntKind.wrap .i64 (sZ8.2.1+1),oZ17.1,oZ17.2))) (some (.inl (sZ8.1,IntKind.wrap .i64 (sZ8.2.1+1),sZ8.2.2.1,sZ8.2.2.2))))) (some (.inr (sZ8.1,sZ8.2.2.1,sZ8.2.2.2)))
def bo{H:World->Prop}(nZ0:ae)(rZ1:List (ar H)×Bool)(sZ3:Bool×Int×(ar H)×(ar H)):Option ((Bool×Int×(ar H)×(ar H))⊕(Bool×(ar H)×(ar H))):=
 cond (decide (sZ3.2.1<(rZ1.1.length:Int))) (((grd (0<=sZ3.2.1/\sZ3.2.1<(rZ1.1.length:Int))).bind fun kZ5=>(rZ1.1[(Int.toNat sZ3.2.1)]?).bind fun yZ6=>(grd (0<=(IntKind.wrap .i64 (sZ3.2.1+1))/\True/\Int.toNat (IntKind.wrap .i64 (sZ3.2.1+1))<=rZ1.1.length/\True)).bind fun uZ7=>(bg (bE nZ0 rZ1 sZ3 yZ6) N0 (sZ3.1,0,sZ3.2.2.1,sZ3.2.2.2)).bind fun oZ42=>some (oZ42.1,oZ42.2.1,oZ42.2.2):Option (Bool×(ar H)×(ar H))).bind fun oZ44=>some (.inl (oZ44.1,IntKind.wrap .i64 (sZ3.2.1+1),oZ44.2.1,oZ44.2.2))) (some (.inr (sZ3.1,sZ3.2.2.1,sZ3.2.2.2)))
theorem lz{S T B C:Type}{f:S->Option (S⊕B)}{g:T->Option (T⊕C)}(u:T->S)(v:C->B)(h:∀t,f (u t)=(g t).map (Sum.map u v)):∀(n:Nat)(t:T),bg f n (u t)=(bg g n t).map v
 |0,t=>rfl
 | n + 1, t => by
   simp only[bg,h];cases g t with
   |none=>rfl
   | some o =>
     cases o with
     |inl s=>exact lz u v h n s
     |inr b=>rfl
theorem rQ{T C:Type}{g:T->Option (T⊕C)}(p:T->Prop)(q:C->Prop)(h1:∀t t',p t->g t=some (.inl t')->p t')(h2:∀t c,p t->g t=some (.inr c)->q c):∀(n:Nat)(t:T)(c:C),p t->bg g n t=some c->q c
 |0,_,_,_,h=>by cases h
 | n + 1, t, c, hp, h => by
   simp only[bg] at h;cases hg:g t with
   |none=>rw[hg] at h;cases h
   | some o =>
     rw[hg] at h;cases o with
     |inl s=>exact rQ p q h1 h2 n s c (h1 t s hp hg) h
     | inr b =>
       simp only[Option.some.injEq] at h;rw[<-h];exact h2 t b hp hg
theorem iG{A B:Type}{g:A->B}{c:Bool}{x y:Option B}{x' y':Option A}(h1:x=x'.map g)(h2:y=y'.map g):cond c x y=(cond c x' y').map g:=by cases c<;>assumption
theorem jZ{A B C D:Type}{g:A->B}{u:C->D}{m:Option D}{m':Option C}{f:D->Option B}{f':C->Option A}(h1:m=m'.map u)(h2:∀x,f (u x)=(f' x).map g):m.bind f=(m'.bind f').map g:=by
 subst h1;cases m' with
 |none=>rfl
 |some x=>exact h2 x
theorem cK{A B C:Type}{g:A->B}{m:Option C}{f:C->Option B}{f':C->Option A}(h2:∀x,f x=(f' x).map g):m.bind f=(m.bind f').map g:=by cases m<;>simp[h2]
def un2{H:World->Prop}(s:Int×List (ar H)):Int×List aA:=(s.1,s.2.map ar.un)
theorem SK{H:World->Prop}(n:ae)(f:List au)(d:aI)(Z:List (bA H))(b:Bool)(s:Int×List (ar H)):
 M_s n f d (Z.map bA.un,b) (un2 s)=(bZ n f d (Z,b) s).map (Sum.map un2 (List.map ar.un)):=by
 unfold M_s bZ;simp only[List.length_map,List.getElem?_map,un2];refine iG (cK fun _=>jZ (u:=bA.un) rfl fun y=>cK fun l=>cK fun k=>iG ?_ rfl) rfl;simp only[bnd];refine cK fun _=>?_;simp only[Option.map_some,Sum.map_inl,un2,List.map_append];rfl
def un4{H:World->Prop}(s:Bool×Int×ar H×ar H):Bool×Int×aA×aA:=(s.1,s.2.1,s.2.2.1.un,s.2.2.2.un)
def un3{H:World->Prop}(s:Bool×ar H×ar H):Bool×aA×aA:=(s.1,s.2.1.un,s.2.2.un)
theorem Sv{H:World->Prop}(n:ae)(Z:List (ar H))(b:Bool)(s3:Bool×Int×ar H×ar H)(y:ar H)(s:Bool×Int×ar H×ar H):
 M_u n (Z.map ar.un,b) (un4 s3) y.un (un4 s)=(bE n (Z,b) s3 y s).map (Sum.map un4 un3):=by
 unfold M_u bE;simp only[List.length_map,List.getElem?_map,un4];refine iG (cK fun _=>jZ (u:=ar.un) rfl fun y=>cK fun r=>iG rfl ?_) rfl;refine jZ (u:=fun p=>(p.1.un,p.2.un)) ?_ fun p=>?_
 ·exact cK fun _=>cK fun _=>iG rfl rfl
 ·refine cK fun _=>cK fun _=>cK fun _=>cK fun _=>cK fun _=>?_;simp only[bnd];refine cK fun _=>cK fun _=>?_;exact cK fun _=>iG rfl rfl
theorem Sk{H:World->Prop}(n:ae)(Z:List (ar H))(b:Bool)(s:Bool×Int×ar H×ar H):
 M_n n (Z.map ar.un,b) (un4 s)=(bo n (Z,b) s).map (Sum.map un4 un3):=by
 unfold M_n bo;simp only[List.length_map,List.getElem?_map];refine iG (jZ (u:=un3) ?_ fun _=>rfl) rfl;refine cK fun _=>jZ (u:=ar.un) rfl fun y=>cK fun _=>jZ (u:=un3) ?_ fun _=>rfl;exact lz un4 un3 (fun t=>Sv n Z b s y t) N0 (s.1,0,s.2.2.1,s.2.2.2)
theorem sq{α:Type}:∀{l m:List α},l.Sublist m->∃g:Nat->Nat,(∀j x,l[j]?=some x->m[g j]?=some x)/\∀i j,i<j->j<l.length->g i<g j
 |_,_,.slnil=>⟨id,fun j x h=>by simp at h,fun i j _ h=>by simp at h⟩
 | _, _, .cons a h => by
   obtain⟨g,h1,h2⟩:=sq h;exact⟨fun j=>g j+1,fun j x hj=>by simpa using h1 j x hj,fun i j hij hj=>by have:=h2 i j hij hj;show g i+1<g j+1;omega⟩
 | _, _, .cons_cons a h => by
   obtain⟨g,h1,h2⟩:=sq h;refine⟨fun j=>match j with|0=>0|j+1=>g j+1,fun j x hj=>?_,fun i j hij hj=>?_⟩
   ·cases j with
    |zero=>simpa using hj
    |succ j=>simpa using h1 j x (by simpa using hj)
   ·cases j with
    |zero=>omega
    | succ j =>
      cases i with
      |zero=>simp
      |succ i=>have:=h2 i j (by omega) (by simpa using hj);simp;omega
theorem rL{k:Int}(h0:0<=k)(h1:k<=9223372036854775807)(h2:0<=IntKind.wrap .i64 (k+1)):k<9223372036854775807/\IntKind.wrap .i64 (k+1)=k+1:=by
 by_cases e:k=9223372036854775807
 ·subst e;exact absurd h2 (by decide)
 ·exact⟨by omega,aH (by omega) (by omega)⟩
def RC{H:World->Prop}(Z:List (bA H))(s:Int×List (ar H)):Prop:=s.1<=9223372036854775807/\(0<=s.1->s.1<=Z.length/\(s.2.map ar.F).Sublist (Z.take s.1.toNat))
theorem PV{H:World->Prop}(n:ae)(f:List au)(d:aI)(Z:List (bA H))(b:Bool){o:List (ar H)}
 (h:bg (bZ n f d (Z,b)) N0 (0,[])=some o):(o.map ar.F).Sublist Z:=by
 refine rQ (RC Z) (fun o=>(o.map ar.F).Sublist Z) ?_ ?_ N0 (0,[]) o ⟨by simp,fun _=>⟨by simp,by simp⟩⟩ h
 ·rintro⟨i,l⟩ t ⟨h1,h2⟩ h;simp only at h1 h2;unfold bZ at h;simp only at h;obtain⟨c,h⟩|⟨c,h⟩:=aj h
  ·obtain⟨u,hu,h⟩:=af h;have hu:=aZ hu;obtain⟨y,hy,h⟩:=af h;obtain⟨_,_,h⟩:=af h;obtain⟨k,_,h⟩:=af h;obtain⟨h2,h3⟩:=h2 hu.1;have hr:IntKind.wrap .i64 (i+1)<=9223372036854775807:=by rw[IntKind.wrap_i64];omega
   obtain⟨_,h⟩|⟨_,h⟩:=aj h
   ·simp only[bnd] at h;obtain⟨_,_,h⟩:=af h;cases h;simp only[RC];refine⟨hr,fun h0=>?_⟩;obtain⟨p1,hw⟩:=rL hu.1 h1 h0;have ht:Z.take (i+1).toNat=Z.take i.toNat++[y]:=by
     rw[show(i+1).toNat=i.toNat+1 by omega,List.take_add_one,hy];rfl
    rw[hw,ht,List.map_append];exact⟨by omega,h3.append (List.Sublist.refl _)⟩
   ·cases h;simp only[RC];refine⟨hr,fun h0=>?_⟩;obtain⟨p1,hw⟩:=rL hu.1 h1 h0;have ht:Z.take (i+1).toNat=Z.take i.toNat++[y]:=by
     rw[show(i+1).toNat=i.toNat+1 by omega,List.take_add_one,hy];rfl
    rw[hw,ht];exact⟨by omega,h3.trans (List.sublist_append_left _ _)⟩
  ·cases h
 ·rintro⟨i,l⟩ c ⟨h1,h2⟩ h;simp only at h1 h2;unfold bZ at h;simp only at h;obtain⟨c,h⟩|⟨c,h⟩:=aj h
  ·obtain⟨_,_,h⟩:=af h;obtain⟨y,hy,h⟩:=af h;obtain⟨_,_,h⟩:=af h;obtain⟨k,_,h⟩:=af h;obtain⟨_,h⟩|⟨_,h⟩:=aj h
   ·simp only[bnd] at h;obtain⟨_,_,h⟩:=af h;cases h
   ·cases h
  ·simp only[decide_eq_false_iff_not] at c;cases h;exact(h2 (by omega)).2.trans (List.take_sublist _ _)
def Two{H:World->Prop}(Z:List (ar H))(c:Bool)(x y:ar H):Prop:=(c=false/\x=ar.zero/\y=ar.zero)\/∃p q:Nat,p≠q/\Z[p]?=some x/\Z[q]?=some y
theorem RS{H:World->Prop}(n:ae)(Z:List (ar H))(b:Bool)(s3:Bool×Int×ar H×ar H)(y:ar H)(hy:Z[s3.2.1.toNat]?=some y)(h0:0<=s3.2.1)(hl:s3.2.1<9223372036854775807){o:Bool×ar H×ar H}(c0:Bool)(x0 z0:ar H)(ht:Two Z c0 x0 z0)
 (h:bg (bE n (Z,b) s3 y) N0 (c0,0,x0,z0)=some o):Two Z o.1 o.2.1 o.2.2:=by
 refine rQ (fun s=>Two Z s.1 s.2.2.1 s.2.2.2) (fun o=>Two Z o.1 o.2.1 o.2.2) ?_ ?_ N0 (c0,0,x0,z0) o ht h
 ·rintro⟨c,k,u,v⟩ t h1 h;simp only at h1;unfold bE at h;simp only at h;obtain⟨_,h⟩|⟨_,h⟩:=aj h
  ·obtain⟨_,_,h⟩:=af h;obtain⟨z,hz,h⟩:=af h;obtain⟨_,_,h⟩:=af h;have hw:IntKind.wrap .i64 (s3.2.1+1)=s3.2.1+1:=aH (by omega) (by omega);rw[hw] at hz;obtain⟨_,h⟩|⟨_,h⟩:=aj h
   ·cases h;exact h1
   ·obtain⟨p,hp,h⟩:=af h;have hpp:∃i j:Nat,i≠j/\Z[i]?=some p.1/\Z[j]?=some p.2:=by
     obtain⟨_,_,hp⟩:=af hp;obtain⟨_,_,hp⟩:=af hp;obtain⟨_,hp⟩|⟨_,hp⟩:=aj hp
     ·cases hp;exact⟨_,_,by omega,hz,hy⟩
     ·cases hp;exact⟨_,_,by omega,hy,hz⟩
    obtain⟨_,_,h⟩:=af h;obtain⟨_,_,h⟩:=af h;obtain⟨_,_,h⟩:=af h;obtain⟨_,_,h⟩:=af h;obtain⟨_,_,h⟩:=af h;simp only[bnd] at h;obtain⟨_,_,h⟩:=af h;obtain⟨_,_,h⟩:=af h;obtain⟨_,_,h⟩:=af h;obtain⟨_,h⟩|⟨_,h⟩:=aj h
    ·cases h;exact .inr hpp
    ·cases h;exact h1
  ·cases h
 ·rintro⟨c,k,u,v⟩ t h1 h;simp only at h1;unfold bE at h;simp only at h;obtain⟨_,h⟩|⟨_,h⟩:=aj h
  ·obtain⟨_,_,h⟩:=af h;obtain⟨z,hz,h⟩:=af h;obtain⟨_,_,h⟩:=af h;obtain⟨_,h⟩|⟨_,h⟩:=aj h
   ·cases h
   ·obtain⟨p,hp,h⟩:=af h;obtain⟨_,_,h⟩:=af h;obtain⟨_,_,h⟩:=af h;obtain⟨_,_,h⟩:=af h;obtain⟨_,_,h⟩:=af h;obtain⟨_,_,h⟩:=af h;simp only[bnd] at h;obtain⟨_,_,h⟩:=af h;obtain⟨_,_,h⟩:=af h;obtain⟨_,_,h⟩:=af h;obtain⟨_,h⟩|⟨_,h⟩:=aj h<;>cases h
  ·cases h;exact h1
theorem RH{H:World->Prop}(n:ae)(Z:List (ar H))(b:Bool){o:Bool×ar H×ar H}
 (h:bg (bo n (Z,b)) N0 (false,0,ar.zero,ar.zero)=some o):Two Z o.1 o.2.1 o.2.2:=by
 refine rQ (fun s=>0<=s.2.1/\s.2.1<=9223372036854775807/\Two Z s.1 s.2.2.1 s.2.2.2) (fun o=>Two Z o.1 o.2.1 o.2.2) ?_ ?_ N0 _ o ⟨by simp,by simp,.inl ⟨rfl,rfl,rfl⟩⟩ h
 ·rintro⟨c,k,u,v⟩ t ⟨h0,hk,h1⟩ h;simp only at h1 h0;unfold bo at h;simp only at h;obtain⟨c,h⟩|⟨_,h⟩:=aj h
  ·obtain⟨w,hw,h⟩:=af h;obtain⟨_,_,hw⟩:=af hw;obtain⟨y,hy,hw⟩:=af hw;obtain⟨u2,hu2,hw⟩:=af hw;obtain⟨p1,hwr⟩:=rL h0 hk (aZ hu2).1;obtain⟨o2,ho,hw⟩:=af hw;simp only[decide_eq_true_eq] at c;have h2:=RS n Z b _ y (by simpa using hy) (by simpa using h0) p1 _ _ _ h1 ho;cases hw;cases h;exact⟨by simp only[hwr];omega,by simp only[hwr];omega,h2⟩
  ·cases h
 ·rintro⟨c,k,u,v⟩ t ⟨h0,hk,h1⟩ h;simp only at h1;unfold bo at h;simp only at h;obtain⟨_,h⟩|⟨_,h⟩:=aj h
  ·obtain⟨w,hw,h⟩:=af h;cases h
  ·cases h;exact h1
section
variable{H:World->Prop}{P:Program}{A:aq}{V:List RV}{n:Nat}{res:AV}
theorem Jc(τ:St):JJ P A V n res .ret τ=fin V res .ret τ:=rfl
theorem Ip(ts:List (Raw H))(σ:St):Cu V ts res .ret σ=opt (RVs.val σ V) fun xs=>(aF xs).Nodup/\∃is,Sb ts (lift σ.row 3 (dG xs)) res is/\is.Nodup:=by
 simp only[Cu,opt];cases RVs.val σ V<;>simp
theorem LE(r:Nat)(xs:List (El (List Int))){τ:St}{es:List AV}(hr:look r τ.rows=some (.arr n es))(he:es=xs.map elU)
 (h:∀(H:World->Prop)(Z:List (El (Raw H))),Z.map (fun z=>(z.1,z.2.1.l,z.2.2))=xs->AWP (OkT H P) A (Cu V (Z.map (·.2.1)) res) ⟨τ.env,put r (.arr n (Z.map elR)) τ.rows⟩):JJ P A V n res .nrm τ:=
 ⟨r,xs,by rw[hr,he],fun H Z hZ=>⟨⟨τ.env,put r (.arr n (Z.map elR)) τ.rows⟩,rfl,by rw[aC,if_pos rfl],fun q hq=>.inl (by rw[aC,if_neg hq]),h H Z hZ⟩⟩
theorem Dq(r a b:Nat)(xs:List (El (List Int))){τ:St}{es ca cb:List AV}(hr:look r τ.rows=some (.arr n es))(he:es=xs.map elU)(hab:a≠b/\a≠r/\b≠r)
 (ha:look a τ.rows=some (.var (.agg ca))) (hb:look b τ.rows=some (.var (.agg cb)))
 (h:∀(H:World->Prop)(Z:List (El (Raw H))),Z.map (fun z=>(z.1,z.2.1.l,z.2.2))=xs->AWP (OkT H P) A (Cu V (Z.map (·.2.1)) res) ⟨τ.env,put a (.var (.agg (ca.map jd))) (put b (.var (.agg (cb.map jd))) (put r (.arr n (Z.map elR)) τ.rows))⟩):JJ P A V n res .nrm τ:=
 ⟨r,xs,by rw[hr,he],fun H Z hZ=>⟨⟨τ.env,put a (.var (.agg (ca.map jd))) (put b (.var (.agg (cb.map jd))) (put r (.arr n (Z.map elR)) τ.rows))⟩,rfl,by rw[aC,if_neg (Ne.symm hab.2.1),aC,if_neg (Ne.symm hab.2.2),aC,if_pos rfl],fun q hq=>by
  by_cases e:q=a
  ·subst e;exact .inr ⟨ca,ha,by rw[aC,if_pos rfl]⟩
  ·by_cases e2:q=b
   ·subst e2;exact .inr ⟨cb,hb,by rw[aC,if_neg e,aC,if_pos rfl]⟩
   ·exact .inl (by rw[aC,if_neg e,aC,if_neg e2,aC,if_neg hq]),h H Z hZ⟩⟩
theorem IH(v:Value):jd (.sc v)=.sc v:=rfl
theorem zT(k:Nat):jd (.lst .u k [])=.sc (.slice .none 0 0):=rfl
theorem Ae{Z:List (El (Raw H))}{l:List ah}(h:Z.map (fun z=>(z.1,z.2.1.l,z.2.2))=l.map fun x=>(x.N,x.F,[])):
 ∃Zr:List (bA H),Z.map elR=Zr.map (aY .u)/\Z.map (fun z=>z.2.1)=Zr.map bA.F/\l=Zr.map bA.un:=by
 induction Z generalizing l with
 | nil =>
   cases l with
   |nil=>exact⟨[],rfl,rfl,rfl⟩
   |cons x l=>simp at h
 | cons z Z ih =>
   cases l with
   |nil=>simp at h
   | cons x l =>
     simp only[List.map_cons,List.cons.injEq,Prod.mk.injEq] at h;obtain⟨⟨h1,h2,h3⟩,h4⟩:=h;obtain⟨Zr,e1,e2,e3⟩:=ih h4;refine⟨⟨z.1,z.2.1⟩::Zr,?_,?_,?_⟩
     ·simp[e1,elR,aY,h3]
     ·simp[e2]
     ·simp[e3,bA.un,h1,h2]
theorem wd{Z:List (El (Raw H))}{l:List aA}(h:Z.map (fun z=>(z.1,z.2.1.l,z.2.2))=l.map fun x=>(x.F.N,x.F.F,[x.N])):
 ∃Zr:List (ar H),Z.map elR=Zr.map (aM .u)/\Z.map (fun z=>z.2.1)=(Zr.map fun z=>z.F.F)/\l=Zr.map ar.un:=by
 induction Z generalizing l with
 | nil =>
   cases l with
   |nil=>exact⟨[],rfl,rfl,rfl⟩
   |cons x l=>simp at h
 | cons z Z ih =>
   cases l with
   |nil=>simp at h
   | cons x l =>
     simp only[List.map_cons,List.cons.injEq,Prod.mk.injEq] at h;obtain⟨⟨h1,h2,h3⟩,h4⟩:=h;obtain⟨Zr,e1,e2,e3⟩:=ih h4;refine⟨⟨⟨z.1,z.2.1⟩,x.N⟩::Zr,?_,?_,?_⟩
     ·simp[e1,elR,aM,h3]
     ·simp[e2]
     ·simp[e3,ar.un,bA.un,h1,h2]
theorem SE{n:ae}{f:List au}{d:aI}{Z:List (bA H)}{b:Bool}{o:List aA}(h:bg (M_s n f d (Z.map bA.un,b)) N0 (0,[])=some o):
 ∃l,bg (bZ n f d (Z,b)) N0 (0,[])=some l/\l.map ar.un=o:=by
 have key:=lz un2 (List.map ar.un) (fun t=>SK n f d Z b t) N0 (0,[]);rw[show un2 (0,([]:List (ar H)))=(0,[]) from rfl,h] at key;cases hk:bg (bZ n f d (Z,b)) N0 (0,[]) with
 |none=>rw[hk] at key;cases key
 |some l=>rw[hk] at key;exact⟨l,rfl,(Option.some.inj key).symm⟩
theorem SF{n:ae}{Z:List (ar H)}{b:Bool}{o:Bool×aA×aA}(h:bg (M_n n (Z.map ar.un,b)) N0 (false,0,(⟨(⟨0,[]⟩:ah),0⟩:aA),(⟨(⟨0,[]⟩:ah),0⟩:aA))=some o):
 ∃l,bg (bo n (Z,b)) N0 (false,0,ar.zero,ar.zero)=some l/\un3 l=o:=by
 have key:=lz un4 un3 (fun t=>Sk n Z b t) N0 (false,0,ar.zero,ar.zero);rw[show un4 (false,0,(ar.zero:ar H),(ar.zero:ar H))=(false,0,(⟨(⟨0,[]⟩:ah),0⟩:aA),(⟨(⟨0,[]⟩:ah),0⟩:aA)) from rfl,h] at key;cases hk:bg (bo n (Z,b)) N0 (false,0,ar.zero,ar.zero) with
 |none=>rw[hk] at key;cases key
 |some l=>rw[hk] at key;exact⟨l,rfl,(Option.some.inj key).symm⟩
variable{ts:List (Raw H)}
theorem NU{α β:Type}(f:α->AV)(g:β->AV)(u:α->β)(k:Nat)(fl:Fl)(l:List α)(ix:Nat->Nat)(h:∀j x,l[j]?=some x->Sb ts (f x) (g (u x)) [ix j])(hi:∀i j,i<j->j<l.length->ix i<ix j):
 ∃is,Sb ts (.lst fl k (l.map f)) (.lst fl k ((l.map u).map g)) is/\is.Nodup:=by
 refine⟨_,.lst fl k _ _ (fun j=>[ix j]) (by simp) (fun j x y hx hy=>?_),db (fun j _=>by simp) (fun i j hi' hj' hij b hb hb'=>?_)⟩
 ·rw[List.getElem?_map,Option.map_eq_some_iff] at hx;obtain⟨a,ha,rfl⟩:=hx;simp only[List.getElem?_map,ha,Option.map_some,Option.some.injEq] at hy;subst hy;exact h j a ha
 ·simp only[List.mem_singleton] at hb hb';rw[List.length_map] at hi' hj';rcases Nat.lt_or_gt_of_ne hij with e|e
  ·have:=hi i j e hj';omega
  ·have:=hi j i e hi';omega
theorem yl{a b c d:AV}{i j:List Nat}(h1:Sb ts a b i)(h2:Sb ts c d j):Sb ts (.tup [a,c]) (.tup [b,d]) (i++j):=by
 have:=Sb.tup (ts:=ts) [a,c] [b,d] (fun q=>if q=0 then i else j) rfl (fun q x y hx hy=>by
  match q,hx,hy with
  |0,hx,hy=>cases hx;cases hy;exact h1
  |1,hx,hy=>cases hx;cases hy;exact h2)
 simpa[bP,List.range_succ] using this
theorem sa{a b c d e f:AV}{i j k:List Nat}(h1:Sb ts a b i)(h2:Sb ts c d j)(h3:Sb ts e f k):Sb ts (.tup [a,c,e]) (.tup [b,d,f]) (i++j++k):=by
 have:=Sb.tup (ts:=ts) [a,c,e] [b,d,f] (fun q=>if q=0 then i else if q=1 then j else k) rfl (fun q x y hx hy=>by
  match q,hx,hy with
  |0,hx,hy=>cases hx;cases hy;exact h1
  |1,hx,hy=>cases hx;cases hy;exact h2
  |2,hx,hy=>cases hx;cases hy;exact h3)
 simpa[bP,List.range_succ] using this
theorem ye{a b c d e f:AV}{i j k:List Nat}(h1:Sb ts a b i)(h2:Sb ts c d j)(h3:Sb ts e f k):Sb ts (.agg [a,c,e]) (.agg [b,d,f]) (i++j++k):=by
 have:=Sb.agg (ts:=ts) [a,c,e] [b,d,f] (fun q=>if q=0 then i else if q=1 then j else k) rfl (fun q x y hx hy=>by
  match q,hx,hy with
  |0,hx,hy=>cases hx;cases hy;exact h1
  |1,hx,hy=>cases hx;cases hy;exact h2
  |2,hx,hy=>cases hx;cases hy;exact h3)
 simpa[bP,List.range_succ] using this
theorem LV(fl:Fl)(k:Nat):Sb ts (.lst fl k []) (.lst fl k []) []:=.lst fl k [] [] (fun _=>[]) rfl fun j x y h=>by simp at h
theorem mF{i:Nat}(x:ar H)(h:ts[i]?=some x.F.F):Sb ts (.agg [.i x.F.N,.sc x.F.F.v,.i x.N]) (.agg [.i x.un.F.N,.lst .u 1 (x.un.F.F.map AV.i),.i x.un.N]) [i]:=
 ye (.sc _) (.raw i _ h) (.sc _)
theorem nF:Sb ts (.agg [.i 0,.sc (.slice .none 0 0),.i 0]) (.agg [.i 0,.lst .u 1 [],.i 0]) []:=ye (.sc _) .nil (.sc _)
theorem Ct{Z:List (bA H)}(ht:ts=Z.map bA.F){l:List (ar H)}(h:(l.map ar.F).Sublist Z)(b:Bool):
 ∃is,Sb ts (.tup [.lst .u 3 (l.map (aM .m)),.b b]) (.tup [.lst .u 3 ((l.map ar.un).map (aR .u)),.b b]) is/\is.Nodup:=by
 obtain⟨g,h1,h2⟩:=sq h;obtain⟨is,h3,h4⟩:=NU (ts:=ts) (aM .m) (aR .u) ar.un 3 .u l g (fun j x hj=>mF x (by
  have:=h1 j x.F (by simp[hj]);simp[ht,this])) (fun i j hij hj=>h2 i j hij (by simpa using hj))
 exact⟨_,yl h3 (.sc _),by simpa using h4⟩
theorem MB{Z:List (ar H)}(ht:ts=Z.map fun z=>z.F.F){c:Bool}{x y:ar H}(h:Two Z c x y):
 ∃ is, Sb ts (.tup [.agg [.i x.F.N, .sc x.F.F.v, .i x.N], .agg [.i y.F.N, .sc y.F.F.v, .i y.N], .b c])
   (.tup [.agg [.i x.un.F.N,.lst .u 1 (x.un.F.F.map AV.i),.i x.un.N],.agg [.i y.un.F.N,.lst .u 1 (y.un.F.F.map AV.i),.i y.un.N],.b c]) is/\is.Nodup:=by
 rcases h with⟨_,rfl,rfl⟩|⟨p,q,hpq,h1,h2⟩
 ·exact⟨_,sa nF nF (.sc _),by simp⟩
 ·exact⟨_,sa (mF x (i:=p) (by simp[ht,h1])) (mF y (i:=q) (by simp[ht,h2])) (.sc _),by simpa using hpq⟩
end
end Vs

namespace Vs
open Go Go.Proofs
theorem ba:Tryz.prog.follows .mixedOrders=true:=Tryz.checked.mixed
def py:Go.Shelf.Ren:=⟨fun|6=>265|15=>232|14=>275|28=>258|29=>259|20=>279|21=>280|22=>281|23=>282|24=>283|25=>284|26=>285|27=>286|46=>288|47=>268|48=>269|49=>289|50=>290|57=>291|n=>n,fun|22=>159|24=>41|25=>271|3=>3|39=>114|0=>0|53=>202|55=>116|4=>4|46=>261|45=>260|50=>61|5=>5|9=>9|66=>272|70=>276|76=>281|77=>162|n=>n,fun|n=>n⟩
theorem FV:Go.Proofs.SlLaysF0.n6 Tryz.prog py:={
 mixed:=by kernel_rfl
 f6:=⟨Tryz.f265.name,by decide,Tryz.func265.trans (congrArg some (by kernel_rfl))⟩
 f14:=⟨Tryz.f275.name,by decide,Tryz.func275.trans (congrArg some (by kernel_rfl))⟩
 f15:=Tryz.func232.trans (congrArg some (by kernel_rfl))
 f20:=⟨Tryz.f279.name,by decide,Tryz.func279.trans (congrArg some (by kernel_rfl))⟩
 f21:=⟨Tryz.f280.name,by decide,Tryz.func280.trans (congrArg some (by kernel_rfl))⟩
 f22:=⟨Tryz.f281.name,by decide,Tryz.func281.trans (congrArg some (by kernel_rfl))⟩
 f23:=⟨Tryz.f282.name,by decide,Tryz.func282.trans (congrArg some (by kernel_rfl))⟩
 f24:=⟨Tryz.f283.name,by decide,Tryz.func283.trans (congrArg some (by kernel_rfl))⟩
 f25:=⟨Tryz.f284.name,by decide,Tryz.func284.trans (congrArg some (by kernel_rfl))⟩
 f26:=⟨Tryz.f285.name,by decide,Tryz.func285.trans (congrArg some (by kernel_rfl))⟩
 f27:=⟨Tryz.f286.name,by decide,Tryz.func286.trans (congrArg some (by kernel_rfl))⟩
 f28:=Tryz.func258.trans (congrArg some (by kernel_rfl))
 f29:=Tryz.func259.trans (congrArg some (by kernel_rfl))
 f46:=⟨Tryz.f288.name,by decide,Tryz.func288.trans (congrArg some (by kernel_rfl))⟩
 f47:=Tryz.func268.trans (congrArg some (by kernel_rfl))
 f48:=Tryz.func269.trans (congrArg some (by kernel_rfl))
 f49:=⟨Tryz.f289.name,by decide,Tryz.func289.trans (congrArg some (by kernel_rfl))⟩
 f50:=⟨Tryz.f290.name,by decide,Tryz.func290.trans (congrArg some (by kernel_rfl))⟩
 f57:=⟨Tryz.f291.name,by decide,Tryz.func291.trans (congrArg some (by kernel_rfl))⟩
 t0:=Tryz.underlying0
 a0:=Tryz.isAgg0
 z0:=Tryz.sizeOf0
 v0:=Tryz.zeroValue0
 t3:=Tryz.underlying3
 a3:=Tryz.isAgg3
 z3:=Tryz.sizeOf3
 v3:=Tryz.zeroValue3
 t4:=Tryz.underlying4
 a4:=Tryz.isAgg4
 z4:=Tryz.sizeOf4
 v4:=Tryz.zeroValue4
 t5:=Tryz.underlying5
 a5:=Tryz.isAgg5
 z5:=Tryz.sizeOf5
 v5:=Tryz.zeroValue5
 t9:=Tryz.underlying9
 a9:=Tryz.isAgg9
 z9:=Tryz.sizeOf9
 v9:=Tryz.zeroValue9
 t22:=Tryz.underlying159
 a22:=Tryz.isAgg159
 z22:=Tryz.sizeOf159
 v22:=Tryz.zeroValue159
 t25:=Tryz.underlying271
 a25:=Tryz.isAgg271
 z25:=Tryz.sizeOf271
 v25:=Tryz.zeroValue271
 t39:=Tryz.underlying114
 a39:=Tryz.isAgg114
 z39:=Tryz.sizeOf114
 v39:=Tryz.zeroValue114
 t45:=Tryz.underlying260
 a45:=Tryz.isAgg260
 z45:=Tryz.sizeOf260
 v45:=Tryz.zeroValue260
 t46:=Tryz.underlying261
 a46:=Tryz.isAgg261
 z46:=Tryz.sizeOf261
 v46:=Tryz.zeroValue261
 t50:=Tryz.underlying61
 a50:=Tryz.isAgg61
 z50:=Tryz.sizeOf61
 v50:=Tryz.zeroValue61
 t53:=Tryz.underlying202
 a53:=Tryz.isAgg202
 z53:=Tryz.sizeOf202
 v53:=Tryz.zeroValue202
 t55:=Tryz.underlying116
 a55:=Tryz.isAgg116
 z55:=Tryz.sizeOf116
 v55:=Tryz.zeroValue116
 t66:=Tryz.underlying272
 a66:=Tryz.isAgg272
 z66:=Tryz.sizeOf272
 v66:=Tryz.zeroValue272
 t70:=Tryz.underlying276
 a70:=Tryz.isAgg276
 z70:=Tryz.sizeOf276
 v70:=Tryz.zeroValue276
 t76:=Tryz.underlying281
 a76:=Tryz.isAgg281
 z76:=Tryz.sizeOf281
 v76:=Tryz.zeroValue281
 t77:=Tryz.underlying162
 a77:=Tryz.isAgg162
 z77:=Tryz.sizeOf162
 v77:=Tryz.zeroValue162}
theorem Ly:yx Tryz.prog 265 2 (shK 2):=Sa (ρ:=py) FV 2 (by decide) Tryz.isAgg41 Tryz.sizeOf41 (AnyF.slices_SortFunc_none FV) ⟨_,Tryz.func265,by kernel_rfl,by kernel_rfl⟩
def vS:aq:=(.seq (Zs [Zm 12 5,Zm 13 0,Zk 14 13,Zb 15 .lss 12 14] (.cond (Zt 15) .skip (.exit 0))) (.seq (.blk 1 (Zs [Zm 18 1,Zm 19 0,Zm 20 5,Zx 21 1 19 20,Zl 22 21,Zo 23 (.lenz (Zt 22)),Zb 24 .sub 18 23,Zm 1 24] (Zs [Zm 25 1,Zd 26 .lss 25 0] (.cond (Zt 26) (Zs [Zn 4 (-1)] .ret) .skip)))) (.reg [Zm 16 5,Zd 17 .add 16 1,Zm 5 17] [])))
def FU:aq:=(Zs [Zm 27 1,Zm 4 27] .ret)
def A103:aq:=(Zs [Zn 4 0] (Zs [Zm 6 1,Zm 7 0,Zk 8 7,Zb 9 .sub 6 8,Zm 1 9] (.seq (Zs [Zm 10 1,Zd 11 .lss 10 0] (.cond (Zt 11) (Zs [Zn 4 (-1)] .ret) .skip)) (.seqa (.reg [Zn 5 0] []) (.blk 0 (.loop vS)) [1] [] FU))))
def aN:List RV:=[.t 4]
theorem m103:be Tryz.prog 103 2 A103 aN=true:=by kernel_rfl
def A104:aq:=(Zs [Zn 4 0] (Zs [Zm 5 1,Zm 6 0,Zk 7 6,Zb 8 .sub 5 7,Zm 1 8] (.seq (Zs [Zm 9 1,Zd 10 .lss 9 0] (.cond (Zt 10) (Zs [Zn 4 (-1)] .ret) .skip)) (Zs [Zm 11 1,Zm 4 11] .ret))))
theorem m104:be Tryz.prog 104 2 A104 aN=true:=by kernel_rfl
def A29:aq:=(Zs [Zo 2 (.box 2 (Zt 0)),Zn 4 0] (Zs [Za 5 0 2,Zl 6 5,Zm 7 1,Zo 8 (.call 103 [(Zt 6),(Zt 7)]),Zm 1 8] (.seq (Zs [Zm 9 1,Zd 10 .lss 9 0] (.cond (Zt 10) (Zs [Zn 4 (-1)] .ret) .skip)) (Zs [Za 11 1 2,Zl 12 11,Zm 13 1,Zo 14 (.call 104 [(Zt 12),(Zt 13)]),Zm 1 14] (.seq (Zs [Zm 15 1,Zd 16 .lss 15 0] (.cond (Zt 16) (Zs [Zn 4 (-1)] .ret) .skip)) (Zs [Zm 17 1,Zm 4 17] .ret))))))
theorem m29:be Tryz.prog 29 2 A29 aN=true:=by kernel_rfl
def A43:aq:=(Zs [Zn 4 0] (Zs [Zm 5 1,Zm 6 0,Zk 7 6,Zb 8 .sub 5 7,Zm 1 8] (.seq (Zs [Zm 9 1,Zd 10 .lss 9 0] (.cond (Zt 10) (Zs [Zn 4 (-1)] .ret) .skip)) (Zs [Zm 11 1,Zm 4 11] .ret))))
theorem m43:be Tryz.prog 43 2 A43 aN=true:=by kernel_rfl
def vM:aq:=(.seq (Zs [Zm 8 4,Zm 9 0,Zk 10 9,Zb 11 .lss 8 10] (.cond (Zt 11) .skip (.exit 0))) (.seq (.blk 1 (.reg [Zm 14 3,Zm 15 4,Zm 16 0,Zm 17 4,Zx 18 1 16 17,Zl 19 18,Zx 20 1 14 15,Zw (.store 1 (Zt 20) (Zt 19))] [])) (.reg [Zm 12 4,Zd 13 .add 12 1,Zm 4 13] [])))
def Ee:aq:=(.seq (.reg [Zm 21 3,Zm 2 21] [.s 2]) .ret)
def A110:aq:=(.seq (.reg [Zo 2 (.mv (.c (.lst .u 1 [])))] [.s 2]) (.seq (.reg [Zm 5 0,Zk 6 5,Zo 7 (.mks 1 (.z ⟨#[]⟩) 16 (Zt 6) (Zt 6)),Zm 3 7] [.s 3]) (.seqa (.reg [Zn 4 0] []) (.blk 0 (.loop vM)) [3] [3] Ee)))
def bq:List RV:=[.t 2]
theorem m110:be Tryz.prog 110 1 A110 bq=true:=by kernel_rfl
def A174:aq:=(Zs [Zo 1 (.box 4 (Zt 0)),Zo 2 (.alloc (.agg [.i 0,.i 0,.i 0,.i 0]))] (Zs [Zo 3 (.alloc (.agg [.i 0,.i 0,.i 0,.i 0]))] (Zs [Za 4 0 1,Zl 5 4,Za 6 0 3,Zw (.store 1 (Zt 6) (Zt 5))] (Zs [Za 7 1 1,Zl 8 7,Za 9 1 3,Zw (.store 1 (Zt 9) (Zt 8))] (Zs [Za 10 2 1,Zl 11 10,Za 12 2 3,Zw (.store 1 (Zt 12) (Zt 11))] (Zs [Za 13 3 1,Zl 14 13,Za 15 3 3,Zw (.store 1 (Zt 15) (Zt 14))] (Zs [Zv 16 4 3,Zw (.store 4 (Zt 2) (Zt 16))] .ret)))))))
def Cq:List RV:=[.c 2 4 true]
theorem m174:be Tryz.prog 174 1 A174 Cq=true:=by kernel_rfl
def xk:aq:=(.seq (Zs [Zm 8 4,Zm 9 0,Zk 10 9,Zb 11 .lss 8 10] (.cond (Zt 11) .skip (.exit 0))) (.seq (.blk 1 (.reg [Zm 14 3,Zm 15 4,Zm 16 0,Zm 17 4,Zx 18 4 16 17,Zv 19 4 18,Zo 20 (.call 174 [(Zt 19)]),Zx 21 4 14 15,Zw (.store 4 (Zt 21) (Zt 20))] [])) (.reg [Zm 12 4,Zd 13 .add 12 1,Zm 4 13] [])))
def FS:aq:=(.seq (.reg [Zm 22 3,Zm 2 22] [.s 2]) .ret)
def A111:aq:=(.seq (.reg [Zo 2 (.mv (.c (.lst .u 4 [])))] [.s 2]) (.seq (.reg [Zm 5 0,Zk 6 5,Zo 7 (.mks 4 (.agg [.i 0,.i 0,.i 0,.i 0]) 32 (Zt 6) (Zt 6)),Zm 3 7] [.s 3]) (.seqa (.reg [Zn 4 0] []) (.blk 0 (.loop xk)) [3] [3] FS)))
theorem m111:be Tryz.prog 111 1 A111 bq=true:=by kernel_rfl
def A32:aq:=(Zs [Zo 1 (.box 2 (Zt 0)),Zo 2 (.alloc (.agg [.lst .u 1 [],.lst .u 4 []]))] (Zs [Zo 3 (.alloc (.agg [.lst .u 1 [],.lst .u 4 []]))] (Zs [Za 4 0 1,Zl 5 4,Zo 6 (.call 110 [(Zt 5)]),Za 7 0 3,Zw (.store 1 (Zt 7) (Zt 6))] (Zs [Za 8 1 1,Zl 9 8,Zo 10 (.call 111 [(Zt 9)]),Za 11 1 3,Zw (.store 1 (Zt 11) (Zt 10))] (Zs [Zv 12 2 3,Zw (.store 2 (Zt 2) (Zt 12))] .ret)))))
def V32:List RV:=[.c 2 2 true]
theorem m32:be Tryz.prog 32 1 A32 V32=true:=by kernel_rfl
def A123:aq:=(Zs [Zo 1 (.box 2 (Zt 0)),Zo 2 (.alloc (.agg [.i 0,.i 0]))] (Zs [Zo 3 (.alloc (.agg [.i 0,.i 0]))] (Zs [Za 4 0 1,Zl 5 4,Za 6 0 3,Zw (.store 1 (Zt 6) (Zt 5))] (Zs [Za 7 1 1,Zl 8 7,Za 9 1 3,Zw (.store 1 (Zt 9) (Zt 8))] (Zs [Zv 10 2 3,Zw (.store 2 (Zt 2) (Zt 10))] .ret)))))
theorem m123:be Tryz.prog 123 1 A123 V32=true:=by kernel_rfl
def HC:aq:=(.seq (Zs [Zm 8 4,Zm 9 0,Zk 10 9,Zb 11 .lss 8 10] (.cond (Zt 11) .skip (.exit 0))) (.seq (.blk 1 (.reg [Zm 14 3,Zm 15 4,Zm 16 0,Zm 17 4,Zx 18 2 16 17,Zv 19 2 18,Zo 20 (.call 123 [(Zt 19)]),Zx 21 2 14 15,Zw (.store 2 (Zt 21) (Zt 20))] [])) (.reg [Zm 12 4,Zd 13 .add 12 1,Zm 4 13] [])))
def OD:aq:=(.seq (.reg [Zm 22 3,Zm 2 22] [.s 2]) .ret)
def A45:aq:=(.seq (.reg [Zo 2 (.mv (.c (.lst .u 2 [])))] [.s 2]) (.seq (.reg [Zm 5 0,Zk 6 5,Zo 7 (.mks 2 (.agg [.i 0,.i 0]) 16 (Zt 6) (Zt 6)),Zm 3 7] [.s 3]) (.seqa (.reg [Zn 4 0] []) (.blk 0 (.loop HC)) [3] [3] OD)))
theorem m45:be Tryz.prog 45 1 A45 bq=true:=by kernel_rfl
def A46:aq:=(Zs [Zo 1 (.box 4 (Zt 0)),Zo 2 (.alloc (.agg [.i 0,.i 0,.i 0,.i 0]))] (Zs [Zo 3 (.alloc (.agg [.i 0,.i 0,.i 0,.i 0]))] (Zs [Za 4 0 1,Zl 5 4,Za 6 0 3,Zw (.store 1 (Zt 6) (Zt 5))] (Zs [Za 7 1 1,Zl 8 7,Za 9 1 3,Zw (.store 1 (Zt 9) (Zt 8))] (Zs [Za 10 2 1,Zl 11 10,Za 12 2 3,Zw (.store 1 (Zt 12) (Zt 11))] (Zs [Za 13 3 1,Zl 14 13,Za 15 3 3,Zw (.store 1 (Zt 15) (Zt 14))] (Zs [Zv 16 4 3,Zw (.store 4 (Zt 2) (Zt 16))] .ret)))))))
theorem m46:be Tryz.prog 46 1 A46 Cq=true:=by kernel_rfl
def A173:aq:=(Zs [Zo 6 (.mv (Zy false))] (Zs [Zm 7 0,Zm 8 1,Zb 9 .geq 7 8,Zm 10 9,Zg 11 (.mv (Zt 0)) 10 true,Zg 12 (.mv (Zt 2)) 10 true,Zg 13 (.bin .leq (Zt 11) (Zt 12)) 10 true,Zo 14 (.pick (Zt 10) (Zt 13) (Zy false)),Zm 6 14] .ret))
def cQ:List RV:=[.t 6]
theorem m173:be Tryz.prog 173 3 A173 cQ=true:=by kernel_rfl
def A226:aq:=(Zs [Zo 2 (.mv (Zy false))] (Zs [Zm 3 0,Zo 4 (.bin .geq (Zt 3) (.c (.sc (.int .u8 97)))),Zm 5 4,Zg 6 (.mv (Zt 0)) 5 true,Zg 7 (.bin .leq (Zt 6) (.c (.sc (.int .u8 122)))) 5 true,Zo 8 (.pick (Zt 5) (Zt 7) (Zy false)),Zm 9 8,Zg 10 (.mv (Zt 0)) 9 false,Zg 11 (.bin .geq (Zt 10) (.c (.sc (.int .u8 48)))) 9 false,Zg 12 (.mv (Zt 11)) 9 false,Zg 13 (.mv (Zt 0)) 12 true,Zg 14 (.bin .leq (Zt 13) (.c (.sc (.int .u8 57)))) 12 true,Zg 15 (.pick (Zt 12) (Zt 14) (Zy false)) 9 false,Zo 16 (.pick (Zt 9) (Zy true) (Zt 15)),Zm 2 16] .ret))
theorem m226:be Tryz.prog 226 1 A226 bq=true:=by kernel_rfl
def Jj:aq:=(.cond (Zt 17) (Zs [Zo 2 (.mv (Zy false))] .ret) .skip)
def xl:aq:=(.seq (Zs [Zm 18 3,Zm 19 0,Zo 20 (.lenz (Zt 19)),Zb 21 .lss 18 20] (.cond (Zt 21) .skip (.exit 0))) (.seq (.blk 1 (Zs [Zm 24 0,Zm 25 3,Zo 26 (.stri (Zt 24) (Zt 25)),Zo 27 (.call 226 [(Zt 26)]),Zo 28 (.un .not (Zt 27))] (.cond (Zt 28) (Zs [Zo 2 (.mv (Zy false))] .ret) .skip))) (.reg [Zm 22 3,Zd 23 .add 22 1,Zm 3 23] [])))
def Jo:aq:=(Zs [Zo 2 (.mv (Zy true))] .ret)
def A194:aq:=(Zs [Zo 2 (.mv (Zy false))] (.seq (.seqr (.reg [Zm 4 0,Zo 5 (.lenz (Zt 4)),Zo 6 (.call 173 [(Zt 5),(.c (.i 1)),(.c (.i 8))]),Zo 7 (.un .not (Zt 6)),Zm 8 7,Zg 9 (.mv (Zt 0)) 8 false,Zg 10 (.stri (Zt 9) (.c (.i 0))) 8 false,Zg 11 (.bin .lss (Zt 10) (.c (.sc (.int .u8 97)))) 8 false,Zo 12 (.pick (Zt 8) (Zy true) (Zt 11)),Zm 13 12,Zg 14 (.mv (Zt 0)) 13 false,Zg 15 (.stri (Zt 14) (.c (.i 0))) 13 false,Zg 16 (.bin .gtr (Zt 15) (.c (.sc (.int .u8 122)))) 13 false,Zo 17 (.pick (Zt 13) (Zy true) (Zt 16))] []) [0,17] [] Jj) (.seqa (.reg [Zn 3 0] []) (.blk 0 (.loop xl)) [] [] Jo)))
theorem m194:be Tryz.prog 194 1 A194 bq=true:=by kernel_rfl
def wE:aq:=(.seq (Zs [Zm 6 5,Zm 7 0,Zk 8 7,Zb 9 .lss 6 8] (.cond (Zt 9) .skip (.exit 0))) (.seq (.blk 1 (Zs [Zm 12 0,Zm 13 5,Zx 14 1 12 13,Zl 15 14,Zm 16 1,Zb 17 .eql 15 16] (.cond (Zt 17) (Zs [Zm 18 5,Zm 4 18] .ret) .skip))) (.reg [Zm 10 5,Zd 11 .add 10 1,Zm 5 11] [])))
def GH:aq:=(Zs [Zn 4 (-1)] .ret)
def A195:aq:=(Zs [Zn 4 0] (.seqa (.reg [Zn 5 0] []) (.blk 0 (.loop wE)) [] [] GH))
theorem m195:be Tryz.prog 195 2 A195 aN=true:=by kernel_rfl
def A196:aq:=(Zs [Zo 2 (.box 4 (Zt 0)),Zo 4 (.mv (Zy false))] (Zs [Za 5 0 2,Zl 6 5,Zm 7 1,Zd 8 .sub 7 1,Zo 9 (.call 173 [(Zt 6),(.c (.i 0)),(Zt 8)]),Zm 10 9,Zg 11 (.fad 1 (Zt 2)) 10 true,Zg 12 (.load 1 false (Zt 11)) 10 true,Zg 13 (.fad 0 (Zt 2)) 10 true,Zg 14 (.load 1 false (Zt 13)) 10 true,Zg 15 (.bin .add (Zt 14) (.c (.i 1))) 10 true,Zg 16 (.mv (Zt 1)) 10 true,Zg 17 (.bin .sub (Zt 16) (.c (.i 1))) 10 true,Zg 18 (.call 173 [(Zt 12),(Zt 15),(Zt 17)]) 10 true,Zo 19 (.pick (Zt 10) (Zt 18) (Zy false)),Zm 20 19,Zg 21 (.fad 2 (Zt 2)) 20 true,Zg 22 (.load 1 false (Zt 21)) 20 true,Zg 23 (.call 173 [(Zt 22),(.c (.i 1)),(.c (.i 5000))]) 20 true,Zo 24 (.pick (Zt 20) (Zt 23) (Zy false)),Zm 25 24,Zg 26 (.fad 3 (Zt 2)) 25 true,Zg 27 (.load 1 false (Zt 26)) 25 true,Zg 28 (.call 173 [(Zt 27),(.c (.i 0)),(.c (.i 9))]) 25 true,Zo 29 (.pick (Zt 25) (Zt 28) (Zy false)),Zm 4 29] .ret))
theorem m196:be Tryz.prog 196 2 A196 aN=true:=by kernel_rfl
def A197:aq:=(Zs [Zo 2 (.box 4 (Zt 0)),Zo 3 (.box 4 (Zt 1)),Zn 4 0] (.seq (.blk 0 (Zs [Za 6 0 2,Zl 7 6,Za 8 0 3,Zl 9 8,Zb 10 .neq 7 9,Zm 5 10] (.cond (Zt 5) (Zs [Za 11 0 2,Zl 12 11,Za 13 0 3,Zl 14 13,Zb 15 .sub 12 14,Zm 4 15] .ret) (Zs [Za 17 1 2,Zl 18 17,Za 19 1 3,Zl 20 19,Zb 21 .neq 18 20,Zm 16 21] (.cond (Zt 16) (Zs [Za 22 1 2,Zl 23 22,Za 24 1 3,Zl 25 24,Zb 26 .sub 23 25,Zm 4 26] .ret) (Zs [Za 28 2 2,Zl 29 28,Za 30 2 3,Zl 31 30,Zb 32 .neq 29 31,Zm 27 32] (.cond (Zt 27) (Zs [Za 33 2 2,Zl 34 33,Za 35 2 3,Zl 36 35,Zb 37 .sub 34 36,Zm 4 37] .ret) .skip))))))) (Zs [Za 38 3 2,Zl 39 38,Za 40 3 3,Zl 41 40,Zb 42 .sub 39 41,Zm 4 42] .ret)))
theorem m197:be Tryz.prog 197 2 A197 aN=true:=by kernel_rfl
def Gs:aq:=(.cond (Zt 15) (Zs [Zo 2 (.mv (Zy false))] .ret) .skip)
def IL:aq:=(.cond (Zt 41) (Zs [Zo 2 (.mv (Zy false))] .ret) .skip)
def wZ:aq:=(.seq (Zs [Zm 16 3,Za 17 0 1,Zl 18 17,Zk 19 18,Zb 20 .lss 16 19] (.cond (Zt 20) .skip (.exit 0))) (.seq (.blk 1 (.seqr (.drw [Za 23 0 1,Zl 24 23,Zm 25 3,Zx 26 1 24 25,Zl 27 26,Zo 28 (.call 194 [(Zt 27)]),Zo 29 (.un .not (Zt 28)),Zm 30 29,Zg 31 (.fad 0 (Zt 1)) 30 false,Zg 32 (.load 1 false (Zt 31)) 30 false,Zg 33 (.fad 0 (Zt 1)) 30 false,Zg 34 (.load 1 false (Zt 33)) 30 false,Zg 35 (.mv (Zt 3)) 30 false,Zg 36 (.idx 1 (Zt 34) (Zt 35)) 30 false,Zg 37 (.load 1 false (Zt 36)) 30 false,Zg 38 (.call 195 [(Zt 32),(Zt 37)]) 30 false,Zg 39 (.mv (Zt 3)) 30 false,Zg 40 (.bin .neq (Zt 38) (Zt 39)) 30 false,Zo 41 (.pick (Zt 30) (Zy true) (Zt 40))] []) [1,3,41] [1] IL)) (.reg [Zm 21 3,Zd 22 .add 21 1,Zm 3 22] [])))
def CW:aq:=(.cond (Zt 77) (Zs [Zo 2 (.mv (Zy false))] .ret) .skip)
def vc:aq:=(.seq (Zs [Zm 42 4,Za 43 1 1,Zl 44 43,Zk 45 44,Zb 46 .lss 42 45] (.cond (Zt 46) .skip (.exit 2))) (.seq (.blk 3 (.seqr (.drw [Za 49 1 1,Zl 50 49,Zm 51 4,Zx 52 4 50 51,Zv 53 4 52,Za 54 0 1,Zl 55 54,Zk 56 55,Zo 57 (.call 196 [(Zt 53),(Zt 56)]),Zo 58 (.un .not (Zt 57)),Zm 59 58,Zg 60 (.mv (Zt 4)) 59 false,Zg 61 (.bin .gtr (Zt 60) (.c (.i 0))) 59 false,Zg 62 (.mv (Zt 61)) 59 false,Zg 63 (.fad 1 (Zt 1)) 62 true,Zg 64 (.load 1 false (Zt 63)) 62 true,Zg 65 (.mv (Zt 4)) 62 true,Zg 66 (.bin .sub (Zt 65) (.c (.i 1))) 62 true,Zg 67 (.idx 4 (Zt 64) (Zt 66)) 62 true,Zg 68 (.load 4 true (Zt 67)) 62 true,Zg 69 (.fad 1 (Zt 1)) 62 true,Zg 70 (.load 1 false (Zt 69)) 62 true,Zg 71 (.mv (Zt 4)) 62 true,Zg 72 (.idx 4 (Zt 70) (Zt 71)) 62 true,Zg 73 (.load 4 true (Zt 72)) 62 true,Zg 74 (.call 197 [(Zt 68),(Zt 73)]) 62 true,Zg 75 (.bin .gtr (Zt 74) (.c (.i 0))) 62 true,Zg 76 (.pick (Zt 62) (Zt 75) (Zy false)) 59 false,Zo 77 (.pick (Zt 59) (Zy true) (Zt 76))] []) [1,4,77] [1] CW)) (.reg [Zm 47 4,Zd 48 .add 47 1,Zm 4 48] [])))
def HB:aq:=(Zs [Zo 2 (.mv (Zy true))] .ret)
def GP:aq:=(.seqa (.reg [Zn 4 0] []) (.blk 2 (.loop vc)) [] [] HB)
def A131:aq:=(Zs [Zo 1 (.box 2 (Zt 0)),Zo 2 (.mv (Zy false))] (.seq (.seqr (.reg [Za 5 0 1,Zl 6 5,Zk 7 6,Zo 8 (.call 173 [(Zt 7),(.c (.i 2)),(.c (.i 8))]),Zo 9 (.un .not (Zt 8)),Zm 10 9,Zg 11 (.fad 1 (Zt 1)) 10 false,Zg 12 (.load 1 false (Zt 11)) 10 false,Zg 13 (.len (Zt 12)) 10 false,Zg 14 (.bin .gtr (Zt 13) (.c (.i 14))) 10 false,Zo 15 (.pick (Zt 10) (Zy true) (Zt 14))] []) [1,15] [1] Gs) (.seqa (.reg [Zn 3 0] []) (.blk 0 (.loop wZ)) [1] [1] GP)))
theorem m131:be Tryz.prog 131 1 A131 bq=true:=by kernel_rfl
def Fv:aq:=(.cond (Zt 11) .skip (.exit 0))
def Jg:aq:=(.cond (Zt 61) (Zs [Zo 2 (.mv (Zy false))] .ret) .skip)
def vR:aq:=(.seq (.seqr (.reg [Zm 4 3,Zm 5 0,Zk 6 5,Zb 7 .lss 4 6,Zm 8 7,Zg 9 (.mv (Zt 3)) 8 true,Zg 10 (.bin .leq (Zt 9) (.c (.i 6))) 8 true,Zo 11 (.pick (Zt 8) (Zt 10) (Zy false))] []) [0,3,11] [] Fv) (.seq (.blk 1 (.seqr (.drw [Zm 14 0,Zm 15 3,Zx 16 2 14 15,Za 17 0 16,Zl 18 17,Zo 19 (.call 173 [(Zt 18),(.c (.i 1)),(.c (.i 20000))]),Zo 20 (.un .not (Zt 19)),Zm 21 20,Zg 22 (.mv (Zt 0)) 21 false,Zg 23 (.mv (Zt 3)) 21 false,Zg 24 (.idx 2 (Zt 22) (Zt 23)) 21 false,Zg 25 (.fad 1 (Zt 24)) 21 false,Zg 26 (.load 1 false (Zt 25)) 21 false,Zg 27 (.call 173 [(Zt 26),(.c (.i 1)),(.c (.i 1000))]) 21 false,Zg 28 (.un .not (Zt 27)) 21 false,Zo 29 (.pick (Zt 21) (Zy true) (Zt 28)),Zm 30 29,Zg 31 (.mv (Zt 3)) 30 false,Zg 32 (.bin .gtr (Zt 31) (.c (.i 0))) 30 false,Zg 33 (.mv (Zt 32)) 30 false,Zg 34 (.mv (Zt 0)) 33 true,Zg 35 (.mv (Zt 3)) 33 true,Zg 36 (.bin .sub (Zt 35) (.c (.i 1))) 33 true,Zg 37 (.idx 2 (Zt 34) (Zt 36)) 33 true,Zg 38 (.fad 0 (Zt 37)) 33 true,Zg 39 (.load 1 false (Zt 38)) 33 true,Zg 40 (.mv (Zt 0)) 33 true,Zg 41 (.mv (Zt 3)) 33 true,Zg 42 (.idx 2 (Zt 40) (Zt 41)) 33 true,Zg 43 (.fad 0 (Zt 42)) 33 true,Zg 44 (.load 1 false (Zt 43)) 33 true,Zg 45 (.bin .leq (Zt 39) (Zt 44)) 33 true,Zg 46 (.mv (Zt 45)) 33 true,Zg 47 (.mv (Zt 0)) 46 false,Zg 48 (.mv (Zt 3)) 46 false,Zg 49 (.bin .sub (Zt 48) (.c (.i 1))) 46 false,Zg 50 (.idx 2 (Zt 47) (Zt 49)) 46 false,Zg 51 (.fad 1 (Zt 50)) 46 false,Zg 52 (.load 1 false (Zt 51)) 46 false,Zg 53 (.mv (Zt 0)) 46 false,Zg 54 (.mv (Zt 3)) 46 false,Zg 55 (.idx 2 (Zt 53) (Zt 54)) 46 false,Zg 56 (.fad 1 (Zt 55)) 46 false,Zg 57 (.load 1 false (Zt 56)) 46 false,Zg 58 (.bin .geq (Zt 52) (Zt 57)) 46 false,Zg 59 (.pick (Zt 46) (Zy true) (Zt 58)) 33 true,Zg 60 (.pick (Zt 33) (Zt 59) (Zy false)) 30 false,Zo 61 (.pick (Zt 30) (Zy true) (Zt 60))] []) [0,3,61] [] Jg)) (.reg [Zm 12 3,Zd 13 .add 12 1,Zm 3 13] [])))
def CX:aq:=(Zs [Zm 62 0,Zk 63 62,Zo 64 (.call 173 [(Zt 63),(.c (.i 1)),(.c (.i 6))]),Zm 2 64] .ret)
def A182:aq:=(Zs [Zo 2 (.mv (Zy false))] (.seqa (.reg [Zn 3 0] []) (.blk 0 (.loop vR)) [0] [] CX))
theorem m182:be Tryz.prog 182 1 A182 bq=true:=by kernel_rfl
def A183:aq:=(Zs [Zo 2 (.box 2 (Zt 0)),Zo 3 (.box 4 (Zt 1)),Zo 4 (.mv (Zy false))] (Zs [Za 6 0 2,Zl 7 6,Zk 8 7,Zm 5 8] (Zs [Za 9 0 3,Zl 10 9,Zm 11 5,Zd 12 .sub 11 1,Zo 13 (.call 173 [(Zt 10),(.c (.i 0)),(Zt 12)]),Zm 14 13,Zg 15 (.fad 1 (Zt 3)) 14 true,Zg 16 (.load 1 false (Zt 15)) 14 true,Zg 17 (.mv (Zt 5)) 14 true,Zg 18 (.bin .sub (Zt 17) (.c (.i 1))) 14 true,Zg 19 (.call 173 [(Zt 16),(.c (.i 0)),(Zt 18)]) 14 true,Zo 20 (.pick (Zt 14) (Zt 19) (Zy false)),Zm 21 20,Zg 22 (.fad 0 (Zt 3)) 21 true,Zg 23 (.load 1 false (Zt 22)) 21 true,Zg 24 (.fad 1 (Zt 3)) 21 true,Zg 25 (.load 1 false (Zt 24)) 21 true,Zg 26 (.bin .neq (Zt 23) (Zt 25)) 21 true,Zo 27 (.pick (Zt 21) (Zt 26) (Zy false)),Zm 28 27,Zg 29 (.fad 2 (Zt 3)) 28 true,Zg 30 (.load 1 false (Zt 29)) 28 true,Zg 31 (.call 173 [(Zt 30),(.c (.i 1)),(.c (.i 1000))]) 28 true,Zo 32 (.pick (Zt 28) (Zt 31) (Zy false)),Zm 33 32,Zg 34 (.fad 3 (Zt 3)) 33 true,Zg 35 (.load 1 false (Zt 34)) 33 true,Zg 36 (.call 173 [(Zt 35),(.c (.i 0)),(.c (.i 2))]) 33 true,Zo 37 (.pick (Zt 33) (Zt 36) (Zy false)),Zm 4 37] .ret)))
theorem m183:be Tryz.prog 183 2 A183 aN=true:=by kernel_rfl
def Fo:aq:=(.seq (Zs [Zm 7 6,Za 8 1 3,Zl 9 8,Zk 10 9,Zb 11 .lss 7 10] (.cond (Zt 11) .skip (.exit 0))) (.seq (.blk 1 (.drw [Zm 14 5,Za 15 1 2,Zl 16 15,Za 17 1 3,Zl 18 17,Zm 19 6,Zx 20 1 18 19,Zl 21 20,Zx 22 4 16 21,Za 23 2 22,Zl 24 23,Zb 25 .add 14 24,Zm 5 25] [])) (.reg [Zm 12 6,Zd 13 .add 12 1,Zm 6 13] [])))
def OO:aq:=(Zs [Zm 26 5,Zm 4 26] .ret)
def A91:aq:=(Zs [Zo 2 (.box 2 (Zt 0)),Zo 3 (.box 2 (Zt 1)),Zn 4 0] (Zs [Zn 5 0] (.seqa (.reg [Zn 6 0] []) (.blk 0 (.loop Fo)) [5] [] OO)))
theorem m91:be Tryz.prog 91 2 A91 aN=true:=by kernel_rfl
def A278:aq:=(Zs [Zn 2 0] (.seq (.blk 0 (Zs [Zm 4 0,Zd 5 .lss 4 0,Zm 3 5] (.cond (Zt 3) (Zs [Zn 2 (-1)] .ret) (Zs [Zm 7 0,Zd 8 .gtr 7 0,Zm 6 8] (.cond (Zt 6) (Zs [Zn 2 1] .ret) .skip))))) (Zs [Zn 2 0] .ret)))
theorem m278:be Tryz.prog 278 1 A278 bq=true:=by kernel_rfl
def vP:aq:=(.seq (Zs [Zm 32 9,Za 33 1 4,Zl 34 33,Zk 35 34,Zb 36 .lss 32 35] (.cond (Zt 36) .skip (.exit 0))) (.seq (.blk 1 (.seq (.drw [Za 39 1 4,Zl 40 39,Zm 41 9,Zx 42 1 40 41,Zl 43 42,Za 44 1 5,Zl 45 44,Zm 46 9,Zx 47 1 45 46,Zl 48 47,Zb 49 .neq 43 48] []) (.cond (Zt 49) (.seq (.drw [Za 50 1 4,Zl 51 50,Zm 52 9,Zx 53 1 51 52,Zl 54 53,Za 55 1 5,Zl 56 55,Zm 57 9,Zx 58 1 56 57,Zl 59 58,Zb 60 .sub 54 59,Zo 61 (.call 278 [(Zt 60)]),Zm 6 61] []) .ret) .skip))) (.reg [Zm 37 9,Zd 38 .add 37 1,Zm 9 38] [])))
def DF:aq:=(Zs [Za 62 0 4,Zl 63 62,Za 64 0 5,Zl 65 64,Zb 66 .sub 63 65,Zo 67 (.call 278 [(Zt 66)]),Zm 6 67] .ret)
def A274:aq:=(Zs [Zo 3 (.box 2 (Zt 0)),Zo 4 (.box 2 (Zt 1)),Zo 5 (.box 2 (Zt 2)),Zn 6 0] (.seq (.seq (.drw [Zv 10 2 3,Zv 11 2 4,Zo 12 (.call 91 [(Zt 10),(Zt 11)]),Zv 13 2 3,Zv 14 2 5,Zo 15 (.call 91 [(Zt 13),(Zt 14)]),Zb 16 .sub 12 15,Zm 7 16] []) (Zs [Zm 17 7,Zd 18 .neq 17 0] (.cond (Zt 18) (Zs [Zm 19 7,Zo 20 (.call 278 [(Zt 19)]),Zm 6 20] .ret) .skip))) (.seq (Zs [Za 21 1 4,Zl 22 21,Zk 23 22,Za 24 1 5,Zl 25 24,Zk 26 25,Zb 27 .sub 23 26,Zm 8 27] (Zs [Zm 28 8,Zd 29 .neq 28 0] (.cond (Zt 29) (Zs [Zm 30 8,Zo 31 (.call 278 [(Zt 30)]),Zm 6 31] .ret) .skip))) (.seqa (.reg [Zn 9 0] []) (.blk 0 (.loop vP)) [4,5] [4,5] DF))))
theorem m274:be Tryz.prog 274 3 A274 cQ=true:=by kernel_rfl
def A233:aq:=(Zs [Zo 3 (.box 2 (Zt 0)),Zn 6 0] (Zs [Za 8 1 3,Zl 9 8,Zm 10 1,Zx 11 4 9 10,Zv 12 4 11,Zo 7 (.alloc (.agg [.i 0,.i 0,.i 0,.i 0])),Zw (.store 4 (Zt 7) (Zt 12))] (.seq (Zs [Zm 13 2] (.blk 0 (Zs [Za 15 0 7,Zl 16 15,Zb 17 .eql 13 16,Zm 14 17] (.cond (Zt 14) (Zs [Za 18 1 7,Zl 19 18,Zm 6 19] .ret) (Zs [Za 21 1 7,Zl 22 21,Zb 23 .eql 13 22,Zm 20 23] (.cond (Zt 20) (Zs [Za 24 0 7,Zl 25 24,Zm 6 25] .ret) .skip)))))) (Zs [Zn 6 (-1)] .ret))))
theorem m233:be Tryz.prog 233 3 A233 cQ=true:=by kernel_rfl
def Ew:aq:=(.seq (Zs [Zm 6 5,Zm 7 0,Zk 8 7,Zb 9 .lss 6 8] (.cond (Zt 9) .skip (.exit 0))) (.seq (.blk 1 (Zs [Zm 12 0,Zm 13 5,Zx 14 1 12 13,Zl 15 14,Zm 16 1,Zb 17 .eql 15 16] (.cond (Zt 17) (Zs [Zo 4 (.mv (Zy true))] .ret) .skip))) (.reg [Zm 10 5,Zd 11 .add 10 1,Zm 5 11] [])))
def Oz:aq:=(Zs [Zo 4 (.mv (Zy false))] .ret)
def A74:aq:=(Zs [Zo 4 (.mv (Zy false))] (.seqa (.reg [Zn 5 0] []) (.blk 0 (.loop Ew)) [] [] Oz))
theorem m74:be Tryz.prog 74 2 A74 aN=true:=by kernel_rfl
def A107:aq:=(.seq (.reg [Zo 2 (.mv (.c (.lst .u 1 [])))] [.s 2]) (.seq (.reg [Zo 3 (.bsl 1 false []),Zm 4 0,Zo 5 (.app 1 8 false (Zt 3) (Zt 4)),Zm 2 5] [.s 2]) .ret))
theorem m107:be Tryz.prog 107 1 A107 bq=true:=by kernel_rfl
def vx:aq:=(.seq (Zs [Zm 7 6,Zm 8 0,Zk 9 8,Zb 10 .lss 7 9] (.cond (Zt 10) .skip (.exit 0))) (.seq (.blk 1 (Zs [Zm 13 0,Zm 14 6,Zx 15 2 13 14,Za 16 0 15,Zl 17 16,Zm 18 1,Zb 19 .geq 17 18] (.cond (Zt 19) (.reg [Zm 20 6,Zm 5 20] []) .skip))) (.reg [Zm 11 6,Zd 12 .add 11 1,Zm 6 12] [])))
def Dm:aq:=(Zs [Zm 21 5,Zm 4 21] .ret)
def A165:aq:=(Zs [Zn 4 0] (Zs [Zn 5 (-1)] (.seqa (.reg [Zn 6 0] []) (.blk 0 (.loop vx)) [5] [] Dm)))
theorem m165:be Tryz.prog 165 2 A165 aN=true:=by kernel_rfl
def A90:aq:=(Zs [Zn 6 0] (Zs [Zm 9 0,Zm 10 1,Zo 11 (.call 165 [(Zt 9),(Zt 10)]),Zm 7 11] (.seq (Zs [Zm 12 7,Zd 13 .lss 12 0] (.cond (Zt 13) (Zs [Zn 6 0] .ret) .skip)) (.seq (.drw [Zm 14 2,Zm 15 0,Zm 16 7,Zx 17 2 15 16,Za 18 1 17,Zl 19 18,Zb 20 .add 14 19,Zd 21 .sub 20 1,Zm 22 0,Zm 23 7,Zx 24 2 22 23,Za 25 1 24,Zl 26 25,Zb 27 .quo 21 26,Zm 8 27] []) (.seq (Zs [Zm 28 8,Zd 29 .gtr 28 24] (.cond (Zt 29) (Zs [Zn 6 0] .ret) .skip)) (Zs [Zm 30 8,Zm 6 30] .ret))))))
theorem m90:be Tryz.prog 90 3 A90 cQ=true:=by kernel_rfl
def vu:aq:=(.seq (Zs [Zm 17 6,Za 18 1 2,Zl 19 18,Zk 20 19,Zb 21 .lss 17 20] (.cond (Zt 21) .skip (.exit 0))) (.seq (.blk 1 (.seq (.drw [Za 24 1 2,Zl 25 24,Zm 26 6,Zx 27 4 25 26,Za 28 3 27,Zl 29 28,Za 30 1 2,Zl 31 30,Zm 32 1,Zx 33 4 31 32,Za 34 3 33,Zl 35 34,Zb 36 .eql 29 35] []) (.cond (Zt 36) (.reg [Zm 37 5,Zm 38 6,Zo 39 (.bsl 1 false [(Zt 38)]),Zo 40 (.app 1 8 true (Zt 37) (Zt 39)),Zm 5 40] [.s 5]) .skip))) (.reg [Zm 22 6,Zd 23 .add 22 1,Zm 6 23] [])))
def Ix:aq:=(.seq (.reg [Zm 41 5,Zm 4 41] [.s 4]) .ret)
def A192:aq:=(.seq (.reg [Zo 2 (.box 2 (Zt 0)),Zo 4 (.mv (.c (.lst .u 1 [])))] [.s 4]) (.seq (Zs [Za 7 1 2,Zl 8 7,Zm 9 1,Zx 10 4 8 9,Za 11 3 10,Zl 12 11,Zd 13 .eql 12 0] (.cond (Zt 13) (.seq (.reg [Zm 14 1,Zo 15 (.bsl 1 false [(Zt 14)]),Zm 4 15] [.s 4]) .ret) .skip)) (.seq (.reg [Zo 16 (.bsl 1 false []),Zm 5 16] [.s 5]) (.seqa (.reg [Zn 6 0] []) (.blk 0 (.loop vu)) [5] [5] Ix))))
theorem m192:be Tryz.prog 192 2 A192 aN=true:=by kernel_rfl
def vr:aq:=(.seq (Zs [Zm 24 9,Za 25 1 5,Zl 26 25,Zk 27 26,Zb 28 .lss 24 27] (.cond (Zt 28) .skip (.exit 2))) (.seq (.blk 3 (Zs [Zm 31 8,Za 32 1 5,Zl 33 32,Zm 34 9,Zx 35 1 33 34,Zl 36 35,Zo 37 (.call 74 [(Zt 31),(Zt 36)])] (.cond (Zt 37) (Zs [Zo 6 (.mv (Zy false))] .ret) .skip))) (.reg [Zm 29 9,Zd 30 .add 29 1,Zm 9 30] [])))
def JS:aq:=(.reg [Zm 15 7,Zd 16 .add 15 1,Zm 7 16] [])
def xD:aq:=(.seq (Zs [Zm 10 7,Za 11 1 4,Zl 12 11,Zk 13 12,Zb 14 .lss 10 13] (.cond (Zt 14) .skip (.exit 0))) (.seqr (.blk 1 (.seq (.drw [Zv 17 2 3,Za 18 1 4,Zl 19 18,Zm 20 7,Zx 21 1 19 20,Zl 22 21,Zo 23 (.call 192 [(Zt 17),(Zt 22)]),Zm 8 23] [.s 8]) (Zs [Zn 9 0] (.blk 2 (.loop vr))))) [3,4,5,7] [3,4,5] JS))
def GZ:aq:=(Zs [Zo 6 (.mv (Zy true))] .ret)
def A185:aq:=(Zs [Zo 3 (.box 2 (Zt 0)),Zo 4 (.box 2 (Zt 1)),Zo 5 (.box 2 (Zt 2)),Zo 6 (.mv (Zy false))] (.seqa (.reg [Zn 7 0] []) (.blk 0 (.loop xD)) [] [] GZ))
theorem m185:be Tryz.prog 185 3 A185 cQ=true:=by kernel_rfl
def Gu:aq:=(.cond (Zt 79) (.exit 3) .skip)
def GB:aq:=(.cond (Zt 88) (Zs [Zm 89 11,Zm 8 89] (Zs [Zm 90 12,Zm 9 90] (.reg [Zm 91 13,Zm 92 14,Zb 93 .add 91 92,Zm 10 93] []))) .skip)
def vK:aq:=(.seq (Zs [Zm 21 12,Zm 22 1,Zk 23 22,Zb 24 .lss 21 23] (.cond (Zt 24) .skip (.exit 2))) (.seq (.blk 3 (.seq (.drw [Zm 27 2,Zm 28 11,Zx 29 1 27 28,Zl 30 29,Zm 31 1,Zm 32 11,Zx 33 2 31 32,Za 34 1 33,Zl 35 34,Zk 36 35,Zb 37 .mul 30 36,Zm 38 2,Zm 39 12,Zx 40 1 38 39,Zl 41 40,Zm 42 1,Zm 43 12,Zx 44 2 42 43,Za 45 1 44,Zl 46 45,Zk 47 46,Zb 48 .mul 41 47,Zm 13 37,Zm 14 48] []) (.seq (.seqr (.drw [Zm 49 11,Zm 50 12,Zb 51 .eql 49 50,Zm 52 51,Zg 53 (.mv (Zt 13)) 52 false,Zg 54 (.mv (Zt 14)) 52 false,Zg 55 (.bin .gtr (Zt 53) (Zt 54)) 52 false,Zo 56 (.pick (Zt 52) (Zy true) (Zt 55)),Zm 57 56,Zg 58 (.mv (Zt 13)) 57 false,Zg 59 (.mv (Zt 14)) 57 false,Zg 60 (.bin .eql (Zt 58) (Zt 59)) 57 false,Zg 61 (.mv (Zt 60)) 57 false,Zg 62 (.mv (Zt 11)) 61 true,Zg 63 (.mv (Zt 12)) 61 true,Zg 64 (.bin .gtr (Zt 62) (Zt 63)) 61 true,Zg 65 (.pick (Zt 61) (Zt 64) (Zy false)) 57 false,Zo 66 (.pick (Zt 57) (Zy true) (Zt 65)),Zm 67 66,Zg 68 (.load 2 true (Zt 3)) 67 false,Zg 69 (.mv (Zt 1)) 67 false,Zg 70 (.mv (Zt 11)) 67 false,Zg 71 (.idx 2 (Zt 69) (Zt 70)) 67 false,Zg 72 (.load 2 true (Zt 71)) 67 false,Zg 73 (.mv (Zt 1)) 67 false,Zg 74 (.mv (Zt 12)) 67 false,Zg 75 (.idx 2 (Zt 73) (Zt 74)) 67 false,Zg 76 (.load 2 true (Zt 75)) 67 false,Zg 77 (.call 185 [(Zt 68),(Zt 72),(Zt 76)]) 67 false,Zg 78 (.un .not (Zt 77)) 67 false,Zo 79 (.pick (Zt 67) (Zy true) (Zt 78))] []) [1,2,3,8,9,10,11,12,13,14,79] [3] Gu) (.seqr (.reg [Zm 80 8,Zd 81 .lss 80 0,Zm 82 81,Zg 83 (.mv (Zt 13)) 82 false,Zg 84 (.mv (Zt 14)) 82 false,Zg 85 (.bin .add (Zt 83) (Zt 84)) 82 false,Zg 86 (.mv (Zt 10)) 82 false,Zg 87 (.bin .lss (Zt 85) (Zt 86)) 82 false,Zo 88 (.pick (Zt 82) (Zy true) (Zt 87))] []) [1,2,3,8,9,10,11,12,13,14,88] [3] GB)))) (.reg [Zm 25 12,Zd 26 .add 25 1,Zm 12 26] [])))
def Ds:aq:=(.reg [Zm 19 11,Zd 20 .add 19 1,Zm 11 20] [])
def wm:aq:=(.seq (Zs [Zm 15 11,Zm 16 1,Zk 17 16,Zb 18 .lss 15 17] (.cond (Zt 18) .skip (.exit 0))) (.seqr (.blk 1 (Zs [Zn 12 0] (.blk 2 (.loop vK)))) [1,2,3,8,9,10,11] [3] Ds))
def Ez:aq:=(Zs [Zm 94 8,Zm 95 9,Zm 6 94,Zm 7 95] .ret)
def A122:aq:=(Zs [Zo 3 (.box 2 (Zt 0)),Zn 6 0,Zn 7 0] (Zs [Zn 8 (-1),Zn 9 (-1),Zn 10 0] (.seqa (.reg [Zn 11 0] []) (.blk 0 (.loop wm)) [8,9] [] Ez)))
def hM:List RV:=[.t 6,.t 7]
theorem m122:be Tryz.prog 122 3 A122 hM=true:=by kernel_rfl
def pQ:aq:=(.seq (.seq (.drw [Zm 10 4,Zd 11 .gtr 10 0,Zm 12 11,Zg 13 (.mv (Zt 0)) 12 true,Zg 14 (.nilc (Zt 13)) 12 true,Zg 15 (.fad 0 (Zt 14)) 12 true,Zg 16 (.load 2 true (Zt 15)) 12 true,Zg 17 (.load 2 true (Zt 3)) 12 true,Zg 18 (.mv (Zt 0)) 12 true,Zg 19 (.nilc (Zt 18)) 12 true,Zg 20 (.fad 3 (Zt 19)) 12 true,Zg 21 (.load 1 false (Zt 20)) 12 true,Zg 22 (.mv (Zt 4)) 12 true,Zg 23 (.bin .sub (Zt 22) (.c (.i 1))) 12 true,Zg 24 (.idx 2 (Zt 21) (Zt 23)) 12 true,Zg 25 (.load 2 true (Zt 24)) 12 true,Zg 26 (.call 274 [(Zt 16),(Zt 17),(Zt 25)]) 12 true,Zg 27 (.bin .lss (Zt 26) (.c (.i 0))) 12 true,Zo 28 (.pick (Zt 12) (Zt 27) (Zy false))] []) (.cond (Zt 28) .skip (.exit 0))) (.blk 1 (.reg [Zm 29 4,Zd 30 .sub 29 1,Zm 4 30] [])))
def uo:aq:=(.drw [Zm 31 0,Zo 32 (.bsl 2 true []),Zm 33 0,Zo 34 (.nilc (Zt 33)),Za 35 3 34,Zl 36 35,Zm 37 4,Zo 38 (.slc 2 (Zt 36) none (some (Zt 37)) none),Zo 39 (.app 2 32 false (Zt 32) (Zt 38)),Zv 40 2 3,Zo 41 (.bsl 2 true [(Zt 40)]),Zo 42 (.app 2 32 true (Zt 39) (Zt 41)),Zm 43 0,Zo 44 (.nilc (Zt 43)),Za 45 3 44,Zl 46 45,Zm 47 4,Zo 48 (.slc 2 (Zt 46) (some (Zt 47)) none none),Zo 49 (.app 2 32 false (Zt 42) (Zt 48)),Zo 50 (.nilc (Zt 31)),Za 51 3 50,Zw (.store 1 (Zt 51) (Zt 49))] [])
def DJ:aq:=(Zs [Zo 3 (.box 2 (Zt 1))] (Zs [Zm 5 0,Zo 6 (.nilc (Zt 5)),Za 7 3 6,Zl 8 7,Zk 9 8,Zm 4 9] (.seqr (.blk 0 (.loop pQ)) [0,3,4] [3,1000000000,1000000001] uo)))
def bW:List RV:=[]
theorem PN:be Tryz.prog 261 2 DJ bW=true:=by kernel_rfl
def oo:aq:=(.seq (.seq (.drw [Zm 10 4,Zd 11 .gtr 10 0,Zm 12 11,Zg 13 (.mv (Zt 0)) 12 true,Zg 14 (.nilc (Zt 13)) 12 true,Zg 15 (.fad 0 (Zt 14)) 12 true,Zg 16 (.load 2 true (Zt 15)) 12 true,Zg 17 (.load 2 true (Zt 3)) 12 true,Zg 18 (.mv (Zt 0)) 12 true,Zg 19 (.nilc (Zt 18)) 12 true,Zg 20 (.fad 3 (Zt 19)) 12 true,Zg 21 (.load 1 false (Zt 20)) 12 true,Zg 22 (.mv (Zt 4)) 12 true,Zg 23 (.bin .sub (Zt 22) (.c (.i 1))) 12 true,Zg 24 (.idx 2 (Zt 21) (Zt 23)) 12 true,Zg 25 (.load 2 true (Zt 24)) 12 true,Zg 26 (.call 274 [(Zt 16),(Zt 17),(Zt 25)]) 12 true,Zg 27 (.bin .lss (Zt 26) (.c (.i 0))) 12 true,Zo 28 (.pick (Zt 12) (Zt 27) (Zy false))] []) (.cond (Zt 28) .skip (.exit 0))) (.blk 1 (.reg [Zm 29 4,Zd 30 .sub 29 1,Zm 4 30] [])))
def tu:aq:=(.drw [Zm 31 0,Zo 32 (.bsl 2 true []),Zm 33 0,Zo 34 (.nilc (Zt 33)),Za 35 3 34,Zl 36 35,Zm 37 4,Zo 38 (.slc 2 (Zt 36) none (some (Zt 37)) none),Zo 39 (.app 2 32 false (Zt 32) (Zt 38)),Zv 40 2 3,Zo 41 (.bsl 2 true [(Zt 40)]),Zo 42 (.app 2 32 true (Zt 39) (Zt 41)),Zm 43 0,Zo 44 (.nilc (Zt 43)),Za 45 3 44,Zl 46 45,Zm 47 4,Zo 48 (.slc 2 (Zt 46) (some (Zt 47)) none none),Zo 49 (.app 2 32 false (Zt 42) (Zt 48)),Zo 50 (.nilc (Zt 31)),Za 51 3 50,Zw (.store 1 (Zt 51) (Zt 49))] [])
def Fc:aq:=(Zs [Zo 3 (.box 2 (Zt 1))] (Zs [Zm 5 0,Zo 6 (.nilc (Zt 5)),Za 7 3 6,Zl 8 7,Zk 9 8,Zm 4 9] (.seqr (.blk 0 (.loop oo)) [0,3,4] [3,1000000000,1000000001] tu)))
theorem QS:be Tryz.prog 261 2 Fc bW=true:=by kernel_rfl
def rh:aq:=(.cond (Zt 39) .skip (.exit 0))
def ri:aq:=(.cond (Zt 56) (.drw [Zm 57 0,Zo 58 (.fdv [65,71,470000003,1000000000] 0 (Zt 4)),Zo 59 (.ldv [65,71,470000003,1000000000] 1 false (Zt 58)),Zo 60 (.fdv [65,71,470000003,1000000000] 1 (Zt 4)),Zo 61 (.ldv [65,71,470000003,1000000000] 1 false (Zt 60)),Zo 62 (.call 107 [(Zt 61)]),Zm 63 7,Zo 64 (.bsl 1 true [(Zt 63)]),Zo 65 (.app 1 8 true (Zt 62) (Zt 64)),Zo 66 (.build [.i 0,.lst .u 1 []] [(0,1,(Zt 59)),(1,1,(Zt 65))]),Zm 67 2,Zo 68 (.call 107 [(Zt 67)]),Zm 69 8,Zo 70 (.bsl 1 true [(Zt 69)]),Zo 71 (.app 1 8 true (Zt 68) (Zt 70)),Zo 72 (.callM 240 [(Zt 57),(Zt 66),(Zt 71)] [1000000000,470000003,65,71])] [.f true 470000003 1000000000 3]) .skip)
def mC:aq:=(.seq (.seqr (.reg [Zm 24 7,Zm 25 0,Zo 26 (.nilc (Zt 25)),Za 27 0 26,Za 28 1 27,Zl 29 28,Zk 30 29,Zb 31 .lss 24 30,Zm 32 31,Zg 33 (.mv (Zt 0)) 32 true,Zg 34 (.nilc (Zt 33)) 32 true,Zg 35 (.fad 3 (Zt 34)) 32 true,Zg 36 (.load 1 false (Zt 35)) 32 true,Zg 37 (.len (Zt 36)) 32 true,Zg 38 (.bin .leq (Zt 37) (.c (.i 200))) 32 true,Zo 39 (.pick (Zt 32) (Zt 38) (Zy false))] []) [0,2,4,6,7,39] [4,470000003,1000000000,1000000003] rh) (.seq (.blk 1 (Zs [Zm 42 0,Zo 43 (.nilc (Zt 42)),Za 44 0 43,Zv 45 2 44,Zm 46 7,Zm 47 6,Zo 48 (.call 233 [(Zt 45),(Zt 46),(Zt 47)]),Zm 8 48] (.seqr (.reg [Zm 49 8,Zd 50 .geq 49 0,Zm 51 50,Zg 52 (.mv (Zt 2)) 51 true,Zg 53 (.mv (Zt 8)) 51 true,Zg 54 (.call 74 [(Zt 52),(Zt 53)]) 51 true,Zg 55 (.un .not (Zt 54)) 51 true,Zo 56 (.pick (Zt 51) (Zt 55) (Zy false))] []) [0,2,4,6,7,8,56] [4,470000003,1000000000,1000000003] ri))) (.reg [Zm 40 7,Zd 41 .add 40 1,Zm 7 41] [])))
def yW:aq:=(.seq (.reg [Zo 4 (.box 2 (Zt 1))] [.w 4,.f true 470000003 1000000000 3,.f true 500000257 4 1]) (Zs [Zm 9 2,Zm 10 2,Zk 11 10,Zd 12 .sub 11 1,Zx 13 1 9 12,Zl 14 13,Zm 6 14] (.seq (Zs [Zm 15 6,Zm 16 0,Zo 17 (.nilc (Zt 16)),Za 18 2 17,Zl 19 18,Zb 20 .eql 15 19] (.cond (Zt 20) (.seq (.reg [Zm 21 0,Zv 22 2 4,Zo 23 (.callM 261 [(Zt 21),(Zt 22)] [1000000000,470000003])] [.f true 470000003 1000000000 3]) .ret) .skip)) (Zs [Zn 7 0] (.blk 0 (.loop mC))))))
theorem KA:be Tryz.prog 240 3 yW bW=true:=by kernel_rfl
def uF:aq:=(.cond (Zt 39) .skip (.exit 0))
def uG:aq:=(.cond (Zt 56) (.drw [Zm 57 0,Zo 58 (.fdv [65,71,470000003,1000000000] 0 (Zt 4)),Zo 59 (.ldv [65,71,470000003,1000000000] 1 false (Zt 58)),Zo 60 (.fdv [65,71,470000003,1000000000] 1 (Zt 4)),Zo 61 (.ldv [65,71,470000003,1000000000] 1 false (Zt 60)),Zo 62 (.call 107 [(Zt 61)]),Zm 63 7,Zo 64 (.bsl 1 true [(Zt 63)]),Zo 65 (.app 1 8 true (Zt 62) (Zt 64)),Zo 66 (.build [.i 0,.lst .u 1 []] [(0,1,(Zt 59)),(1,1,(Zt 65))]),Zm 67 2,Zo 68 (.call 107 [(Zt 67)]),Zm 69 8,Zo 70 (.bsl 1 true [(Zt 69)]),Zo 71 (.app 1 8 true (Zt 68) (Zt 70)),Zo 72 (.callM 240 [(Zt 57),(Zt 66),(Zt 71)] [1000000000,470000003,65,71])] [.f true 470000003 1000000000 3]) .skip)
def oP:aq:=(.seq (.seqr (.reg [Zm 24 7,Zm 25 0,Zo 26 (.nilc (Zt 25)),Za 27 0 26,Za 28 1 27,Zl 29 28,Zk 30 29,Zb 31 .lss 24 30,Zm 32 31,Zg 33 (.mv (Zt 0)) 32 true,Zg 34 (.nilc (Zt 33)) 32 true,Zg 35 (.fad 3 (Zt 34)) 32 true,Zg 36 (.load 1 false (Zt 35)) 32 true,Zg 37 (.len (Zt 36)) 32 true,Zg 38 (.bin .leq (Zt 37) (.c (.i 200))) 32 true,Zo 39 (.pick (Zt 32) (Zt 38) (Zy false))] []) [0,2,4,6,7,39] [4,470000003,1000000000,1000000001] uF) (.seq (.blk 1 (Zs [Zm 42 0,Zo 43 (.nilc (Zt 42)),Za 44 0 43,Zv 45 2 44,Zm 46 7,Zm 47 6,Zo 48 (.call 233 [(Zt 45),(Zt 46),(Zt 47)]),Zm 8 48] (.seqr (.reg [Zm 49 8,Zd 50 .geq 49 0,Zm 51 50,Zg 52 (.mv (Zt 2)) 51 true,Zg 53 (.mv (Zt 8)) 51 true,Zg 54 (.call 74 [(Zt 52),(Zt 53)]) 51 true,Zg 55 (.un .not (Zt 54)) 51 true,Zo 56 (.pick (Zt 51) (Zt 55) (Zy false))] []) [0,2,4,6,7,8,56] [4,470000003,1000000000,1000000001] uG))) (.reg [Zm 40 7,Zd 41 .add 40 1,Zm 7 41] [])))
def GR:aq:=(.seq (.reg [Zo 4 (.box 2 (Zt 1))] [.w 4,.f true 470000003 1000000000 3]) (Zs [Zm 9 2,Zm 10 2,Zk 11 10,Zd 12 .sub 11 1,Zx 13 1 9 12,Zl 14 13,Zm 6 14] (.seq (Zs [Zm 15 6,Zm 16 0,Zo 17 (.nilc (Zt 16)),Za 18 2 17,Zl 19 18,Zb 20 .eql 15 19] (.cond (Zt 20) (.seq (.reg [Zm 21 0,Zv 22 2 4,Zo 23 (.callM 261 [(Zt 21),(Zt 22)] [1000000000,470000003])] [.f true 470000003 1000000000 3]) .ret) .skip)) (Zs [Zn 7 0] (.blk 0 (.loop oP))))))
theorem RL:be Tryz.prog 240 3 GR bW=true:=by kernel_rfl
def GK:aq:=(.seq (.reg [Zo 3 (.box 2 (Zt 0)),Zo 6 (.mv (.c (.lst .u 2 []))),Zo 7 (.mv (Zy false))] [.s 6]) (Zs [Zv 9 2 3,Zm 10 2,Zo 11 (.build [.lst .u 1 [],.lst .u 4 [],.i 0,.lst .u 2 []] [(0,2,(Zt 9)),(2,1,(Zt 10))]),Zo 12 (.box 4 (Zt 11)),Zm 8 12] (Zs [Zm 13 8,Zm 14 1,Zo 15 (.build [.i 0,.lst .u 1 []] [(0,1,(Zt 14))]),Zm 16 1,Zo 17 (.bsl 1 false [(Zt 16)]),Zo 18 (.callM 240 [(Zt 13),(Zt 15),(Zt 17)] [12,17])] (.seq (Zs [Zm 19 8,Zo 20 (.nilc (Zt 19)),Za 21 3 20,Zl 22 21,Zk 23 22,Zd 24 .gtr 23 200] (.cond (Zt 24) (.seq (.reg [Zo 25 (.bsl 2 false []),Zm 6 25,Zo 7 (.mv (Zy false))] [.s 6]) .ret) .skip)) (.seq (.reg [Zo 26 (.bsl 2 false []),Zm 27 8,Zo 28 (.nilc (Zt 27)),Za 29 3 28,Zl 30 29,Zo 31 (.app 2 32 false (Zt 26) (Zt 30)),Zm 6 31,Zo 7 (.mv (Zy true))] [.s 6]) .ret)))))
theorem RQ:be Tryz.prog 218 3 GK hM=true:=by kernel_rfl
def pq:aq:=(.seq (Zs [Zm 30 13,Zm 31 11,Zk 32 31,Zb 33 .lss 30 32] (.cond (Zt 33) .skip (.exit 0))) (.seq (.blk 1 (.seq (.drw [Zm 36 1,Zv 37 2 3,Zm 38 11,Zm 39 13,Zx 40 2 38 39,Zv 41 2 40,Zo 42 (.call 91 [(Zt 37),(Zt 41)]),Za 43 2 5,Zl 44 43,Zo 45 (.call 90 [(Zt 36),(Zt 42),(Zt 44)]),Zm 14 45] []) (Zs [Zm 46 14,Zd 47 .gtr 46 0] (.cond (Zt 47) (.seq (.reg [Zm 48 9,Zm 49 11,Zm 50 13,Zx 51 2 49 50,Zv 52 2 51,Zo 53 (.bsl 2 false [(Zt 52)]),Zo 54 (.app 2 32 true (Zt 48) (Zt 53)),Zm 9 54] [.s 9]) (.reg [Zm 55 10,Zm 56 14,Zo 57 (.bsl 1 false [(Zt 56)]),Zo 58 (.app 1 8 true (Zt 55) (Zt 57)),Zm 10 58] [.s 10])) .skip)))) (.reg [Zm 34 13,Zd 35 .add 34 1,Zm 13 35] [])))
def tm:aq:=(.seq (.reg [Zm 59 9,Zm 60 10,Zm 6 59,Zm 7 60,Zo 8 (.mv (Zy true))] [.s 6,.s 7]) .ret)
def Du:aq:=(.seq (.reg [Zo 3 (.box 2 (Zt 0)),Zo 5 (.box 4 (Zt 2)),Zo 6 (.mv (.c (.lst .u 2 []))),Zo 7 (.mv (.c (.lst .u 1 []))),Zo 8 (.mv (Zy false))] [.s 6,.s 7,.w 3,.w 3]) (.seq (.reg [Zo 15 (.bsl 2 false []),Zo 16 (.bsl 1 false []),Zm 9 15,Zm 10 16] [.s 9,.s 10]) (.seq (.reg [Zv 18 2 3,Za 19 0 5,Zl 20 19,Za 21 1 5,Zl 22 21,Zo 23 (.callM 218 [(Zt 18),(Zt 20),(Zt 22)] []),Zm 17 23,Ze 24 17 0,Ze 25 17 1,Zm 11 24,Zm 12 25] [.s 11]) (.seq (Zs [Zm 26 12,Zo 27 (.un .not (Zt 26))] (.cond (Zt 27) (.seq (.reg [Zm 28 9,Zm 29 10,Zm 6 28,Zm 7 29,Zo 8 (.mv (Zy false))] [.s 6,.s 7]) .ret) .skip)) (.seqa (.reg [Zn 13 0] []) (.blk 0 (.loop pq)) [9,10] [9,10,1000000000] tm)))))
def jy:List RV:=[.t 6,.t 7,.t 8]
theorem Ro:be Tryz.prog 184 3 Du jy=true:=by kernel_rfl
def td:aq:=(.cond (Zt 22) (.seq (.reg [Zo 23 (.bsl 2 false []),Zo 24 (.bsl 1 false []),Zm 6 23,Zm 7 24,Zo 8 (.mv (Zy false))] [.s 6,.s 7]) .ret) .skip)
def FW:aq:=(.seq (.reg [Zo 3 (.box 2 (Zt 0)),Zo 5 (.box 4 (Zt 2)),Zo 6 (.mv (.c (.lst .u 2 []))),Zo 7 (.mv (.c (.lst .u 1 []))),Zo 8 (.mv (Zy false))] [.s 6,.s 7]) (.seq (.seqr (.reg [Zv 9 2 3,Zo 10 (.call 131 [(Zt 9)]),Zo 11 (.un .not (Zt 10)),Zm 12 11,Zg 13 (.mv (Zt 1)) 12 false,Zg 14 (.call 182 [(Zt 13)]) 12 false,Zg 15 (.un .not (Zt 14)) 12 false,Zo 16 (.pick (Zt 12) (Zy true) (Zt 15)),Zm 17 16,Zg 18 (.load 2 true (Zt 3)) 17 false,Zg 19 (.load 4 true (Zt 5)) 17 false,Zg 20 (.call 183 [(Zt 18),(Zt 19)]) 17 false,Zg 21 (.un .not (Zt 20)) 17 false,Zo 22 (.pick (Zt 17) (Zy true) (Zt 21))] []) [1,3,5,22] [3,5,1000000000] td) (.seq (.reg [Zv 25 2 3,Zm 26 1,Zv 27 4 5,Zo 28 (.callM 184 [(Zt 25),(Zt 26),(Zt 27)] [1000000000]),Ze 29 28 0,Ze 30 28 1,Ze 31 28 2,Zm 6 29,Zm 7 30,Zm 8 31] [.s 6,.s 7]) .ret)))
theorem PW:be Tryz.prog 121 3 FW jy=true:=by kernel_rfl
def OK:aq:=(.seq (.reg [Zo 3 (.box 2 (Zt 0)),Zo 5 (.box 4 (Zt 2)),Zo 6 (.alloc (.agg [.i 0,.lst .u 1 []])),Zo 7 (.alloc (.agg [.i 0,.lst .u 1 []])),Zo 8 (.mv (Zy false))] [.w 3,.w 3]) (.seq (.reg [Zv 15 2 3,Zm 16 1,Zv 17 4 5,Zo 18 (.callM 121 [(Zt 15),(Zt 16),(Zt 17)] [1000000002]),Zm 14 18,Ze 19 14 0,Ze 20 14 1,Ze 21 14 2,Zm 9 19,Zm 10 20,Zm 11 21] [.s 9,.s 10]) (.seq (Zs [Zm 22 11,Zo 23 (.un .not (Zt 22))] (.cond (Zt 23) (.seq (.reg [Zo 24 (.build [.i 0,.lst .u 1 []] []),Zo 25 (.build [.i 0,.lst .u 1 []] []),Zw (.store 2 (Zt 6) (Zt 24)),Zw (.store 2 (Zt 7) (Zt 25)),Zo 8 (.mv (Zy false))] [.w 6,.w 7]) .ret) .skip)) (Zs [Zv 27 2 3,Zm 28 9,Zm 29 10,Zo 30 (.call 122 [(Zt 27),(Zt 28),(Zt 29)]),Zm 26 30,Ze 31 26 0,Ze 32 26 1,Zm 12 31,Zm 13 32] (.seq (Zs [Zm 33 12,Zd 34 .lss 33 0] (.cond (Zt 34) (.seq (.reg [Zo 35 (.build [.i 0,.lst .u 1 []] []),Zo 36 (.build [.i 0,.lst .u 1 []] []),Zw (.store 2 (Zt 6) (Zt 35)),Zw (.store 2 (Zt 7) (Zt 36)),Zo 8 (.mv (Zy false))] [.w 6,.w 7]) .ret) .skip)) (.seq (.drw [Zm 37 9,Zm 38 12,Zx 39 2 37 38,Zo 40 (.lda 2 true (Zt 39)),Zm 41 9,Zm 42 13,Zx 43 2 41 42,Zo 44 (.lda 2 true (Zt 43)),Zw (.stv 2 (Zt 6) (Zt 40)),Zw (.stv 2 (Zt 7) (Zt 44)),Zo 8 (.mv (Zy true))] [.w 6,.w 7]) .ret))))))
def mM:List RV:=[.c 6 2 true,.c 7 2 true,.t 8]
theorem Sf:be Tryz.prog 44 3 OK mM=true:=by kernel_rfl
def A76:aq:=(Zs [Zo 6 (.mv (Zy false))] (Zs [Zm 7 1,Zm 8 0,Zb 9 .leq 7 8,Zm 10 9,Zg 11 (.mv (Zt 0)) 10 true,Zg 12 (.mv (Zt 2)) 10 true,Zg 13 (.bin .leq (Zt 11) (Zt 12)) 10 true,Zo 14 (.pick (Zt 10) (Zt 13) (Zy false)),Zm 6 14] .ret))
theorem m76:be Tryz.prog 76 3 A76 cQ=true:=by kernel_rfl
def vZ:aq:=(Zs [Zb 8 .lss 7 6] (.seq (.cond (Zt 8) .skip (.exit 0)) (.seq (.blk 1 (Zs [Zm 9 7,Zx 10 2 5 7,Zv 11 2 10,Zo 4 (.alloc (.agg [.i 0,.i 0])),Zm 3 9,Zw (.store 2 (Zt 4) (Zt 11))] (.seq (.drw [Za 12 0 4,Zl 13 12,Zo 14 (.call 76 [(Zt 13),(.c (.i 1)),(.c (.i 20000))]),Zo 15 (.un .not (Zt 14)),Zm 16 15,Zg 17 (.fad 1 (Zt 4)) 16 false,Zg 18 (.load 1 false (Zt 17)) 16 false,Zg 19 (.call 76 [(Zt 18),(.c (.i 1)),(.c (.i 1000))]) 16 false,Zg 20 (.un .not (Zt 19)) 16 false,Zo 21 (.pick (Zt 16) (Zy true) (Zt 20)),Zm 22 21,Zg 23 (.mv (Zt 3)) 22 false,Zg 24 (.bin .gtr (Zt 23) (.c (.i 0))) 22 false,Zg 25 (.mv (Zt 24)) 22 false,Zg 26 (.mv (Zt 0)) 25 true,Zg 27 (.mv (Zt 3)) 25 true,Zg 28 (.bin .sub (Zt 27) (.c (.i 1))) 25 true,Zg 29 (.idx 2 (Zt 26) (Zt 28)) 25 true,Zg 30 (.fad 0 (Zt 29)) 25 true,Zg 31 (.load 1 false (Zt 30)) 25 true,Zg 32 (.fad 0 (Zt 4)) 25 true,Zg 33 (.load 1 false (Zt 32)) 25 true,Zg 34 (.bin .leq (Zt 31) (Zt 33)) 25 true,Zg 35 (.mv (Zt 34)) 25 true,Zg 36 (.mv (Zt 0)) 35 false,Zg 37 (.mv (Zt 3)) 35 false,Zg 38 (.bin .sub (Zt 37) (.c (.i 1))) 35 false,Zg 39 (.idx 2 (Zt 36) (Zt 38)) 35 false,Zg 40 (.fad 1 (Zt 39)) 35 false,Zg 41 (.load 1 false (Zt 40)) 35 false,Zg 42 (.fad 1 (Zt 4)) 35 false,Zg 43 (.load 1 false (Zt 42)) 35 false,Zg 44 (.bin .geq (Zt 41) (Zt 43)) 35 false,Zg 45 (.pick (Zt 35) (Zy true) (Zt 44)) 25 true,Zg 46 (.pick (Zt 25) (Zt 45) (Zy false)) 22 false,Zo 47 (.pick (Zt 22) (Zy true) (Zt 46))] []) (.cond (Zt 47) (Zs [Zo 2 (.mv (Zy false))] .ret) .skip)))) (.reg [Zd 48 .add 7 1,Zm 7 48] []))))
def Jy:aq:=(Zs [Zm 49 0,Zk 50 49,Zo 51 (.call 76 [(Zt 50),(.c (.i 1)),(.c (.i 6))]),Zm 2 51] .ret)
def A219:aq:=(Zs [Zo 2 (.mv (Zy false))] (.seqa (.reg [Zm 5 0,Zk 6 5,Zn 7 0] []) (.blk 0 (.loop vZ)) [0] [] Jy))
theorem m219:be Tryz.prog 219 1 A219 bq=true:=by kernel_rfl
def IM:aq:=(Zs [Zm 31 4,Zo 32 (.un .not (Zt 31)),Zm 33 32,Zg 34 (.mv (Zt 5)) 33 true,Zg 35 (.un .not (Zt 34)) 33 true,Zg 36 (.mv (Zt 35)) 33 true,Zg 37 (.mv (Zt 3)) 36 false,Zg 38 (.bin .eql (Zt 37) (.c (.i 0))) 36 false,Zg 39 (.pick (Zt 36) (Zy true) (Zt 38)) 33 true,Zo 40 (.pick (Zt 33) (Zt 39) (Zy false))] (.cond (Zt 40) (Zs [Zo 2 (.mv (Zy false))] .ret) .skip))
def wh:aq:=(Zs [Zb 9 .lss 8 7] (.seq (.cond (Zt 9) .skip (.exit 0)) (.seq (.blk 1 (Zs [Zm 10 8,Zm 3 10] (.seqr (.drw [Zm 11 0,Zm 12 3,Zo 13 (.stri (Zt 11) (Zt 12)),Zo 14 (.bin .geq (Zt 13) (.c (.sc (.int .u8 97)))),Zm 15 14,Zg 16 (.mv (Zt 0)) 15 true,Zg 17 (.mv (Zt 3)) 15 true,Zg 18 (.stri (Zt 16) (Zt 17)) 15 true,Zg 19 (.bin .leq (Zt 18) (.c (.sc (.int .u8 122)))) 15 true,Zo 20 (.pick (Zt 15) (Zt 19) (Zy false)),Zm 21 0,Zm 22 3,Zo 23 (.stri (Zt 21) (Zt 22)),Zo 24 (.bin .geq (Zt 23) (.c (.sc (.int .u8 48)))),Zm 25 24,Zg 26 (.mv (Zt 0)) 25 true,Zg 27 (.mv (Zt 3)) 25 true,Zg 28 (.stri (Zt 26) (Zt 27)) 25 true,Zg 29 (.bin .leq (Zt 28) (.c (.sc (.int .u8 57)))) 25 true,Zo 30 (.pick (Zt 25) (Zt 29) (Zy false)),Zm 4 20,Zm 5 30] []) [0,3,4,5,7,8] [] IM))) (.reg [Zd 41 .add 8 1,Zm 8 41] []))))
def Il:aq:=(Zs [Zm 42 0,Zo 43 (.lenz (Zt 42)),Zo 44 (.call 76 [(Zt 43),(.c (.i 1)),(.c (.i 8))]),Zm 2 44] .ret)
def A147:aq:=(Zs [Zo 2 (.mv (Zy false))] (.seqa (.reg [Zm 6 0,Zo 7 (.lenz (Zt 6)),Zn 8 0] []) (.blk 0 (.loop wh)) [0] [] Il))
theorem m147:be Tryz.prog 147 1 A147 bq=true:=by kernel_rfl
def xo:aq:=(Zs [Zb 9 .lss 8 7] (.seq (.cond (Zt 9) .skip (.exit 0)) (.seq (.blk 1 (Zs [Zm 10 8,Zm 5 10] (Zs [Zm 11 1,Zm 12 0,Zm 13 5,Zx 14 1 12 13,Zl 15 14,Zb 16 .eql 11 15] (.cond (Zt 16) (Zs [Zm 17 5,Zm 4 17] .ret) .skip)))) (.reg [Zd 18 .add 8 1,Zm 8 18] []))))
def DZ:aq:=(Zs [Zn 4 (-1)] .ret)
def A206:aq:=(Zs [Zn 4 0] (.seqa (.reg [Zm 6 0,Zk 7 6,Zn 8 0] []) (.blk 0 (.loop xo)) [] [] DZ))
theorem m206:be Tryz.prog 206 2 A206 aN=true:=by kernel_rfl
def A148:aq:=(Zs [Zo 4 (.mv (Zy false))] (Zs [Zm 5 0,Zm 6 1,Zo 7 (.call 206 [(Zt 5),(Zt 6)]),Zd 8 .geq 7 0,Zm 4 8] .ret))
theorem m148:be Tryz.prog 148 2 A148 aN=true:=by kernel_rfl
def A224:aq:=(Zs [Zo 2 (.mv (Zy false))] (Zs [Zm 3 0,Zm 4 0,Zb 5 .neq 3 4,Zm 2 5] .ret))
theorem m224:be Tryz.prog 224 1 A224 bq=true:=by kernel_rfl
def A189:aq:=(Zs [Zn 4 0] (Zs [Zm 7 0,Zo 8 (.call 224 [(Zt 7)]),Zm 5 8] (Zs [Zm 9 1,Zo 10 (.call 224 [(Zt 9)]),Zm 6 10] (.seq (Zs [Zm 11 5] (.cond (Zt 11) (.seq (Zs [Zm 12 6] (.cond (Zt 12) (Zs [Zn 4 0] .ret) .skip)) (Zs [Zn 4 (-1)] .ret)) .skip)) (.seq (Zs [Zm 13 6] (.cond (Zt 13) (Zs [Zn 4 1] .ret) .skip)) (.seq (Zs [Zm 14 0,Zm 15 1,Zb 16 .lss 14 15] (.cond (Zt 16) (Zs [Zn 4 (-1)] .ret) .skip)) (.seq (Zs [Zm 17 0,Zm 18 1,Zb 19 .gtr 17 18] (.cond (Zt 19) (Zs [Zn 4 1] .ret) .skip)) (Zs [Zn 4 0] .ret))))))))
theorem m189:be Tryz.prog 189 2 A189 aN=true:=by kernel_rfl
def wo:aq:=(Zs [Zb 9 .lss 8 7] (.seq (.cond (Zt 9) .skip (.exit 0)) (.seq (.blk 1 (Zs [Zx 10 1 6 8,Zl 11 10,Zm 5 11] (Zs [Zm 12 5,Zm 13 3,Zb 14 .neq 12 13] (.cond (Zt 14) (Zs [Zm 15 5,Zm 2 15] .ret) .skip)))) (.reg [Zd 16 .add 8 1,Zm 8 16] []))))
def JP:aq:=(Zs [Zm 17 3,Zm 2 17] .ret)
def A188:aq:=(Zs [Zn 2 0] (Zs [Zn 3 0] (.seqa (.reg [Zm 6 0,Zk 7 6,Zn 8 0] []) (.blk 0 (.loop wo)) [3] [] JP)))
theorem m188:be Tryz.prog 188 1 A188 bq=true:=by kernel_rfl
def A149:aq:=(Zs [Zo 2 (.box 4 (Zt 0)),Zo 3 (.box 4 (Zt 1)),Zn 4 0] (.seq (.drw [Za 5 0 2,Zl 6 5,Za 7 0 3,Zl 8 7,Zo 9 (.call 189 [(Zt 6),(Zt 8)]),Za 10 1 2,Zl 11 10,Za 12 1 3,Zl 13 12,Zo 14 (.call 189 [(Zt 11),(Zt 13)]),Za 15 2 2,Zl 16 15,Za 17 2 3,Zl 18 17,Zo 19 (.call 189 [(Zt 16),(Zt 18)]),Za 20 3 2,Zl 21 20,Za 22 3 3,Zl 23 22,Zo 24 (.call 189 [(Zt 21),(Zt 23)]),Zo 25 (.bsl 1 true [(Zt 9),(Zt 14),(Zt 19),(Zt 24)]),Zo 26 (.call 188 [(Zt 25)]),Zm 4 26] []) .ret))
theorem m149:be Tryz.prog 149 2 A149 aN=true:=by kernel_rfl
def Kf:aq:=(Zs [Zb 11 .lss 10 9] (.seq (.cond (Zt 11) .skip (.exit 0)) (.seq (.blk 1 (Zs [Zm 12 10,Zx 13 1 8 10,Zl 14 13,Zm 3 12,Zm 4 14] (Zs [Zm 15 4,Zo 16 (.call 147 [(Zt 15)]),Zo 17 (.un .not (Zt 16)),Zm 18 17,Zg 19 (.fad 0 (Zt 1)) 18 false,Zg 20 (.load 1 false (Zt 19)) 18 false,Zg 21 (.mv (Zt 3)) 18 false,Zg 22 (.slc 1 (Zt 20) none (some (Zt 21)) none) 18 false,Zg 23 (.mv (Zt 4)) 18 false,Zg 24 (.call 148 [(Zt 22),(Zt 23)]) 18 false,Zo 25 (.pick (Zt 18) (Zy true) (Zt 24))] (.cond (Zt 25) (Zs [Zo 2 (.mv (Zy false))] .ret) .skip)))) (.reg [Zd 26 .add 10 1,Zm 10 26] []))))
def EJ:aq:=(Zs [Zb 31 .lss 30 29] (.seq (.cond (Zt 31) .skip (.exit 2)) (.seq (.blk 3 (Zs [Zm 32 30,Zx 33 4 28 30,Zv 34 4 33,Zo 6 (.alloc (.agg [.i 0,.i 0,.i 0,.i 0])),Zm 5 32,Zw (.store 4 (Zt 6) (Zt 34))] (.seq (.drw [Za 35 0 6,Zl 36 35,Zd 37 .lss 36 0,Zm 38 37,Zg 39 (.fad 0 (Zt 6)) 38 false,Zg 40 (.load 1 false (Zt 39)) 38 false,Zg 41 (.fad 1 (Zt 6)) 38 false,Zg 42 (.load 1 false (Zt 41)) 38 false,Zg 43 (.bin .geq (Zt 40) (Zt 42)) 38 false,Zo 44 (.pick (Zt 38) (Zy true) (Zt 43)),Zm 45 44,Zg 46 (.fad 1 (Zt 6)) 45 false,Zg 47 (.load 1 false (Zt 46)) 45 false,Zg 48 (.fad 0 (Zt 1)) 45 false,Zg 49 (.load 1 false (Zt 48)) 45 false,Zg 50 (.len (Zt 49)) 45 false,Zg 51 (.bin .geq (Zt 47) (Zt 50)) 45 false,Zo 52 (.pick (Zt 45) (Zy true) (Zt 51)),Zm 53 52,Zg 54 (.fad 2 (Zt 6)) 53 false,Zg 55 (.load 1 false (Zt 54)) 53 false,Zg 56 (.call 76 [(Zt 55),(.c (.i 1)),(.c (.i 5000))]) 53 false,Zg 57 (.un .not (Zt 56)) 53 false,Zo 58 (.pick (Zt 53) (Zy true) (Zt 57)),Zm 59 58,Zg 60 (.fad 3 (Zt 6)) 59 false,Zg 61 (.load 1 false (Zt 60)) 59 false,Zg 62 (.call 76 [(Zt 61),(.c (.i 0)),(.c (.i 9))]) 59 false,Zg 63 (.un .not (Zt 62)) 59 false,Zo 64 (.pick (Zt 59) (Zy true) (Zt 63)),Zm 65 64,Zg 66 (.mv (Zt 5)) 65 false,Zg 67 (.bin .gtr (Zt 66) (.c (.i 0))) 65 false,Zg 68 (.mv (Zt 67)) 65 false,Zg 69 (.fad 1 (Zt 1)) 68 true,Zg 70 (.load 1 false (Zt 69)) 68 true,Zg 71 (.mv (Zt 5)) 68 true,Zg 72 (.bin .sub (Zt 71) (.c (.i 1))) 68 true,Zg 73 (.idx 4 (Zt 70) (Zt 72)) 68 true,Zg 74 (.load 4 true (Zt 73)) 68 true,Zg 75 (.load 4 true (Zt 6)) 68 true,Zg 76 (.call 149 [(Zt 74),(Zt 75)]) 68 true,Zg 77 (.bin .gtr (Zt 76) (.c (.i 0))) 68 true,Zg 78 (.pick (Zt 68) (Zt 77) (Zy false)) 65 false,Zo 79 (.pick (Zt 65) (Zy true) (Zt 78))] []) (.cond (Zt 79) (Zs [Zo 2 (.mv (Zy false))] .ret) .skip)))) (.reg [Zd 80 .add 30 1,Zm 30 80] []))))
def Pe:aq:=(Zs [Za 81 0 1,Zl 82 81,Zk 83 82,Zo 84 (.call 76 [(Zt 83),(.c (.i 2)),(.c (.i 8))]),Zm 85 84,Zg 86 (.fad 1 (Zt 1)) 85 true,Zg 87 (.load 1 false (Zt 86)) 85 true,Zg 88 (.len (Zt 87)) 85 true,Zg 89 (.bin .leq (Zt 88) (.c (.i 14))) 85 true,Zo 90 (.pick (Zt 85) (Zt 89) (Zy false)),Zm 2 90] .ret)
def Pc:aq:=(.seqa (.reg [Za 27 1 1,Zl 28 27,Zk 29 28,Zn 30 0] []) (.blk 2 (.loop EJ)) [1] [1] Pe)
def A81:aq:=(Zs [Zo 1 (.box 2 (Zt 0)),Zo 2 (.mv (Zy false))] (.seqa (.reg [Za 7 0 1,Zl 8 7,Zk 9 8,Zn 10 0] []) (.blk 0 (.loop Kf)) [1] [1] Pc))
theorem m81:be Tryz.prog 81 1 A81 bq=true:=by kernel_rfl
def A243:aq:=(Zs [Zo 2 (.box 2 (Zt 0)),Zo 3 (.box 4 (Zt 1)),Zo 4 (.mv (Zy false))] (Zs [Za 6 0 2,Zl 7 6,Zk 8 7,Zd 9 .sub 8 1,Zm 5 9] (Zs [Za 10 0 3,Zl 11 10,Zm 12 5,Zo 13 (.call 76 [(Zt 11),(.c (.i 0)),(Zt 12)]),Zm 14 13,Zg 15 (.fad 1 (Zt 3)) 14 true,Zg 16 (.load 1 false (Zt 15)) 14 true,Zg 17 (.mv (Zt 5)) 14 true,Zg 18 (.call 76 [(Zt 16),(.c (.i 0)),(Zt 17)]) 14 true,Zo 19 (.pick (Zt 14) (Zt 18) (Zy false)),Zm 20 19,Zg 21 (.fad 0 (Zt 3)) 20 true,Zg 22 (.load 1 false (Zt 21)) 20 true,Zg 23 (.fad 1 (Zt 3)) 20 true,Zg 24 (.load 1 false (Zt 23)) 20 true,Zg 25 (.bin .neq (Zt 22) (Zt 24)) 20 true,Zo 26 (.pick (Zt 20) (Zt 25) (Zy false)),Zm 27 26,Zg 28 (.fad 2 (Zt 3)) 27 true,Zg 29 (.load 1 false (Zt 28)) 27 true,Zg 30 (.call 76 [(Zt 29),(.c (.i 1)),(.c (.i 1000))]) 27 true,Zo 31 (.pick (Zt 27) (Zt 30) (Zy false)),Zm 32 31,Zg 33 (.fad 3 (Zt 3)) 32 true,Zg 34 (.load 1 false (Zt 33)) 32 true,Zg 35 (.call 76 [(Zt 34),(.c (.i 0)),(.c (.i 2))]) 32 true,Zo 36 (.pick (Zt 32) (Zt 35) (Zy false)),Zm 4 36] .ret)))
theorem m243:be Tryz.prog 243 2 A243 aN=true:=by kernel_rfl
def A242:aq:=(Zs [Zo 2 (.box 4 (Zt 0)),Zo 3 (.mv (Zy false))] (Zs [Zv 4 2 1,Zv 5 4 2,Zo 6 (.call 243 [(Zt 4),(Zt 5)]),Zo 7 (.un .not (Zt 6)),Zm 3 7] .ret))
def sr:List RV:=[.t 3]
theorem m242:be Tryz.prog 242 2 A242 sr=true:=by kernel_rfl
def vO:aq:=(Zs [Zb 9 .lss 8 7] (.seq (.cond (Zt 9) .skip (.exit 0)) (.seq (.blk 1 (Zs [Zm 10 8,Zm 5 10] (Zs [Zm 11 1,Zm 12 0,Zm 13 5,Zx 14 4 12 13,Zv 15 4 14,Zo 16 (.dyn (Zt 11) [(Zt 15)])] (.cond (Zt 16) (Zs [Zm 17 5,Zm 4 17] .ret) .skip)))) (.reg [Zd 18 .add 8 1,Zm 8 18] []))))
def Hh:aq:=(Zs [Zn 4 (-1)] .ret)
def A262:aq:=(Zs [Zn 4 0] (.seqa (.reg [Zm 6 0,Zk 7 6,Zn 8 0] []) (.blk 0 (.loop vO)) [] [] Hh))
theorem m262:be Tryz.prog 262 2 A262 aN=true:=by kernel_rfl
def A241:aq:=(Zs [Zo 4 (.mv (Zy false))] (Zs [Zm 5 0,Zm 6 1,Zo 7 (.call 262 [(Zt 5),(Zt 6)]),Zd 8 .geq 7 0,Zm 4 8] .ret))
theorem m241:be Tryz.prog 241 2 A241 aN=true:=by kernel_rfl
def A220:aq:=(Zs [Zo 2 (.box 2 (Zt 0)),Zo 4 (.mv (Zy false))] (Zs [Zv 5 2 2,Zo 6 (.call 81 [(Zt 5)]),Zm 7 6,Zg 8 (.mv (Zt 1)) 7 true,Zg 9 (.len (Zt 8)) 7 true,Zg 10 (.bin .leq (Zt 9) (.c (.i 12))) 7 true,Zo 11 (.pick (Zt 7) (Zt 10) (Zy false)),Zm 12 11,Zg 13 (.mv (Zt 1)) 12 true,Zg 14 (.mkf 242 [(Zt 2)]) 12 true,Zg 15 (.call 241 [(Zt 13),(Zt 14)]) 12 true,Zg 16 (.un .not (Zt 15)) 12 true,Zo 17 (.pick (Zt 12) (Zt 16) (Zy false)),Zm 4 17] .ret))
theorem m220:be Tryz.prog 220 2 A220 aN=true:=by kernel_rfl
def A263:aq:=(Zs [Zo 3 (.mv (Zy false))] (Zs [Zm 4 0,Za 5 0 1,Zl 6 5,Zk 7 6,Zd 8 .sub 7 1,Zo 9 (.call 76 [(Zt 4),(.c (.i 0)),(Zt 8)]),Zo 10 (.un .not (Zt 9)),Zm 3 10] .ret))
theorem m263:be Tryz.prog 263 2 A263 sr=true:=by kernel_rfl
def ws:aq:=(Zs [Zb 9 .lss 8 7] (.seq (.cond (Zt 9) .skip (.exit 0)) (.seq (.blk 1 (Zs [Zm 10 8,Zm 5 10] (Zs [Zm 11 1,Zm 12 0,Zm 13 5,Zx 14 1 12 13,Zl 15 14,Zo 16 (.dyn (Zt 11) [(Zt 15)])] (.cond (Zt 16) (Zs [Zm 17 5,Zm 4 17] .ret) .skip)))) (.reg [Zd 18 .add 8 1,Zm 8 18] []))))
def Ep:aq:=(Zs [Zn 4 (-1)] .ret)
def A217:aq:=(Zs [Zn 4 0] (.seqa (.reg [Zm 6 0,Zk 7 6,Zn 8 0] []) (.blk 0 (.loop ws)) [] [] Ep))
theorem m217:be Tryz.prog 217 2 A217 aN=true:=by kernel_rfl
def A177:aq:=(Zs [Zo 4 (.mv (Zy false))] (Zs [Zm 5 0,Zm 6 1,Zo 7 (.call 217 [(Zt 5),(Zt 6)]),Zd 8 .geq 7 0,Zm 4 8] .ret))
theorem m177:be Tryz.prog 177 2 A177 aN=true:=by kernel_rfl
def A244:aq:=(Zs [Zo 2 (.box 2 (Zt 0)),Zo 4 (.mv (Zy false))] (Zs [Zv 5 2 2,Zo 6 (.call 81 [(Zt 5)]),Zm 7 6,Zg 8 (.mv (Zt 1)) 7 true,Zg 9 (.mkf 263 [(Zt 2)]) 7 true,Zg 10 (.call 177 [(Zt 8),(Zt 9)]) 7 true,Zg 11 (.un .not (Zt 10)) 7 true,Zo 12 (.pick (Zt 7) (Zt 11) (Zy false)),Zm 4 12] .ret))
theorem m244:be Tryz.prog 244 2 A244 aN=true:=by kernel_rfl
def A80:aq:=(.seq (.reg [Zo 2 (.mv (.c (.lst .u 1 [])))] [.s 2]) (.seq (Zs [Zm 3 0,Zo 4 (.isn false (Zt 3))] (.cond (Zt 4) (.seq (.reg [Zo 2 (.mv (.c (.lst .u 1 [])))] [.s 2]) .ret) .skip)) (.seq (.reg [Zo 5 (.bsl 1 false []),Zm 6 0,Zo 7 (.app 1 8 false (Zt 5) (Zt 6)),Zm 2 7] [.s 2]) .ret)))
theorem m80:be Tryz.prog 80 1 A80 bq=true:=by kernel_rfl
def A215:aq:=(Zs [Zo 2 (.box 4 (Zt 0)),Zn 4 0] (.seq (Zs [Zm 5 1] (.blk 0 (Zs [Za 7 0 2,Zl 8 7,Zb 9 .eql 5 8,Zm 6 9] (.cond (Zt 6) (Zs [Za 10 1 2,Zl 11 10,Zm 4 11] .ret) (Zs [Za 13 1 2,Zl 14 13,Zb 15 .eql 5 14,Zm 12 15] (.cond (Zt 12) (Zs [Za 16 0 2,Zl 17 16,Zm 4 17] .ret) .skip)))))) (Zs [Zn 4 (-1)] .ret)))
theorem m215:be Tryz.prog 215 2 A215 aN=true:=by kernel_rfl
def sP:aq:=(.cond (Zt 43) (.drw [Zo 44 (.ldv [] 1 false (Zt 7)),Zm 45 13,Zm 46 1,Zm 47 13,Zo 48 (.bin .shl (.c (.i 1)) (Zt 47)),Zb 49 .or 46 48,Zm 50 2,Zm 51 2,Zk 52 51,Zm 53 2,Zk 54 53,Zo 55 (.slc 1 (Zt 50) none (some (Zt 52)) (some (Zt 54))),Zm 56 11,Zo 57 (.bsl 1 true [(Zt 56)]),Zo 58 (.app 1 8 true (Zt 55) (Zt 57)),Zo 59 (.dynM (Zt 44) [(Zt 45),(Zt 49),(Zt 58)] [58,1000000001,1000000002,470000128,1000000004,1000000005,1000000006])] [.f true 470000128 1000000002 0]) .skip)
def pJ:aq:=(Zs [Zb 28 .lss 27 26] (.seq (.cond (Zt 28) .skip (.exit 0)) (.seq (.blk 1 (Zs [Zm 29 27,Zx 30 4 25 27,Zv 31 4 30,Zo 12 (.alloc (.agg [.i 0,.i 0,.i 0,.i 0])),Zm 11 29,Zw (.store 4 (Zt 12) (Zt 31))] (Zs [Zv 32 4 12,Zm 33 0,Zo 34 (.call 215 [(Zt 32),(Zt 33)]),Zm 13 34] (.seqr (.reg [Zm 35 13,Zd 36 .geq 35 0,Zm 37 36,Zg 38 (.mv (Zt 1)) 37 true,Zg 39 (.mv (Zt 13)) 37 true,Zg 40 (.bin .shr (Zt 38) (Zt 39)) 37 true,Zg 41 (.bin .and (Zt 40) (.c (.i 1))) 37 true,Zg 42 (.bin .eql (Zt 41) (.c (.i 0))) 37 true,Zo 43 (.pick (Zt 37) (Zt 42) (Zy false))] []) [0,1,2,7,11,13,25,26,27,43] [470000128,1000000001,1000000002,1000000004,1000000005,1000000006] sP)))) (.reg [Zd 60 .add 27 1,Zm 27 60] []))))
def Fj:aq:=(.seq (.seq (.reg [Zm 14 0,Zl 15 3,Zb 16 .eql 14 15] [.z 2,.f true 470000128 1000000002 0]) (.cond (Zt 16) (.seq (.drw [Zo 17 (.ldv [] 1 false (Zt 4)),Zl 18 5,Zm 19 2,Zo 20 (.call 80 [(Zt 19)]),Zo 21 (.build [.i 0,.lst .u 1 []] [(0,1,(Zt 18)),(1,1,(Zt 20))]),Zo 22 (.bsm 2 [(Zt 21)]),Zo 23 (.app 2 32 true (Zt 17) (Zt 22)),Zw (.store 1 (Zt 4) (Zt 23))] [.f true 470000128 1000000002 0]) .ret) .skip)) (Zs [Za 24 1 6,Zl 25 24,Zk 26 25,Zn 27 0] (.blk 0 (.loop pJ))))
theorem Pp:be Tryz.prog 264 8 Fj bW=true:=by kernel_rfl
def tX:aq:=(.cond (Zt 43) (.drw [Zo 44 (.ldv [] 1 false (Zt 7)),Zm 45 13,Zm 46 1,Zm 47 13,Zo 48 (.bin .shl (.c (.i 1)) (Zt 47)),Zb 49 .or 46 48,Zm 50 2,Zm 51 2,Zk 52 51,Zm 53 2,Zk 54 53,Zo 55 (.slc 1 (Zt 50) none (some (Zt 52)) (some (Zt 54))),Zm 56 11,Zo 57 (.bsl 1 true [(Zt 56)]),Zo 58 (.app 1 8 true (Zt 55) (Zt 57)),Zo 59 (.dynM (Zt 44) [(Zt 45),(Zt 49),(Zt 58)] [58,1000000000,1000000001,470000064,1000000003,1000000004,1000000005])] [.f true 470000064 1000000001 0]) .skip)
def pw:aq:=(Zs [Zb 28 .lss 27 26] (.seq (.cond (Zt 28) .skip (.exit 0)) (.seq (.blk 1 (Zs [Zm 29 27,Zx 30 4 25 27,Zv 31 4 30,Zo 12 (.alloc (.agg [.i 0,.i 0,.i 0,.i 0])),Zm 11 29,Zw (.store 4 (Zt 12) (Zt 31))] (Zs [Zv 32 4 12,Zm 33 0,Zo 34 (.call 215 [(Zt 32),(Zt 33)]),Zm 13 34] (.seqr (.reg [Zm 35 13,Zd 36 .geq 35 0,Zm 37 36,Zg 38 (.mv (Zt 1)) 37 true,Zg 39 (.mv (Zt 13)) 37 true,Zg 40 (.bin .shr (Zt 38) (Zt 39)) 37 true,Zg 41 (.bin .and (Zt 40) (.c (.i 1))) 37 true,Zg 42 (.bin .eql (Zt 41) (.c (.i 0))) 37 true,Zo 43 (.pick (Zt 37) (Zt 42) (Zy false))] []) [0,1,2,7,11,13,25,26,27,43] [470000064,1000000000,1000000001,1000000003,1000000004,1000000005] tX)))) (.reg [Zd 60 .add 27 1,Zm 27 60] []))))
def GA:aq:=(.seq (.seq (.reg [Zm 14 0,Zl 15 3,Zb 16 .eql 14 15] [.z 2,.f true 470000064 1000000001 0]) (.cond (Zt 16) (.seq (.drw [Zo 17 (.ldv [] 1 false (Zt 4)),Zl 18 5,Zm 19 2,Zo 20 (.call 80 [(Zt 19)]),Zo 21 (.build [.i 0,.lst .u 1 []] [(0,1,(Zt 18)),(1,1,(Zt 20))]),Zo 22 (.bsm 2 [(Zt 21)]),Zo 23 (.app 2 32 true (Zt 17) (Zt 22)),Zw (.store 1 (Zt 4) (Zt 23))] [.f true 470000064 1000000001 0]) .ret) .skip)) (Zs [Za 24 1 6,Zl 25 24,Zk 26 25,Zn 27 0] (.blk 0 (.loop pw))))
theorem RY:be Tryz.prog 264 8 GA bW=true:=by kernel_rfl
def wl:aq:=(Zs [Zb 12 .lss 11 10] (.seq (.cond (Zt 12) .skip (.exit 0)) (.seq (.blk 1 (Zs [Zx 13 1 9 11,Zl 14 13,Zm 7 14] (.reg [Zm 15 5,Za 16 1 2,Zl 17 16,Zm 18 7,Zx 19 4 17 18,Za 20 2 19,Zl 21 20,Zb 22 .add 15 21,Zm 5 22] []))) (.reg [Zd 23 .add 11 1,Zm 11 23] []))))
def Eu:aq:=(Zs [Zm 24 5,Zm 4 24] .ret)
def A223:aq:=(Zs [Zo 2 (.box 2 (Zt 0)),Zo 3 (.box 2 (Zt 1)),Zn 4 0] (Zs [Zn 5 0] (.seqa (.reg [Za 8 1 3,Zl 9 8,Zk 10 9,Zn 11 0] []) (.blk 0 (.loop wl)) [5] [] Eu)))
theorem m223:be Tryz.prog 223 2 A223 aN=true:=by kernel_rfl
def wB:aq:=(Zs [Zb 12 .lss 11 10] (.seq (.cond (Zt 12) .skip (.exit 0)) (.seq (.blk 1 (Zs [Zm 13 11,Zx 14 1 9 11,Zl 15 14,Zm 5 13,Zm 6 15] (.seq (Zs [Zm 16 5,Zm 17 1,Zk 18 17,Zb 19 .geq 16 18] (.cond (Zt 19) (Zs [Zn 4 1] .ret) .skip)) (Zs [Zm 20 1,Zm 21 5,Zx 22 1 20 21,Zl 23 22,Zm 7 23] (Zs [Zm 24 6,Zm 25 7,Zo 26 (.call 189 [(Zt 24),(Zt 25)]),Zm 8 26] (Zs [Zm 27 8,Zd 28 .neq 27 0] (.cond (Zt 28) (Zs [Zm 29 8,Zm 4 29] .ret) .skip))))))) (.reg [Zd 30 .add 11 1,Zm 11 30] []))))
def Ki:aq:=(.seq (Zs [Zm 31 0,Zk 32 31,Zm 33 1,Zk 34 33,Zb 35 .lss 32 34] (.cond (Zt 35) (Zs [Zn 4 (-1)] .ret) .skip)) (Zs [Zn 4 0] .ret))
def A225:aq:=(Zs [Zn 4 0] (.seqa (.reg [Zm 9 0,Zk 10 9,Zn 11 0] []) (.blk 0 (.loop wB)) [0,1] [] Ki))
theorem m225:be Tryz.prog 225 2 A225 aN=true:=by kernel_rfl
def A190:aq:=(Zs [Zo 3 (.box 2 (Zt 0)),Zo 4 (.box 2 (Zt 1)),Zo 5 (.box 2 (Zt 2)),Zn 6 0] (.seq (.drw [Zv 7 2 3,Zv 8 2 4,Zo 9 (.call 223 [(Zt 7),(Zt 8)]),Zv 10 2 3,Zv 11 2 5,Zo 12 (.call 223 [(Zt 10),(Zt 11)]),Zo 13 (.call 189 [(Zt 9),(Zt 12)]),Za 14 1 4,Zl 15 14,Zk 16 15,Za 17 1 5,Zl 18 17,Zk 19 18,Zo 20 (.call 189 [(Zt 16),(Zt 19)]),Za 21 1 4,Zl 22 21,Za 23 1 5,Zl 24 23,Zo 25 (.call 225 [(Zt 22),(Zt 24)]),Za 26 0 4,Zl 27 26,Za 28 0 5,Zl 29 28,Zo 30 (.call 189 [(Zt 27),(Zt 29)]),Zo 31 (.bsl 1 true [(Zt 13),(Zt 20),(Zt 25),(Zt 30)]),Zo 32 (.call 188 [(Zt 31)]),Zm 6 32] []) .ret))
theorem m190:be Tryz.prog 190 3 A190 cQ=true:=by kernel_rfl
def A266:aq:=(Zs [Zo 3 (.box 2 (Zt 0)),Zo 4 (.box 2 (Zt 1)),Zn 5 0] (Zs [Zv 6 2 2,Zv 7 2 3,Zv 8 2 4,Zo 9 (.call 190 [(Zt 6),(Zt 7),(Zt 8)]),Zm 5 9] .ret))
def Ri:List RV:=[.t 5]
theorem m266:be Tryz.prog 266 3 A266 Ri=true:=by kernel_rfl
def Fr:aq:=(Zs [Zl 19 7,Zo 20 (.mkf 266 [(Zt 3)]),Zo 21 (.callM 265 [(Zt 19),(Zt 20)] [500000448,3])] (.seq (.reg [Zl 22 7,Zm 6 22] [.s 6]) .ret))
def A245:aq:=(.seq (.reg [Zo 3 (.box 2 (Zt 0)),Zo 4 (.box 1 (Zt 1)),Zo 5 (.box 1 (Zt 2)),Zo 6 (.mv (.c (.lst .u 2 [])))] [.s 6]) (.seq (.reg [Zo 9 (.bsl 2 false []),Zo 7 (.alloc (.lst .u 2 [])),Zw (.store 1 (Zt 7) (Zt 9))] [.f false 500000448 7 0]) (Zs [Zo 8 (.alloc (.sc .nilFunc))] (Zs [Zo 10 (.mkf 264 [(Zt 5),(Zt 7),(Zt 4),(Zt 3),(Zt 8)]),Zw (.store 1 (Zt 8) (Zt 10))] (.seqr (Zs [Zl 11 4,Zl 12 5,Zb 13 .neq 11 12] (.cond (Zt 13) (.drw [Zl 14 8,Zl 15 4,Zl 16 4,Zo 17 (.bin .shl (.c (.i 1)) (Zt 16)),Zo 18 (.dynM (Zt 14) [(Zt 15),(Zt 17),(.c (.lst .u 1 []))] [5,7,500000448,4,3,8])] [.f false 500000448 7 0]) .skip)) [3,7] [3,7,500000448] Fr)))))
theorem m245:be Tryz.prog 245 3 A245 cQ=true:=by kernel_rfl
def Fk:aq:=(.cond (Zt 19) (.seq (.reg [Zo 6 (.mv (.c (.lst .u 2 []))),Zo 7 (.mv (Zy false))] [.s 6]) .ret) .skip)
def A221:aq:=(.seq (.reg [Zo 3 (.box 2 (Zt 0)),Zo 6 (.mv (.c (.lst .u 2 []))),Zo 7 (.mv (Zy false))] [.s 6]) (.seq (.seqr (.reg [Zv 9 2 3,Zm 10 1,Zm 11 2,Zo 12 (.bsl 1 false [(Zt 10),(Zt 11)]),Zo 13 (.call 244 [(Zt 9),(Zt 12)]),Zo 14 (.un .not (Zt 13)),Zm 15 14,Zg 16 (.mv (Zt 1)) 15 false,Zg 17 (.mv (Zt 2)) 15 false,Zg 18 (.bin .eql (Zt 16) (Zt 17)) 15 false,Zo 19 (.pick (Zt 15) (Zy true) (Zt 18))] []) [1,2,3,19] [3] Fk) (.seq (.reg [Zv 20 2 3,Zm 21 1,Zm 22 2,Zo 23 (.call 245 [(Zt 20),(Zt 21),(Zt 22)]),Zm 8 23] [.s 8]) (.seq (Zs [Zm 24 8,Zk 25 24,Zd 26 .gtr 25 200] (.cond (Zt 26) (.seq (.reg [Zo 6 (.mv (.c (.lst .u 2 []))),Zo 7 (.mv (Zy false))] [.s 6]) .ret) .skip)) (.seq (.reg [Zm 27 8,Zm 6 27,Zo 7 (.mv (Zy true))] [.s 6]) .ret)))))
theorem m221:be Tryz.prog 221 3 A221 hM=true:=by kernel_rfl
def Jz:aq:=(.cond (Zt 14) (Zs [Zn 4 0,Zo 5 (.mv (Zy false))] .ret) .skip)
def vN:aq:=(.seq (Zs [Zm 18 6,Zd 19 .geq 18 0] (.cond (Zt 19) .skip (.exit 0))) (.seq (.blk 1 (Zs [Zm 22 0,Zm 23 6,Zx 24 2 22 23,Za 25 0 24,Zl 26 25,Zm 27 1,Zb 28 .geq 26 27] (.cond (Zt 28) (Zs [Zm 29 6,Zm 4 29,Zo 5 (.mv (Zy true))] .ret) .skip))) (.reg [Zm 20 6,Zd 21 .sub 20 1,Zm 6 21] [])))
def Di:aq:=(Zs [Zn 4 0,Zo 5 (.mv (Zy false))] .ret)
def A246:aq:=(Zs [Zn 4 0,Zo 5 (.mv (Zy false))] (.seq (.seqr (.reg [Zm 7 0,Zo 8 (.call 219 [(Zt 7)]),Zo 9 (.un .not (Zt 8)),Zm 10 9,Zg 11 (.mv (Zt 1)) 10 false,Zg 12 (.call 76 [(Zt 11),(.c (.i 0)),(.c (.i 20000))]) 10 false,Zg 13 (.un .not (Zt 12)) 10 false,Zo 14 (.pick (Zt 10) (Zy true) (Zt 13))] []) [0,1,14] [] Jz) (.seqa (.reg [Zm 15 0,Zk 16 15,Zd 17 .sub 16 1,Zm 6 17] []) (.blk 0 (.loop vN)) [] [] Di)))
def AJ:List RV:=[.t 4,.t 5]
theorem m246:be Tryz.prog 246 2 A246 AJ=true:=by kernel_rfl
def CS:aq:=(.cond (Zt 23) (Zs [Zn 6 0,Zo 7 (.mv (Zy false))] .ret) .skip)
def A222:aq:=(Zs [Zn 6 0,Zo 7 (.mv (Zy false))] (Zs [Zm 12 0,Zm 13 1,Zo 14 (.call 246 [(Zt 12),(Zt 13)]),Zm 11 14,Ze 15 11 0,Ze 16 11 1,Zm 8 15,Zm 9 16] (.seq (.seqr (.reg [Zm 17 9,Zo 18 (.un .not (Zt 17)),Zm 19 18,Zg 20 (.mv (Zt 2)) 19 false,Zg 21 (.call 76 [(Zt 20),(.c (.i 1)),(.c (.i 1000))]) 19 false,Zg 22 (.un .not (Zt 21)) 19 false,Zo 23 (.pick (Zt 19) (Zy true) (Zt 22))] []) [0,2,8,23] [] CS) (.seq (.drw [Zm 24 2,Zm 25 0,Zm 26 8,Zx 27 2 25 26,Za 28 1 27,Zl 29 28,Zb 30 .add 24 29,Zd 31 .sub 30 1,Zm 32 0,Zm 33 8,Zx 34 2 32 33,Za 35 1 34,Zl 36 35,Zb 37 .quo 31 36,Zm 10 37] []) (.seq (Zs [Zm 38 10,Zd 39 .gtr 38 24] (.cond (Zt 39) (Zs [Zn 6 0,Zo 7 (.mv (Zy false))] .ret) .skip)) (Zs [Zm 40 10,Zm 6 40,Zo 7 (.mv (Zy true))] .ret))))))
theorem m222:be Tryz.prog 222 3 A222 hM=true:=by kernel_rfl
def vt:aq:=(.cond (Zt 24) (.seq (.reg [Zo 6 (.mv (.c (.lst .u 3 []))),Zo 7 (.mv (Zy false))] [.s 6]) .ret) .skip)
def xH:aq:=(Zs [Zb 40 .lss 39 38] (.seq (.cond (Zt 40) .skip (.exit 0)) (.seq (.blk 1 (Zs [Zx 41 2 37 39,Zv 42 2 41,Zo 12 (.alloc (.agg [.i 0,.lst .u 1 []])),Zw (.store 2 (Zt 12) (Zt 42))] (.seq (.drw [Zm 44 1,Zv 45 2 3,Zv 46 2 12,Zo 47 (.call 223 [(Zt 45),(Zt 46)]),Za 48 2 5,Zl 49 48,Zo 50 (.call 222 [(Zt 44),(Zt 47),(Zt 49)]),Zm 43 50,Ze 51 43 0,Ze 52 43 1,Zm 13 51,Zm 14 52] []) (Zs [Zm 53 14] (.cond (Zt 53) (.reg [Zm 54 10,Zv 55 2 12,Zm 56 13,Zo 57 (.build [.i 0,.lst .u 1 [],.i 0] [(0,2,(Zt 55)),(2,1,(Zt 56))]),Zo 58 (.bsl 3 false [(Zt 57)]),Zo 59 (.app 3 40 true (Zt 54) (Zt 58)),Zm 10 59] [.s 10]) .skip))))) (.reg [Zd 60 .add 39 1,Zm 39 60] []))))
def Ea:aq:=(.seq (.reg [Zm 61 10,Zm 6 61,Zo 7 (.mv (Zy true))] [.s 6]) .ret)
def OG:aq:=(.seq (.reg [Zo 3 (.box 2 (Zt 0)),Zo 5 (.box 4 (Zt 2)),Zo 6 (.mv (.c (.lst .u 3 []))),Zo 7 (.mv (Zy false))] [.s 6]) (.seq (.seqr (.reg [Zm 15 1,Zo 16 (.call 219 [(Zt 15)]),Zo 17 (.un .not (Zt 16)),Zm 18 17,Zg 19 (.load 2 true (Zt 3)) 18 false,Zg 20 (.load 4 true (Zt 5)) 18 false,Zg 21 (.bsl 4 false [(Zt 20)]) 18 false,Zg 22 (.call 220 [(Zt 19),(Zt 21)]) 18 false,Zg 23 (.un .not (Zt 22)) 18 false,Zo 24 (.pick (Zt 18) (Zy true) (Zt 23))] []) [1,3,5,24] [3,5] vt) (.reg [Zv 26 2 3,Za 27 0 5,Zl 28 27,Za 29 1 5,Zl 30 29,Zo 31 (.call 221 [(Zt 26),(Zt 28),(Zt 30)]),Zm 25 31,Ze 32 25 0,Ze 33 25 1,Zm 8 32,Zm 9 33] [.s 8])))
def Pk:aq:=(.seq (Zs [Zm 34 9,Zo 35 (.un .not (Zt 34))] (.cond (Zt 35) (.seq (.reg [Zo 6 (.mv (.c (.lst .u 3 []))),Zo 7 (.mv (Zy false))] [.s 6]) .ret) .skip)) (.seq (.reg [Zo 36 (.bsl 3 false []),Zm 10 36] [.s 10]) (.seqa (.reg [Zm 37 8,Zk 38 37,Zn 39 0] []) (.blk 0 (.loop xH)) [10] [10] Ea)))
def A186:aq:=(.seq (.reg [Zo 3 (.box 2 (Zt 0)),Zo 5 (.box 4 (Zt 2)),Zo 6 (.mv (.c (.lst .u 3 []))),Zo 7 (.mv (Zy false))] [.s 6]) (.seq (.seqr (.reg [Zm 15 1,Zo 16 (.call 219 [(Zt 15)]),Zo 17 (.un .not (Zt 16)),Zm 18 17,Zg 19 (.load 2 true (Zt 3)) 18 false,Zg 20 (.load 4 true (Zt 5)) 18 false,Zg 21 (.bsl 4 false [(Zt 20)]) 18 false,Zg 22 (.call 220 [(Zt 19),(Zt 21)]) 18 false,Zg 23 (.un .not (Zt 22)) 18 false,Zo 24 (.pick (Zt 18) (Zy true) (Zt 23))] []) [1,3,5,24] [3,5] vt) (.seq (.reg [Zv 26 2 3,Za 27 0 5,Zl 28 27,Za 29 1 5,Zl 30 29,Zo 31 (.call 221 [(Zt 26),(Zt 28),(Zt 30)]),Zm 25 31,Ze 32 25 0,Ze 33 25 1,Zm 8 32,Zm 9 33] [.s 8]) Pk)))
theorem m186:be Tryz.prog 186 3 A186 hM=true:=by kernel_rfl
def Fb:aq:=(Zs [Zb 20 .lss 19 18] (.seq (.cond (Zt 20) .skip (.exit 2)) (.seq (.blk 3 (Zs [Zm 21 19,Zx 22 4 17 19,Zv 23 4 22,Zo 7 (.alloc (.agg [.i 0,.i 0,.i 0,.i 0])),Zm 6 21,Zw (.store 4 (Zt 7) (Zt 23))] (Zs [Za 24 3 7,Zl 25 24,Zm 26 4,Zb 27 .eql 25 26] (.cond (Zt 27) (.reg [Zm 28 5,Zm 29 6,Zo 30 (.bsl 1 false [(Zt 29)]),Zo 31 (.app 1 8 true (Zt 28) (Zt 30)),Zm 5 31] [.s 5]) .skip)))) (.reg [Zd 32 .add 19 1,Zm 19 32] []))))
def OE:aq:=(Zs [Zm 33 5,Zk 34 33,Zd 35 .gtr 34 0] (.cond (Zt 35) (.reg [Zm 36 3,Zm 37 5,Zo 38 (.bsl 1 false [(Zt 37)]),Zo 39 (.app 1 24 true (Zt 36) (Zt 38)),Zm 3 39] [.s 3]) .skip))
def IB:aq:=(.seq (Zs [Zm 11 4,Zd 12 .leq 11 9] (.cond (Zt 12) .skip (.exit 0))) (.seq (.blk 1 (.seq (.reg [Zo 15 (.bsl 1 false []),Zm 5 15] [.s 5]) (.seqa (.reg [Za 16 1 1,Zl 17 16,Zk 18 17,Zn 19 0] []) (.blk 2 (.loop Fb)) [1,3,4,5] [1,3,5] OE))) (.reg [Zm 13 4,Zd 14 .add 13 1,Zm 4 14] [])))
def ER:aq:=(Zs [Zb 44 .lss 43 42] (.seq (.cond (Zt 44) .skip (.exit 4)) (.seq (.blk 5 (Zs [Zm 45 43,Zx 46 4 41 43,Zv 47 4 46,Zo 9 (.alloc (.agg [.i 0,.i 0,.i 0,.i 0])),Zm 8 45,Zw (.store 4 (Zt 9) (Zt 47))] (Zs [Za 48 3 9,Zl 49 48,Zd 50 .eql 49 0] (.cond (Zt 50) (.reg [Zm 51 3,Zm 52 8,Zo 53 (.bsl 1 false [(Zt 52)]),Zo 54 (.bsl 1 false [(Zt 53)]),Zo 55 (.app 1 24 true (Zt 51) (Zt 54)),Zm 3 55] [.s 3]) .skip)))) (.reg [Zd 56 .add 43 1,Zm 43 56] []))))
def Pb:aq:=(.seq (.reg [Zm 57 3,Zm 2 57] [.s 2]) .ret)
def OQ:aq:=(.seqa (.reg [Za 40 1 1,Zl 41 40,Zk 42 41,Zn 43 0] []) (.blk 4 (.loop ER)) [3] [3] Pb)
def A78:aq:=(.seq (.reg [Zo 1 (.box 2 (Zt 0)),Zo 2 (.mv (.c (.lst .u 1 [])))] [.s 2]) (.seq (.reg [Zo 10 (.bsl 1 false []),Zm 3 10] [.s 3]) (.seqa (.reg [Zn 4 1] []) (.blk 0 (.loop IB)) [1,3] [1,3] OQ)))
theorem m78:be Tryz.prog 78 1 A78 bq=true:=by kernel_rfl
def vT:aq:=(Zs [Zb 9 .lss 8 7] (.seq (.cond (Zt 9) .skip (.exit 0)) (.seq (.blk 1 (Zs [Zm 10 8,Zm 5 10] (Zs [Zm 11 1,Zm 12 0,Zm 13 5,Zx 14 1 12 13,Zl 15 14,Zb 16 .eql 11 15] (.cond (Zt 16) (Zs [Zm 17 5,Zm 4 17] .ret) .skip)))) (.reg [Zd 18 .add 8 1,Zm 8 18] []))))
def Ey:aq:=(Zs [Zn 4 (-1)] .ret)
def A139:aq:=(Zs [Zn 4 0] (.seqa (.reg [Zm 6 0,Zk 7 6,Zn 8 0] []) (.blk 0 (.loop vT)) [] [] Ey))
theorem m139:be Tryz.prog 139 2 A139 aN=true:=by kernel_rfl
def A68:aq:=(Zs [Zo 4 (.mv (Zy false))] (Zs [Zm 5 0,Zm 6 1,Zo 7 (.call 139 [(Zt 5),(Zt 6)]),Zd 8 .geq 7 0,Zm 4 8] .ret))
theorem m68:be Tryz.prog 68 2 A68 aN=true:=by kernel_rfl
def A248:aq:=(Zs [Zo 3 (.mv (Zy false))] (Zs [Zm 4 0,Zl 5 1,Zo 6 (.call 68 [(Zt 4),(Zt 5)]),Zm 3 6] .ret))
theorem m248:be Tryz.prog 248 2 A248 sr=true:=by kernel_rfl
def vf:aq:=(Zs [Zb 9 .lss 8 7] (.seq (.cond (Zt 9) .skip (.exit 0)) (.seq (.blk 1 (Zs [Zm 10 8,Zm 5 10] (Zs [Zm 11 1,Zm 12 0,Zm 13 5,Zx 14 1 12 13,Zl 15 14,Zo 16 (.dyn (Zt 11) [(Zt 15)])] (.cond (Zt 16) (Zs [Zm 17 5,Zm 4 17] .ret) .skip)))) (.reg [Zd 18 .add 8 1,Zm 8 18] []))))
def JN:aq:=(Zs [Zn 4 (-1)] .ret)
def A247:aq:=(Zs [Zn 4 0] (.seqa (.reg [Zm 6 0,Zk 7 6,Zn 8 0] []) (.blk 0 (.loop vf)) [] [] JN))
theorem m247:be Tryz.prog 247 2 A247 aN=true:=by kernel_rfl
def A230:aq:=(Zs [Zo 2 (.box 2 (Zt 0)),Zo 3 (.box 1 (Zt 1)),Zn 4 0] (Zs [Zv 5 2 2,Zo 6 (.call 78 [(Zt 5)]),Zo 7 (.mkf 248 [(Zt 3)]),Zo 8 (.call 247 [(Zt 6),(Zt 7)]),Zm 4 8] .ret))
theorem m230:be Tryz.prog 230 2 A230 aN=true:=by kernel_rfl
def we:aq:=(Zs [Zb 12 .lss 11 10] (.seq (.cond (Zt 12) .skip (.exit 0)) (.seq (.blk 1 (Zs [Zx 13 1 9 11,Zl 14 13,Zm 7 14] (.reg [Zm 15 5,Zv 16 2 2,Zm 17 7,Zo 18 (.call 230 [(Zt 16),(Zt 17)]),Zo 19 (.bsl 1 false [(Zt 18)]),Zo 20 (.app 1 8 true (Zt 15) (Zt 19)),Zm 5 20] [.s 5]))) (.reg [Zd 21 .add 11 1,Zm 11 21] []))))
def DC:aq:=(.seq (.reg [Zm 22 5,Zm 4 22] [.s 4]) .ret)
def A202:aq:=(.seq (.reg [Zo 2 (.box 2 (Zt 0)),Zo 4 (.mv (.c (.lst .u 1 [])))] [.s 4]) (.seq (.reg [Zo 8 (.bsl 1 false []),Zm 5 8] [.s 5]) (.seqa (.reg [Zm 9 1,Zk 10 9,Zn 11 0] []) (.blk 0 (.loop we)) [5] [5] DC)))
theorem m202:be Tryz.prog 202 2 A202 aN=true:=by kernel_rfl
def JT:aq:=(Zs [Zm 19 2,Zm 20 0,Zo 21 (.conv .u8 (Zt 20)),Zo 22 (.stri (.c (.z ⟨#[0,1,2,2,3,3,3,3,4,4,4,4,4,4,4,4,5,5,5,5,5,5,5,5,5,5,5,5,5,5,5,5,6,6,6,6,6,6,6,6,6,6,6,6,6,6,6,6,6,6,6,6,6,6,6,6,6,6,6,6,6,6,6,6,7,7,7,7,7,7,7,7,7,7,7,7,7,7,7,7,7,7,7,7,7,7,7,7,7,7,7,7,7,7,7,7,7,7,7,7,7,7,7,7,7,7,7,7,7,7,7,7,7,7,7,7,7,7,7,7,7,7,7,7,7,7,7,7,8,8,8,8,8,8,8,8,8,8,8,8,8,8,8,8,8,8,8,8,8,8,8,8,8,8,8,8,8,8,8,8,8,8,8,8,8,8,8,8,8,8,8,8,8,8,8,8,8,8,8,8,8,8,8,8,8,8,8,8,8,8,8,8,8,8,8,8,8,8,8,8,8,8,8,8,8,8,8,8,8,8,8,8,8,8,8,8,8,8,8,8,8,8,8,8,8,8,8,8,8,8,8,8,8,8,8,8,8,8,8,8,8,8,8,8,8,8,8,8,8,8,8,8,8,8,8,8]⟩)) (Zt 21)),Zo 23 (.conv .i64 (Zt 22)),Zb 24 .add 19 23,Zm 2 24] .ret)
def JW:aq:=(.seqr (Zs [Zm 13 0,Zo 14 (.bin .geq (Zt 13) (.c (.sc (.int .u64 256))))] (.cond (Zt 14) (Zs [Zm 15 0,Zo 16 (.bin .shr (Zt 15) (.c (.sc (.int .u64 8)))),Zm 0 16] (.reg [Zm 17 2,Zd 18 .add 17 8,Zm 2 18] [])) .skip)) [0,2] [] JT)
def HO:aq:=(.seqr (Zs [Zm 7 0,Zo 8 (.bin .geq (Zt 7) (.c (.sc (.int .u64 65536))))] (.cond (Zt 8) (Zs [Zm 9 0,Zo 10 (.bin .shr (Zt 9) (.c (.sc (.int .u64 16)))),Zm 0 10] (.reg [Zm 11 2,Zd 12 .add 11 16,Zm 2 12] [])) .skip)) [0,2] [] JW)
def A259:aq:=(Zs [Zn 2 0] (.seqr (Zs [Zm 3 0,Zo 4 (.bin .geq (Zt 3) (.c (.sc (.int .u64 4294967296))))] (.cond (Zt 4) (Zs [Zm 5 0,Zo 6 (.bin .shr (Zt 5) (.c (.sc (.int .u64 32)))),Zm 0 6] (.reg [Zn 2 32] [])) .skip)) [0,2] [] HO))
theorem m259:be Tryz.prog 259 1 A259 bq=true:=by kernel_rfl
def A232:aq:=(Zs [Zn 2 0] (.seq (.cond (Zy false) (Zs [Zm 3 0,Zo 4 (.conv .u32 (Zt 3)),Zo 5 (.call 258 [(Zt 4)]),Zm 2 5] .ret) .skip) (Zs [Zm 6 0,Zo 7 (.call 259 [(Zt 6)]),Zm 2 7] .ret)))
theorem m232:be Tryz.prog 232 1 A232 bq=true:=by kernel_rfl
def A255:aq:=(Zs [Zo 4 (.mv (Zy false))] (Zs [Zm 5 0,Zo 6 (.call 224 [(Zt 5)]),Zm 7 6,Zg 8 (.mv (Zt 1)) 7 true,Zg 9 (.call 224 [(Zt 8)]) 7 true,Zg 10 (.un .not (Zt 9)) 7 true,Zo 11 (.pick (Zt 7) (Zt 10) (Zy false)),Zm 12 11,Zg 13 (.mv (Zt 0)) 12 false,Zg 14 (.mv (Zt 1)) 12 false,Zg 15 (.bin .lss (Zt 13) (Zt 14)) 12 false,Zo 16 (.pick (Zt 12) (Zy true) (Zt 15)),Zm 4 16] .ret))
theorem m255:be Tryz.prog 255 2 A255 aN=true:=by kernel_rfl
def uW:aq:=(.cond (Zt 30) .skip (.exit 2))
def ph:aq:=(.seq (.seqr (.drw [Zm 16 7,Zm 17 1,Zb 18 .gtr 16 17,Zm 19 18,Zg 20 (.mv (Zt 0)) 19 true,Zg 21 (.mv (Zt 7)) 19 true,Zg 22 (.idx 1 (Zt 20) (Zt 21)) 19 true,Zg 23 (.load 1 false (Zt 22)) 19 true,Zg 24 (.mv (Zt 0)) 19 true,Zg 25 (.mv (Zt 7)) 19 true,Zg 26 (.bin .sub (Zt 25) (.c (.i 1))) 19 true,Zg 27 (.idx 1 (Zt 24) (Zt 26)) 19 true,Zg 28 (.load 1 false (Zt 27)) 19 true,Zg 29 (.call 255 [(Zt 23),(Zt 28)]) 19 true,Zo 30 (.pick (Zt 19) (Zt 29) (Zy false))] []) [0,1,2,6,7,30] [1000000000] uW) (.seq (.blk 3 (.drw [Zm 33 0,Zm 34 7,Zm 35 0,Zm 36 7,Zd 37 .sub 36 1,Zm 38 0,Zm 39 7,Zd 40 .sub 39 1,Zx 41 1 38 40,Zl 42 41,Zm 43 0,Zm 44 7,Zx 45 1 43 44,Zl 46 45,Zx 47 1 33 34,Zw (.store 1 (Zt 47) (Zt 42)),Zx 48 1 35 37,Zw (.store 1 (Zt 48) (Zt 46))] [])) (.reg [Zm 31 7,Zd 32 .sub 31 1,Zm 7 32] [])))
def tM:aq:=(.reg [Zm 13 6,Zd 14 .add 13 1,Zm 6 14] [])
def oG:aq:=(.seq (Zs [Zm 10 6,Zm 11 2,Zb 12 .lss 10 11] (.cond (Zt 12) .skip (.exit 0))) (.seqr (.blk 1 (Zs [Zm 15 6,Zm 7 15] (.blk 2 (.loop ph)))) [0,1,2,6] [1000000000] tM))
def EE:aq:=(Zs [Zm 8 1,Zd 9 .add 8 1,Zm 6 9] (.blk 0 (.loop oG)))
theorem Rd:be Tryz.prog 249 3 EE bW=true:=by kernel_rfl
def pc:aq:=(.blk 1 (Zs [Zm 19 2,Zm 20 1,Zb 21 .sub 19 20,Zm 10 21] (.seq (Zs [Zm 22 10,Zd 23 .leq 22 12] (.cond (Zt 23) (Zs [Zm 24 0,Zm 25 1,Zm 26 2,Zo 27 (.callM 249 [(Zt 24),(Zt 25),(Zt 26)] [1000000000])] .ret) .skip)) (.seq (Zs [Zm 28 3,Zd 29 .eql 28 0] (.cond (Zt 29) (Zs [Zm 30 0,Zm 31 1,Zm 32 2,Zo 33 (.call 250 [(Zt 30),(Zt 31),(Zt 32)])] .ret) .skip)) (.seq (Zs [Zm 34 8,Zo 35 (.un .not (Zt 34))] (.cond (Zt 35) (Zs [Zm 36 0,Zm 37 1,Zm 38 2,Zo 39 (.call 251 [(Zt 36),(Zt 37),(Zt 38)])] (.reg [Zm 40 3,Zd 41 .sub 40 1,Zm 3 41] [])) .skip)) (Zs [Zm 43 0,Zm 44 1,Zm 45 2,Zo 46 (.call 252 [(Zt 43),(Zt 44),(Zt 45)]),Zm 42 46,Ze 47 42 0,Ze 48 42 1,Zm 11 47,Zm 12 48] (.seq (Zs [Zm 49 12,Zd 50 .eql 49 2] (.cond (Zt 50) (Zs [Zm 51 0,Zm 52 1,Zm 53 2,Zo 54 (.call 253 [(Zt 51),(Zt 52),(Zt 53)])] (Zs [Zm 55 2,Zd 56 .sub 55 1,Zm 57 11,Zm 58 1,Zb 59 .sub 57 58,Zb 60 .sub 56 59,Zm 11 60] (.reg [Zn 12 1] []))) .skip)) (.seq (Zs [Zm 61 8,Zm 62 61,Zg 63 (.mv (Zt 9)) 62 true,Zo 64 (.pick (Zt 62) (Zt 63) (Zy false)),Zm 65 64,Zg 66 (.mv (Zt 12)) 65 true,Zg 67 (.bin .eql (Zt 66) (.c (.i 1))) 65 true,Zo 68 (.pick (Zt 65) (Zt 67) (Zy false))] (.cond (Zt 68) (Zs [Zm 69 0,Zm 70 1,Zm 71 2,Zo 72 (.call 254 [(Zt 69),(Zt 70),(Zt 71)])] (.cond (Zt 72) .ret .skip)) .skip)) (.seq (.seq (.drw [Zm 73 1,Zd 74 .gtr 73 0,Zm 75 74,Zg 76 (.mv (Zt 0)) 75 true,Zg 77 (.mv (Zt 1)) 75 true,Zg 78 (.bin .sub (Zt 77) (.c (.i 1))) 75 true,Zg 79 (.idx 1 (Zt 76) (Zt 78)) 75 true,Zg 80 (.load 1 false (Zt 79)) 75 true,Zg 81 (.mv (Zt 0)) 75 true,Zg 82 (.mv (Zt 11)) 75 true,Zg 83 (.idx 1 (Zt 81) (Zt 82)) 75 true,Zg 84 (.load 1 false (Zt 83)) 75 true,Zg 85 (.call 255 [(Zt 80),(Zt 84)]) 75 true,Zg 86 (.un .not (Zt 85)) 75 true,Zo 87 (.pick (Zt 75) (Zt 86) (Zy false))] []) (.cond (Zt 87) (Zs [Zm 88 0,Zm 89 1,Zm 90 2,Zm 91 11,Zo 92 (.call 256 [(Zt 88),(Zt 89),(Zt 90),(Zt 91)]),Zm 13 92] (Zs [Zm 93 13,Zm 1 93] (.exit 1))) .skip)) (Zs [Zm 95 0,Zm 96 1,Zm 97 2,Zm 98 11,Zo 99 (.call 257 [(Zt 95),(Zt 96),(Zt 97),(Zt 98)]),Zm 94 99,Ze 100 94 0,Ze 101 94 1,Zm 14 100,Zm 15 101] (Zs [Zm 102 15,Zm 9 102] (Zs [Zm 103 14,Zm 104 1,Zb 105 .sub 103 104,Zm 106 2,Zm 107 14,Zb 108 .sub 106 107,Zm 16 105,Zm 17 108] (Zs [Zm 109 10,Zd 110 .quo 109 8,Zm 18 110] (Zs [Zm 111 16,Zm 112 17,Zb 113 .lss 111 112] (.cond (Zt 113) (Zs [Zm 114 16,Zm 115 18,Zb 116 .geq 114 115,Zm 8 116] (Zs [Zm 117 0,Zm 118 1,Zm 119 14,Zm 120 3,Zo 121 (.call 231 [(Zt 117),(Zt 118),(Zt 119),(Zt 120)])] (.reg [Zm 122 14,Zd 123 .add 122 1,Zm 1 123] []))) (Zs [Zm 124 17,Zm 125 18,Zb 126 .geq 124 125,Zm 8 126] (Zs [Zm 127 0,Zm 128 14,Zd 129 .add 128 1,Zm 130 2,Zm 131 3,Zo 132 (.call 231 [(Zt 127),(Zt 129),(Zt 130),(Zt 131)])] (.reg [Zm 133 14,Zm 2 133] []))))))))))))))))))
def Hm:aq:=(Zs [Zo 8 (.mv (Zy true))] (Zs [Zo 9 (.mv (Zy true))] (.blk 0 (.loop pc))))
theorem QL:be Tryz.prog 231 4 Hm bW=true:=by kernel_rfl
def Iu:aq:=(Zs [Zm 3 0,Zk 4 3,Zm 2 4] (.reg [Zm 5 0,Zm 6 2,Zm 7 2,Zo 8 (.conv .u64 (Zt 7)),Zo 9 (.call 232 [(Zt 8)]),Zo 10 (.callM 231 [(Zt 5),(.c (.i 0)),(Zt 6),(Zt 9)] [1000000000])] []))
theorem Rn:be Tryz.prog 203 1 Iu bW=true:=by kernel_rfl
def oK:aq:=(.seq (Zs [Zm 29 5,Zm 30 4,Zk 31 30,Zb 32 .lss 29 31] (.cond (Zt 32) .skip (.exit 2))) (.seq (.blk 3 (.seq (.drw [Zm 35 4,Zm 36 5,Zx 37 1 35 36,Zl 38 37,Zm 39 4,Zm 40 5,Zd 41 .sub 40 1,Zx 42 1 39 41,Zl 43 42,Zb 44 .neq 38 43] []) (.cond (Zt 44) (Zs [Zm 45 0,Zm 46 3,Zm 47 4,Zm 48 5,Zx 49 1 47 48,Zl 50 49,Zx 51 1 45 46,Zw (.store 1 (Zt 51) (Zt 50))] (.reg [Zm 52 3,Zd 53 .add 52 1,Zm 3 53] [])) .skip))) (.reg [Zm 33 5,Zd 34 .add 33 1,Zm 5 34] [])))
def tj:aq:=(Zs [Zm 54 0,Zm 55 3,Zo 56 (.slc 1 (Zt 54) (some (Zt 55)) none none),Zw (.clr 1 (.i 0) (Zt 56))] (.seq (.reg [Zm 57 0,Zm 58 3,Zo 59 (.slc 1 (Zt 57) none (some (Zt 58)) none),Zm 2 59] [.s 2]) .ret))
def nY:aq:=(.seq (Zs [Zm 10 3,Zm 11 0,Zk 12 11,Zb 13 .lss 10 12] (.cond (Zt 13) .skip (.exit 0))) (.seq (.blk 1 (.seq (.drw [Zm 16 0,Zm 17 3,Zx 18 1 16 17,Zl 19 18,Zm 20 0,Zm 21 3,Zd 22 .sub 21 1,Zx 23 1 20 22,Zl 24 23,Zb 25 .eql 19 24] []) (.cond (Zt 25) (.seq (.reg [Zm 26 0,Zm 27 3,Zo 28 (.slc 1 (Zt 26) (some (Zt 27)) none none),Zm 4 28] [.s 4]) (.seqa (.reg [Zn 5 1] []) (.blk 2 (.loop oK)) [0,3] [1000000000] tj)) .skip))) (.reg [Zm 14 3,Zd 15 .add 14 1,Zm 3 15] [])))
def ue:aq:=(.seq (.reg [Zm 60 0,Zm 2 60] [.s 2]) .ret)
def Hu:aq:=(.seq (.reg [Zo 2 (.mv (.c (.lst .u 1 [])))] [.s 2]) (.seq (Zs [Zm 6 0,Zk 7 6,Zd 8 .lss 7 2] (.cond (Zt 8) (.seq (.reg [Zm 9 0,Zm 2 9] [.s 2]) .ret) .skip)) (.seqa (.reg [Zn 3 1] []) (.blk 0 (.loop nY)) [0] [1000000000] ue)))
theorem Px:be Tryz.prog 204 1 Hu bq=true:=by kernel_rfl
def vp:aq:=(Zs [Zb 12 .lss 11 10] (.seq (.cond (Zt 12) .skip (.exit 0)) (.seq (.blk 1 (Zs [Zx 13 1 9 11,Zl 14 13,Zm 7 14] (Zs [Zm 15 1,Zm 16 7,Zo 17 (.call 68 [(Zt 15),(Zt 16)])] (.cond (Zt 17) (.reg [Zm 18 5,Zm 19 7,Zo 20 (.bsl 1 false [(Zt 19)]),Zo 21 (.app 1 8 true (Zt 18) (Zt 20)),Zm 5 21] [.s 5]) .skip)))) (.reg [Zd 22 .add 11 1,Zm 11 22] []))))
def CQ:aq:=(Zs [Zm 23 5,Zo 24 (.callM 203 [(Zt 23)] [5])] (.seq (.reg [Zm 25 5,Zo 26 (.callM 204 [(Zt 25)] [5]),Zm 4 26] [.s 4]) .ret))
def A140:aq:=(.seq (.reg [Zo 4 (.mv (.c (.lst .u 1 [])))] [.s 4]) (.seq (.reg [Zo 8 (.bsl 1 false []),Zm 5 8] [.s 5]) (.seqa (.reg [Zm 9 0,Zk 10 9,Zn 11 0] []) (.blk 0 (.loop vp)) [5] [5] CQ)))
theorem m140:be Tryz.prog 140 2 A140 aN=true:=by kernel_rfl
def A136:aq:=(Zs [Zo 3 (.box 2 (Zt 0)),Zo 6 (.mv (Zy false))] (.seq (.drw [Zv 7 2 3,Zm 8 1,Zo 9 (.call 202 [(Zt 7),(Zt 8)]),Zv 10 2 3,Zm 11 2,Zo 12 (.call 202 [(Zt 10),(Zt 11)]),Zo 13 (.call 140 [(Zt 9),(Zt 12)]),Zk 14 13,Zd 15 .eql 14 0,Zm 6 15] []) .ret))
theorem m136:be Tryz.prog 136 3 A136 cQ=true:=by kernel_rfl
def A187:aq:=(Zs [Zo 1 (.box 3 (Zt 0)),Zn 2 0] (Zs [Za 3 2 1,Zl 4 3,Za 5 0 1,Za 6 1 5,Zl 7 6,Zk 8 7,Zb 9 .mul 4 8,Zm 2 9] .ret))
theorem m187:be Tryz.prog 187 1 A187 bq=true:=by kernel_rfl
def EA:aq:=(.cond (Zt 85) (.drw [Zv 86 2 3,Za 87 0 18,Zv 88 2 87,Za 89 0 11,Zv 90 2 89,Zo 91 (.call 190 [(Zt 86),(Zt 88),(Zt 90)]),Zv 92 2 3,Za 93 0 19,Zv 94 2 93,Za 95 0 12,Zv 96 2 95,Zo 97 (.call 190 [(Zt 92),(Zt 94),(Zt 96)]),Zo 98 (.bsl 1 true [(Zt 91),(Zt 97)]),Zo 99 (.call 188 [(Zt 98)]),Zm 20 99] []) .skip)
def Iv:aq:=(.cond (Zt 105) (.drw [Zv 106 3 18,Zo 107 (.ldv [11] 3 true (Zt 19)),Zw (.stw 11 3 (Zt 11) (Zt 106)),Zw (.stv 3 (Zt 12) (Zt 107)),Zo 13 (.mv (Zy true))] []) .skip)
def HX:aq:=(.seqr (.reg [Zm 100 13,Zo 101 (.un .not (Zt 100)),Zm 102 101,Zg 103 (.mv (Zt 20)) 102 false,Zg 104 (.bin .lss (Zt 103) (.c (.i 0))) 102 false,Zo 105 (.pick (Zt 102) (Zy true) (Zt 104))] []) [3,6,7,9,11,12,13,15,18,19,34,35,36,44,45,46,105] [3,6,7,9,11,12,15,18,19] Iv)
def Kd:aq:=(.seq (.drw [Zv 68 3 18,Zo 69 (.call 187 [(Zt 68)]),Zv 70 3 19,Zo 71 (.call 187 [(Zt 70)]),Zb 72 .add 69 71,Zv 73 3 11,Zo 74 (.call 187 [(Zt 73)]),Zv 75 3 12,Zo 76 (.call 187 [(Zt 75)]),Zb 77 .add 74 76,Zo 78 (.call 189 [(Zt 72),(Zt 77)]),Zo 79 (.bsl 1 true [(Zt 78),(.c (.i 0))]),Zo 80 (.call 188 [(Zt 79)]),Zm 20 80] []) (.seqr (.seqr (.reg [Zm 81 13,Zm 82 81,Zg 83 (.mv (Zt 20)) 82 true,Zg 84 (.bin .eql (Zt 83) (.c (.i 0))) 82 true,Zo 85 (.pick (Zt 82) (Zt 84) (Zy false))] []) [3,6,7,9,11,12,13,15,18,19,20,34,35,36,44,45,46,85] [3,6,7,9,11,12,15,18,19] EA) [3,6,7,9,11,12,13,15,18,19,20,34,35,36,44,45,46] [3,6,7,9,11,12,15,18,19] HX))
def vg:aq:=(Zs [Zb 47 .lss 46 45] (.seq (.cond (Zt 47) .skip (.exit 2)) (.seq (.blk 3 (Zs [Zx 48 3 44 46,Zv 49 3 48,Zo 17 (.alloc (.agg [.i 0,.lst .u 1 [],.i 0])),Zw (.store 3 (Zt 17) (Zt 49))] (.seq (Zs [Zv 50 2 3,Za 51 0 15,Za 52 1 51,Zl 53 52,Za 54 0 17,Za 55 1 54,Zl 56 55,Zo 57 (.call 136 [(Zt 50),(Zt 53),(Zt 56)]),Zo 58 (.un .not (Zt 57))] (.cond (Zt 58) (.exit 3) .skip)) (.seq (.drw [Zo 59 (.ldv [] 3 true (Zt 15)),Zo 60 (.ldv [] 3 true (Zt 17)),Zo 18 (.alloc (.agg [.i 0,.lst .u 1 [],.i 0])),Zo 19 (.alloc (.agg [.i 0,.lst .u 1 [],.i 0])),Zw (.stv 3 (Zt 18) (Zt 59)),Zw (.store 3 (Zt 19) (Zt 60))] []) (.seqr (.seq (.drw [Zv 61 3 17,Zo 62 (.call 187 [(Zt 61)]),Zv 63 3 15,Zo 64 (.call 187 [(Zt 63)]),Zb 65 .lss 62 64] []) (.cond (Zt 65) (.drw [Zv 66 3 17,Zo 67 (.ldv [18] 3 true (Zt 15)),Zw (.stw 18 3 (Zt 18) (Zt 66)),Zw (.store 3 (Zt 19) (Zt 67))] []) .skip)) [3,6,7,9,11,12,13,15,18,19,34,35,36,44,45,46] [3,6,7,9,11,12,15,18,19] Kd))))) (.reg [Zd 108 .add 46 1,Zm 46 108] []))))
def JB:aq:=(.reg [Zd 109 .add 36 1,Zm 36 109] [])
def xd:aq:=(Zs [Zb 37 .lss 36 35] (.seq (.cond (Zt 37) .skip (.exit 0)) (.seqr (.blk 1 (Zs [Zm 38 36,Zx 39 3 34 36,Zv 40 3 39,Zo 15 (.alloc (.agg [.i 0,.lst .u 1 [],.i 0])),Zm 14 38,Zw (.store 3 (Zt 15) (Zt 40))] (Zs [Zm 41 9,Zm 42 14,Zd 43 .add 42 1,Zo 44 (.slc 3 (Zt 41) (some (Zt 43)) none none),Zk 45 44,Zn 46 0] (.blk 2 (.loop vg))))) [3,6,7,9,11,12,13,34,35,36] [3,6,7,9,11,12] JB)))
def GV:aq:=(.seq (.drw [Zv 110 3 11,Zo 111 (.ldv [6] 3 true (Zt 12)),Zm 112 13,Zw (.stw 6 3 (Zt 6) (Zt 110)),Zw (.stv 3 (Zt 7) (Zt 111)),Zm 8 112] []) .ret)
def Ox:aq:=(Zs [Zo 3 (.box 2 (Zt 0)),Zo 5 (.box 4 (Zt 2)),Zo 6 (.alloc (.agg [.i 0,.lst .u 1 [],.i 0])),Zo 7 (.alloc (.agg [.i 0,.lst .u 1 [],.i 0])),Zo 8 (.mv (Zy false))] (.seq (.reg [Zv 22 2 3,Zm 23 1,Zv 24 4 5,Zo 25 (.call 186 [(Zt 22),(Zt 23),(Zt 24)]),Zm 21 25,Ze 26 21 0,Ze 27 21 1,Zm 9 26,Zm 10 27] [.s 9]) (.reg [Zo 28 (.build [.i 0,.lst .u 1 [],.i 0] []),Zo 29 (.build [.i 0,.lst .u 1 [],.i 0] []),Zo 11 (.alloc (.agg [.i 0,.lst .u 1 [],.i 0])),Zo 12 (.alloc (.agg [.i 0,.lst .u 1 [],.i 0])),Zw (.store 3 (Zt 11) (Zt 28)),Zw (.store 3 (Zt 12) (Zt 29)),Zo 13 (.mv (Zy false))] [])))
def OX:aq:=(.seq (Zs [Zm 30 10,Zo 31 (.un .not (Zt 30))] (.cond (Zt 31) (.seq (.drw [Zv 32 3 11,Zo 33 (.ldv [6] 3 true (Zt 12)),Zw (.stw 6 3 (Zt 6) (Zt 32)),Zw (.stv 3 (Zt 7) (Zt 33)),Zo 8 (.mv (Zy false))] []) .ret) .skip)) (.seqa (.reg [Zm 34 9,Zk 35 34,Zn 36 0] []) (.blk 0 (.loop xd)) [6,7,11,12,13] [6,7,11,12] GV))
def A124:aq:=(Zs [Zo 3 (.box 2 (Zt 0)),Zo 5 (.box 4 (Zt 2)),Zo 6 (.alloc (.agg [.i 0,.lst .u 1 [],.i 0])),Zo 7 (.alloc (.agg [.i 0,.lst .u 1 [],.i 0])),Zo 8 (.mv (Zy false))] (.seq (.reg [Zv 22 2 3,Zm 23 1,Zv 24 4 5,Zo 25 (.call 186 [(Zt 22),(Zt 23),(Zt 24)]),Zm 21 25,Ze 26 21 0,Ze 27 21 1,Zm 9 26,Zm 10 27] [.s 9]) (Zs [Zo 28 (.build [.i 0,.lst .u 1 [],.i 0] []),Zo 29 (.build [.i 0,.lst .u 1 [],.i 0] []),Zo 11 (.alloc (.agg [.i 0,.lst .u 1 [],.i 0])),Zo 12 (.alloc (.agg [.i 0,.lst .u 1 [],.i 0])),Zw (.store 3 (Zt 11) (Zt 28)),Zw (.store 3 (Zt 12) (Zt 29)),Zo 13 (.mv (Zy false))] OX)))
def Rc:List RV:=[.c 6 3 true,.c 7 3 true,.t 8]
theorem m124:be Tryz.prog 124 3 A124 Rc=true:=by kernel_rfl
def A47:aq:=(Zs [Zo 3 (.box 2 (Zt 0)),Zo 5 (.box 4 (Zt 2)),Zo 6 (.alloc (.agg [.i 0,.lst .u 1 []])),Zo 7 (.alloc (.agg [.i 0,.lst .u 1 []])),Zo 8 (.mv (Zy false))] (Zs [Zv 13 2 3,Zm 14 1,Zv 15 4 5,Zo 16 (.call 124 [(Zt 13),(Zt 14),(Zt 15)]),Zm 12 16,Ze 17 12 0,Ze 18 12 1,Ze 19 12 2,Zo 9 (.alloc (.agg [.i 0,.lst .u 1 [],.i 0])),Zo 10 (.alloc (.agg [.i 0,.lst .u 1 [],.i 0])),Zw (.store 3 (Zt 9) (Zt 17)),Zw (.store 3 (Zt 10) (Zt 18)),Zm 11 19] (.seq (.drw [Za 20 0 9,Zv 21 2 20,Zo 22 (.fdv [6] 0 (Zt 10)),Zo 23 (.ldv [6] 2 true (Zt 22)),Zm 24 11,Zw (.stw 6 2 (Zt 6) (Zt 21)),Zw (.stv 2 (Zt 7) (Zt 23)),Zm 8 24] []) .ret)))
theorem m47:be Tryz.prog 47 3 A47 mM=true:=by kernel_rfl
def HV:aq:=(.seq (Zs [Zm 11 5,Zm 12 0,Zk 13 12,Zb 14 .lss 11 13] (.cond (Zt 14) .skip (.exit 0))) (.seq (.blk 1 (.seq (.drw [Zm 17 0,Zm 18 5,Zx 19 1 17 18,Zl 20 19,Zm 21 1,Zm 22 5,Zx 23 1 21 22,Zl 24 23,Zb 25 .neq 20 24] []) (.cond (Zt 25) (Zs [Zo 4 (.mv (Zy false))] .ret) .skip))) (.reg [Zm 15 5,Zd 16 .add 15 1,Zm 5 16] [])))
def Pa:aq:=(Zs [Zo 4 (.mv (Zy true))] .ret)
def A36:aq:=(Zs [Zo 4 (.mv (Zy false))] (.seq (Zs [Zm 6 0,Zk 7 6,Zm 8 1,Zk 9 8,Zb 10 .neq 7 9] (.cond (Zt 10) (Zs [Zo 4 (.mv (Zy false))] .ret) .skip)) (.seqa (.reg [Zn 5 0] []) (.blk 0 (.loop HV)) [] [] Pa)))
theorem m36:be Tryz.prog 36 2 A36 aN=true:=by kernel_rfl
def A48:aq:=(Zs [Zo 2 (.box 2 (Zt 0)),Zo 3 (.box 2 (Zt 1)),Zo 4 (.mv (Zy false))] (.seq (Zs [Za 5 0 2,Zl 6 5,Za 7 0 3,Zl 8 7,Zb 9 .neq 6 8] (.cond (Zt 9) (Zs [Zo 4 (.mv (Zy false))] .ret) .skip)) (.seq (Zs [Za 10 1 2,Zl 11 10,Za 12 1 3,Zl 13 12,Zo 14 (.call 36 [(Zt 11),(Zt 13)]),Zo 15 (.un .not (Zt 14))] (.cond (Zt 15) (Zs [Zo 4 (.mv (Zy false))] .ret) .skip)) (Zs [Zo 4 (.mv (Zy true))] .ret))))
theorem m48:be Tryz.prog 48 2 A48 aN=true:=by kernel_rfl
def wD:aq:=(.seq (Zs [Zm 11 5,Zm 12 0,Zk 13 12,Zb 14 .lss 11 13] (.cond (Zt 14) .skip (.exit 0))) (.seq (.blk 1 (.seq (.drw [Zm 17 0,Zm 18 5,Zx 19 1 17 18,Zl 20 19,Zm 21 1,Zm 22 5,Zx 23 1 21 22,Zl 24 23,Zb 25 .neq 20 24] []) (.cond (Zt 25) (Zs [Zo 4 (.mv (Zy false))] .ret) .skip))) (.reg [Zm 15 5,Zd 16 .add 15 1,Zm 5 16] [])))
def Da:aq:=(Zs [Zo 4 (.mv (Zy true))] .ret)
def A116:aq:=(Zs [Zo 4 (.mv (Zy false))] (.seq (Zs [Zm 6 0,Zk 7 6,Zm 8 1,Zk 9 8,Zb 10 .neq 7 9] (.cond (Zt 10) (Zs [Zo 4 (.mv (Zy false))] .ret) .skip)) (.seqa (.reg [Zn 5 0] []) (.blk 0 (.loop wD)) [] [] Da)))
theorem m116:be Tryz.prog 116 2 A116 aN=true:=by kernel_rfl
def A179:aq:=(Zs [Zo 2 (.box 4 (Zt 0)),Zo 3 (.box 4 (Zt 1)),Zo 4 (.mv (Zy false))] (.seq (Zs [Za 5 0 2,Zl 6 5,Za 7 0 3,Zl 8 7,Zb 9 .neq 6 8] (.cond (Zt 9) (Zs [Zo 4 (.mv (Zy false))] .ret) .skip)) (.seq (Zs [Za 10 1 2,Zl 11 10,Za 12 1 3,Zl 13 12,Zb 14 .neq 11 13] (.cond (Zt 14) (Zs [Zo 4 (.mv (Zy false))] .ret) .skip)) (.seq (Zs [Za 15 2 2,Zl 16 15,Za 17 2 3,Zl 18 17,Zb 19 .neq 16 18] (.cond (Zt 19) (Zs [Zo 4 (.mv (Zy false))] .ret) .skip)) (.seq (Zs [Za 20 3 2,Zl 21 20,Za 22 3 3,Zl 23 22,Zb 24 .neq 21 23] (.cond (Zt 24) (Zs [Zo 4 (.mv (Zy false))] .ret) .skip)) (Zs [Zo 4 (.mv (Zy true))] .ret))))))
theorem m179:be Tryz.prog 179 2 A179 aN=true:=by kernel_rfl
def wX:aq:=(.seq (Zs [Zm 11 5,Zm 12 0,Zk 13 12,Zb 14 .lss 11 13] (.cond (Zt 14) .skip (.exit 0))) (.seq (.blk 1 (.seq (.drw [Zm 17 0,Zm 18 5,Zx 19 4 17 18,Zv 20 4 19,Zm 21 1,Zm 22 5,Zx 23 4 21 22,Zv 24 4 23,Zo 25 (.call 179 [(Zt 20),(Zt 24)]),Zo 26 (.un .not (Zt 25))] []) (.cond (Zt 26) (Zs [Zo 4 (.mv (Zy false))] .ret) .skip))) (.reg [Zm 15 5,Zd 16 .add 15 1,Zm 5 16] [])))
def Dt:aq:=(Zs [Zo 4 (.mv (Zy true))] .ret)
def A117:aq:=(Zs [Zo 4 (.mv (Zy false))] (.seq (Zs [Zm 6 0,Zk 7 6,Zm 8 1,Zk 9 8,Zb 10 .neq 7 9] (.cond (Zt 10) (Zs [Zo 4 (.mv (Zy false))] .ret) .skip)) (.seqa (.reg [Zn 5 0] []) (.blk 0 (.loop wX)) [] [] Dt)))
theorem m117:be Tryz.prog 117 2 A117 aN=true:=by kernel_rfl
def A37:aq:=(Zs [Zo 2 (.box 2 (Zt 0)),Zo 3 (.box 2 (Zt 1)),Zo 4 (.mv (Zy false))] (.seq (Zs [Za 5 0 2,Zl 6 5,Za 7 0 3,Zl 8 7,Zo 9 (.call 116 [(Zt 6),(Zt 8)]),Zo 10 (.un .not (Zt 9))] (.cond (Zt 10) (Zs [Zo 4 (.mv (Zy false))] .ret) .skip)) (.seq (Zs [Za 11 1 2,Zl 12 11,Za 13 1 3,Zl 14 13,Zo 15 (.call 117 [(Zt 12),(Zt 14)]),Zo 16 (.un .not (Zt 15))] (.cond (Zt 16) (Zs [Zo 4 (.mv (Zy false))] .ret) .skip)) (Zs [Zo 4 (.mv (Zy true))] .ret))))
theorem m37:be Tryz.prog 37 2 A37 aN=true:=by kernel_rfl
def A125:aq:=(Zs [Zo 2 (.box 2 (Zt 0)),Zo 3 (.box 2 (Zt 1)),Zo 4 (.mv (Zy false))] (.seq (Zs [Za 5 0 2,Zl 6 5,Za 7 0 3,Zl 8 7,Zb 9 .neq 6 8] (.cond (Zt 9) (Zs [Zo 4 (.mv (Zy false))] .ret) .skip)) (.seq (Zs [Za 10 1 2,Zl 11 10,Za 12 1 3,Zl 13 12,Zb 14 .neq 11 13] (.cond (Zt 14) (Zs [Zo 4 (.mv (Zy false))] .ret) .skip)) (Zs [Zo 4 (.mv (Zy true))] .ret))))
theorem m125:be Tryz.prog 125 2 A125 aN=true:=by kernel_rfl
def Fq:aq:=(.seq (Zs [Zm 11 5,Zm 12 0,Zk 13 12,Zb 14 .lss 11 13] (.cond (Zt 14) .skip (.exit 0))) (.seq (.blk 1 (.seq (.drw [Zm 17 0,Zm 18 5,Zx 19 2 17 18,Zv 20 2 19,Zm 21 1,Zm 22 5,Zx 23 2 21 22,Zv 24 2 23,Zo 25 (.call 125 [(Zt 20),(Zt 24)]),Zo 26 (.un .not (Zt 25))] []) (.cond (Zt 26) (Zs [Zo 4 (.mv (Zy false))] .ret) .skip))) (.reg [Zm 15 5,Zd 16 .add 15 1,Zm 5 16] [])))
def OU:aq:=(Zs [Zo 4 (.mv (Zy true))] .ret)
def A49:aq:=(Zs [Zo 4 (.mv (Zy false))] (.seq (Zs [Zm 6 0,Zk 7 6,Zm 8 1,Zk 9 8,Zb 10 .neq 7 9] (.cond (Zt 10) (Zs [Zo 4 (.mv (Zy false))] .ret) .skip)) (.seqa (.reg [Zn 5 0] []) (.blk 0 (.loop Fq)) [] [] OU)))
theorem m49:be Tryz.prog 49 2 A49 aN=true:=by kernel_rfl
def vY:aq:=(.seq (Zs [Zm 6 0,Zd 7 .gtr 6 0] (.cond (Zt 7) .skip (.exit 0))) (.blk 1 (Zs [Zm 8 0,Zd 9 .rem 8 10,Zo 10 (.bin .add (.c (.i 48)) (Zt 9)),Zo 11 (.conv .u8 (Zt 10)),Zo 12 (.bsl 1 false [(Zt 11)]),Zo 13 (.b2s (Zt 12)),Zm 14 3,Zb 15 .add 13 14,Zm 3 15] (.reg [Zm 16 0,Zd 17 .quo 16 10,Zm 0 17] []))))
def DH:aq:=(Zs [Zm 18 3,Zo 19 (.bin .add (.c (.z ⟨#[109]⟩)) (Zt 18)),Zm 2 19] .ret)
def A181:aq:=(Zs [Zo 2 (.mv (.c (.z ⟨#[]⟩)))] (.seq (Zs [Zm 4 0,Zd 5 .leq 4 0] (.cond (Zt 5) (Zs [Zo 2 (.mv (.c (.z ⟨#[109,48]⟩)))] .ret) .skip)) (Zs [Zo 3 (.mv (.c (.z ⟨#[]⟩)))] (.seqr (.blk 0 (.loop vY)) [3] [] DH))))
theorem m181:be Tryz.prog 181 1 A181 bq=true:=by kernel_rfl
def pS:aq:=(.seq (Zs [Zm 6 5,Zm 7 0,Zk 8 7,Zb 9 .lss 6 8] (.cond (Zt 9) .skip (.exit 0))) (.seq (.blk 1 (Zs [Zm 12 0,Zm 13 5,Zm 14 1,Zo 15 (.call 181 [(Zt 14)]),Zx 16 1 12 13,Zw (.store 1 (Zt 16) (Zt 15))] (.reg [Zm 17 1,Zd 18 .add 17 1,Zm 1 18] []))) (.reg [Zm 10 5,Zd 11 .add 10 1,Zm 5 11] [])))
def tN:aq:=(Zs [Zm 19 1,Zm 4 19] .ret)
def FF:aq:=(Zs [Zn 4 0] (.seqa (.reg [Zn 5 0] []) (.blk 0 (.loop pS)) [1] [1000000000] tN))
theorem Qd:be Tryz.prog 119 2 FF aN=true:=by kernel_rfl
def nL:aq:=(.seq (Zs [Zm 6 5,Zm 7 0,Zk 8 7,Zb 9 .lss 6 8] (.cond (Zt 9) .skip (.exit 0))) (.seq (.blk 1 (Zs [Zm 12 0,Zm 13 5,Zm 14 1,Zx 15 4 12 13,Za 16 0 15,Zw (.store 1 (Zt 16) (Zt 14))] (Zs [Zm 17 1,Zd 18 .add 17 1,Zm 1 18] (Zs [Zm 19 0,Zm 20 5,Zm 21 1,Zx 22 4 19 20,Za 23 1 22,Zw (.store 1 (Zt 23) (Zt 21))] (Zs [Zm 24 1,Zd 25 .add 24 1,Zm 1 25] (Zs [Zm 26 0,Zm 27 5,Zm 28 1,Zx 29 4 26 27,Za 30 2 29,Zw (.store 1 (Zt 30) (Zt 28))] (Zs [Zm 31 1,Zd 32 .add 31 1,Zm 1 32] (Zs [Zm 33 0,Zm 34 5,Zm 35 1,Zx 36 4 33 34,Za 37 3 36,Zw (.store 1 (Zt 37) (Zt 35))] (.reg [Zm 38 1,Zd 39 .add 38 1,Zm 1 39] []))))))))) (.reg [Zm 10 5,Zd 11 .add 10 1,Zm 5 11] [])))
def sY:aq:=(Zs [Zm 40 1,Zm 4 40] .ret)
def Im:aq:=(Zs [Zn 4 0] (.seqa (.reg [Zn 5 0] []) (.blk 0 (.loop nL)) [1] [1000000000] sY))
theorem PR:be Tryz.prog 120 2 Im aN=true:=by kernel_rfl
def OS:aq:=(Zs [Zo 2 (.box 2 (Zt 0)),Zn 4 0] (Zs [Za 5 0 2,Zl 6 5,Zm 7 1,Zo 8 (.callM 119 [(Zt 6),(Zt 7)] [1000000000]),Zm 1 8] (Zs [Za 9 1 2,Zl 10 9,Zm 11 1,Zo 12 (.callM 120 [(Zt 10),(Zt 11)] [1000000001]),Zm 1 12] (Zs [Zm 13 1,Zm 4 13] .ret))))
theorem SS:be Tryz.prog 39 2 OS aN=true:=by kernel_rfl
def rS:aq:=(.seq (Zs [Zm 6 5,Zm 7 0,Zk 8 7,Zb 9 .lss 6 8] (.cond (Zt 9) .skip (.exit 0))) (.seq (.blk 1 (Zs [Zm 12 0,Zm 13 5,Zm 14 1,Zx 15 2 12 13,Za 16 0 15,Zw (.store 1 (Zt 16) (Zt 14))] (Zs [Zm 17 1,Zd 18 .add 17 1,Zm 1 18] (Zs [Zm 19 0,Zm 20 5,Zm 21 1,Zx 22 2 19 20,Za 23 1 22,Zw (.store 1 (Zt 23) (Zt 21))] (.reg [Zm 24 1,Zd 25 .add 24 1,Zm 1 25] []))))) (.reg [Zm 10 5,Zd 11 .add 10 1,Zm 5 11] [])))
def yE:aq:=(Zs [Zm 26 1,Zm 4 26] .ret)
def OB:aq:=(Zs [Zn 4 0] (.seqa (.reg [Zn 5 0] []) (.blk 0 (.loop rS)) [1] [1000000000] yE))
theorem Sj:be Tryz.prog 50 2 OB aN=true:=by kernel_rfl
def sg:aq:=(.seq (Zs [Zm 6 5,Zm 7 0,Zk 8 7,Zb 9 .lss 6 8] (.cond (Zt 9) .skip (.exit 0))) (.seq (.blk 1 (Zs [Zm 12 0,Zm 13 5,Zm 14 1,Zx 15 1 12 13,Zw (.store 1 (Zt 15) (Zt 14))] (.reg [Zm 16 1,Zd 17 .add 16 1,Zm 1 17] []))) (.reg [Zm 10 5,Zd 11 .add 10 1,Zm 5 11] [])))
def xU:aq:=(Zs [Zm 18 1,Zm 4 18] .ret)
def OM:aq:=(Zs [Zn 4 0] (.seqa (.reg [Zn 5 0] []) (.blk 0 (.loop sg)) [1] [1000000000] xU))
theorem SL:be Tryz.prog 41 2 OM aN=true:=by kernel_rfl
def OL:aq:=(Zs [Zo 2 (.box 2 (Zt 0)),Zn 4 0] (Zs [Za 5 1 2,Zl 6 5,Zm 7 1,Zo 8 (.callM 41 [(Zt 6),(Zt 7)] [1000000000]),Zm 1 8] (Zs [Zm 9 1,Zm 4 9] .ret)))
theorem Sy:be Tryz.prog 51 2 OL aN=true:=by kernel_rfl
def GE:aq:=(.seq (Zs [Zm 6 5,Zm 7 0,Zk 8 7,Zb 9 .lss 6 8] (.cond (Zt 9) .skip (.exit 0))) (.seq (.blk 1 (.seq (Zs [Zm 12 0,Zm 13 5,Zx 14 1 12 13,Zl 15 14,Zm 16 1,Zb 17 .neq 15 16] (.cond (Zt 17) (Zs [Zn 4 (-1)] .ret) .skip)) (.reg [Zm 18 1,Zd 19 .add 18 1,Zm 1 19] []))) (.reg [Zm 10 5,Zd 11 .add 10 1,Zm 5 11] [])))
def OV:aq:=(Zs [Zm 20 1,Zm 4 20] .ret)
def A42:aq:=(Zs [Zn 4 0] (.seqa (.reg [Zn 5 0] []) (.blk 0 (.loop GE)) [1] [] OV))
theorem m42:be Tryz.prog 42 2 A42 aN=true:=by kernel_rfl
def A52:aq:=(Zs [Zo 2 (.box 2 (Zt 0)),Zn 4 0] (Zs [Za 5 1 2,Zl 6 5,Zm 7 1,Zo 8 (.call 42 [(Zt 6),(Zt 7)]),Zm 1 8] (.seq (Zs [Zm 9 1,Zd 10 .lss 9 0] (.cond (Zt 10) (Zs [Zn 4 (-1)] .ret) .skip)) (Zs [Zm 11 1,Zm 4 11] .ret))))
theorem m52:be Tryz.prog 52 2 A52 aN=true:=by kernel_rfl
def A6R1:aq:=(.cond (Zt 70) (Zs [Zo 6 (.mv (Zy false))] .ret) .skip)
def A6R2:aq:=(.cond (Zt 105) (Zs [Zo 6 (.mv (Zy false))] .ret) .skip)
def A6R3:aq:=(.cond (Zt 150) (Zs [Zo 6 (.mv (Zy false))] .ret) .skip)
def A6:aq:=(Zs [Zo 3 (.box 2 (Zt 0)),Zo 5 (.box 4 (Zt 2)),Zo 6 (.mv (Zy false))] (Zs [Zn 7 1048576] (Zs [Zv 22 2 3,Zm 23 7,Zo 24 (.call 29 [(Zt 22),(Zt 23)]),Zm 7 24] (.seq (Zs [Zm 25 7,Zd 26 .lss 25 0] (.cond (Zt 26) (Zs [Zo 6 (.mv (Zy true))] .ret) .skip)) (Zs [Zm 27 1,Zm 28 7,Zo 29 (.call 43 [(Zt 27),(Zt 28)]),Zm 7 29] (.seq (Zs [Zm 30 7,Zd 31 .lss 30 0] (.cond (Zt 31) (Zs [Zo 6 (.mv (Zy true))] .ret) .skip)) (.seq (.drw [Zv 33 2 3,Zo 34 (.call 32 [(Zt 33)]),Zm 35 1,Zo 36 (.call 45 [(Zt 35)]),Zv 37 4 5,Zo 38 (.call 46 [(Zt 37)]),Zo 39 (.callM 44 [(Zt 34),(Zt 36),(Zt 38)] [34,1034,36]),Zm 32 39,Ze 40 32 0,Ze 41 32 1,Ze 42 32 2,Zo 8 (.alloc (.agg [.i 0,.lst .u 1 []])),Zo 9 (.alloc (.agg [.i 0,.lst .u 1 []])),Zw (.store 2 (Zt 8) (Zt 40)),Zw (.store 2 (Zt 9) (Zt 41)),Zm 10 42] []) (Zs [Zv 43 2 3,Zo 44 (.call 32 [(Zt 43)]),Zo 11 (.alloc (.agg [.lst .u 1 [],.lst .u 4 []])),Zw (.store 2 (Zt 11) (Zt 44))] (.seq (.reg [Zm 45 1,Zo 46 (.call 45 [(Zt 45)]),Zm 12 46] [.s 12]) (.seq (.drw [Zv 48 2 11,Zm 49 12,Zv 50 4 5,Zo 51 (.call 46 [(Zt 50)]),Zo 52 (.call 47 [(Zt 48),(Zt 49),(Zt 51)]),Zm 47 52,Ze 53 47 0,Ze 54 47 1,Ze 55 47 2,Zo 13 (.alloc (.agg [.i 0,.lst .u 1 []])),Zo 14 (.alloc (.agg [.i 0,.lst .u 1 []])),Zw (.store 2 (Zt 13) (Zt 53)),Zw (.store 2 (Zt 14) (Zt 54)),Zm 15 55] []) (.seq (.seqr (.reg [Zv 56 2 13,Zv 57 2 8,Zo 58 (.call 48 [(Zt 56),(Zt 57)]),Zo 59 (.un .not (Zt 58)),Zm 60 59,Zg 61 (.load 2 true (Zt 14)) 60 false,Zg 62 (.load 2 true (Zt 9)) 60 false,Zg 63 (.call 48 [(Zt 61),(Zt 62)]) 60 false,Zg 64 (.un .not (Zt 63)) 60 false,Zo 65 (.pick (Zt 60) (Zy true) (Zt 64)),Zm 66 65,Zg 67 (.mv (Zt 15)) 66 false,Zg 68 (.mv (Zt 10)) 66 false,Zg 69 (.beq true (Zt 67) (Zt 68)) 66 false,Zo 70 (.pick (Zt 66) (Zy true) (Zt 69))] []) [1,3,5,8,9,10,11,12,13,14,15,70] [3,5,8,9,11,12,13,14,44,52,1044,1052] A6R1) (.seq (.seq (.drw [Zv 71 2 11,Zv 72 2 3,Zo 73 (.call 32 [(Zt 72)]),Zo 74 (.call 37 [(Zt 71),(Zt 73)]),Zo 75 (.un .not (Zt 74))] []) (.cond (Zt 75) (Zs [Zo 6 (.mv (Zy false))] .ret) .skip)) (.seq (Zs [Zm 76 12,Zm 77 1,Zo 78 (.call 45 [(Zt 77)]),Zo 79 (.call 49 [(Zt 76),(Zt 78)]),Zo 80 (.un .not (Zt 79))] (.cond (Zt 80) (Zs [Zo 6 (.mv (Zy false))] .ret) .skip)) (Zs [Zn 16 1] (Zs [Zv 81 2 11,Zm 82 16,Zo 83 (.callM 39 [(Zt 81),(Zt 82)] [44,1044]),Zm 16 83] (Zs [Zm 84 12,Zm 85 16,Zo 86 (.callM 50 [(Zt 84),(Zt 85)] [12]),Zm 16 86] (.seq (.seqr (.reg [Zm 87 16,Zd 88 .lss 87 0,Zm 89 88,Zg 90 (.load 2 true (Zt 13)) 89 false,Zg 91 (.load 2 true (Zt 8)) 89 false,Zg 92 (.call 48 [(Zt 90),(Zt 91)]) 89 false,Zg 93 (.un .not (Zt 92)) 89 false,Zo 94 (.pick (Zt 89) (Zy true) (Zt 93)),Zm 95 94,Zg 96 (.load 2 true (Zt 14)) 95 false,Zg 97 (.load 2 true (Zt 9)) 95 false,Zg 98 (.call 48 [(Zt 96),(Zt 97)]) 95 false,Zg 99 (.un .not (Zt 98)) 95 false,Zo 100 (.pick (Zt 95) (Zy true) (Zt 99)),Zm 101 100,Zg 102 (.mv (Zt 15)) 101 false,Zg 103 (.mv (Zt 10)) 101 false,Zg 104 (.beq true (Zt 102) (Zt 103)) 101 false,Zo 105 (.pick (Zt 101) (Zy true) (Zt 104))] []) [1,3,5,8,9,10,13,14,105] [3,5,8,9,13,14,52,1052] A6R2) (Zs [Zn 17 1] (Zs [Zv 106 2 13,Zm 107 17,Zo 108 (.callM 51 [(Zt 106),(Zt 107)] [52]),Zm 17 108] (Zs [Zv 109 2 14,Zm 110 17,Zo 111 (.callM 51 [(Zt 109),(Zt 110)] [1052]),Zm 17 111] (Zs [Zn 18 1] (Zs [Zv 112 2 13,Zm 113 18,Zo 114 (.call 52 [(Zt 112),(Zt 113)]),Zm 18 114] (.seq (Zs [Zm 115 18,Zd 116 .lss 115 0] (.cond (Zt 116) (Zs [Zo 6 (.mv (Zy false))] .ret) .skip)) (Zs [Zv 117 2 14,Zm 118 18,Zo 119 (.call 52 [(Zt 117),(Zt 118)]),Zm 18 119] (.seq (Zs [Zm 120 18,Zd 121 .lss 120 0] (.cond (Zt 121) (Zs [Zo 6 (.mv (Zy false))] .ret) .skip)) (.seq (Zs [Zm 122 18,Zm 123 17,Zb 124 .neq 122 123] (.cond (Zt 124) (Zs [Zo 6 (.mv (Zy false))] .ret) .skip)) (.seq (.drw [Zv 126 2 3,Zo 127 (.call 32 [(Zt 126)]),Zm 128 1,Zo 129 (.call 45 [(Zt 128)]),Zv 130 4 5,Zo 131 (.call 46 [(Zt 130)]),Zo 132 (.call 47 [(Zt 127),(Zt 129),(Zt 131)]),Zm 125 132,Ze 133 125 0,Ze 134 125 1,Ze 135 125 2,Zo 19 (.alloc (.agg [.i 0,.lst .u 1 []])),Zo 20 (.alloc (.agg [.i 0,.lst .u 1 []])),Zw (.store 2 (Zt 19) (Zt 133)),Zw (.store 2 (Zt 20) (Zt 134)),Zm 21 135] []) (.seq (.seqr (.reg [Zv 136 2 19,Zv 137 2 8,Zo 138 (.call 48 [(Zt 136),(Zt 137)]),Zo 139 (.un .not (Zt 138)),Zm 140 139,Zg 141 (.load 2 true (Zt 20)) 140 false,Zg 142 (.load 2 true (Zt 9)) 140 false,Zg 143 (.call 48 [(Zt 141),(Zt 142)]) 140 false,Zg 144 (.un .not (Zt 143)) 140 false,Zo 145 (.pick (Zt 140) (Zy true) (Zt 144)),Zm 146 145,Zg 147 (.mv (Zt 21)) 146 false,Zg 148 (.mv (Zt 10)) 146 false,Zg 149 (.beq true (Zt 147) (Zt 148)) 146 false,Zo 150 (.pick (Zt 146) (Zy true) (Zt 149))] []) [13,14,17,150] [13,14,52,1052] A6R3) (Zs [Zn 18 1] (Zs [Zv 151 2 13,Zm 152 18,Zo 153 (.call 52 [(Zt 151),(Zt 152)]),Zm 18 153] (.seq (Zs [Zm 154 18,Zd 155 .lss 154 0] (.cond (Zt 155) (Zs [Zo 6 (.mv (Zy false))] .ret) .skip)) (Zs [Zv 156 2 14,Zm 157 18,Zo 158 (.call 52 [(Zt 156),(Zt 157)]),Zm 18 158] (.seq (Zs [Zm 159 18,Zd 160 .lss 159 0] (.cond (Zt 160) (Zs [Zo 6 (.mv (Zy false))] .ret) .skip)) (.seq (Zs [Zm 161 18,Zm 162 17,Zb 163 .neq 161 162] (.cond (Zt 163) (Zs [Zo 6 (.mv (Zy false))] .ret) .skip)) (Zs [Zo 6 (.mv (Zy true))] .ret)))))))))))))))))))))))))))))))))))
theorem m6:be Tryz.prog 6 3 A6 cQ=true:=by kernel_rfl
end Vs

