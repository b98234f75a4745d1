/-
  Part of the proof that FnExactRestoreAll returns true at every input.
-/
import Derived.Test.YtgpbibgbfklikaaGreatSe
import Derived.Test.YtgpbibgbfklikaaGreatChecked
import Derived.KernelRfl
import Derived.WalkKit
import Derived.Lib.Walk
import Derived.Lib.SliceRun
import Derived.Lib.JoinLaws
import Derived.Lib.AppendZeros
import Derived.Lib.Overlaps
import Derived.Laws.Externs
import Derived.Laws.IdiomCopy
import Derived.Shelf.RegionOpenPlain
import Derived.Lib.AppendZerosOnto
import Derived.Laws.NewBlocks
import Derived.Deep.AppendSrc
import Derived.Deep.MidRow
import Derived.Shelf.SlSortCmp.NoneTotal
set_option linter.defProp false
set_option linter.unusedSimpArgs false
set_option linter.unusedVariables false
namespace Vs
open Go
structure ay where
 A:Int
 B:Int
 F:Int
 N:Int
 deriving DecidableEq
def ai(f:Fl)(x:ay):AV:=.agg [.i x.A,.i x.B,.i x.F,.i x.N]
theorem eK(f:Fl)(x:ay):(ai f x).nrm=ai .o x:=by simp[ai,dV,gy,gr,dV]
theorem rF(f:Fl)(xs:List ay):(xs.map (ai f)).map AV.nrm=xs.map (ai .o):=by simp[eK]
theorem dU(f:Fl)(x:ay):(ai f x).als=ai f.als x:=by simp[ai,eQ,gv,gD,dV]
theorem sd(f:Fl)(xs:List ay):(xs.map (ai f)).map AV.als=xs.map (ai f.als):=by simp[dU]
theorem sm(f:Fl):AV.als∘ai f=ai f.als:=by funext x;simp[dU]
theorem dX(f:Fl)(x:ay):(ai f x).fix=ai f.fix x:=by simp[ai,fH,fX,fW,dV]
theorem lQ(f:Fl)(xs:List ay):(xs.map (ai f)).map AV.fix=xs.map (ai f.fix):=by simp[dX]
theorem nV(x:ay):(ai .o x).fz=true:=by simp[ai,AV.i,AV.b,AV.z,eO,cJ,dj,cF,cd,dr,dq,dl,du,cG,di,cE,eN,cI,dh,cH,cg,dm,dp,dt]
theorem da(xs:List ay):fzL (xs.map (ai .o))=true:=jP nV xs
theorem nW(x:ay):(ai .u x).ouB=true:=by simp[ai,AV.i,AV.b,AV.z,eO,cJ,dj,cF,cd,dr,dq,dl,du,cG,di,cE,eN,cI,dh,cH,cg,dm,dp,dt]
theorem cZ(xs:List ay):dB (xs.map (ai .u))=true:=kn nW xs
structure af where
 N:List ByteArray
 F:List ay
def aW(f:Fl)(x:af):AV:=.agg [.lst f 1 (x.N.map AV.z),.lst f 4 (x.F.map (ai f))]
theorem kb(f:Fl)(x:af):(aW f x).nrm=aW .o x:=by simp[aW,dV,gy,gr,eK,fO,iO]
theorem oE(f:Fl)(xs:List af):(xs.map (aW f)).map AV.nrm=xs.map (aW .o):=by simp[kb]
theorem gW(f:Fl)(x:af):(aW f x).als=aW f.als x:=by simp[aW,eQ,gv,gD,dU,fU,iV]
theorem oK(f:Fl)(xs:List af):(xs.map (aW f)).map AV.als=xs.map (aW f.als):=by simp[gW]
theorem oM(f:Fl):AV.als∘aW f=aW f.als:=by funext x;simp[gW]
theorem gU(f:Fl)(x:af):(aW f x).fix=aW f.fix x:=by simp[aW,fH,fX,fW,dX,ft,gF]
theorem jK(f:Fl)(xs:List af):(xs.map (aW f)).map AV.fix=xs.map (aW f.fix):=by simp[gU]
theorem lX(x:af):(aW .o x).fz=true:=by simp[aW,AV.i,AV.b,AV.z,eO,cJ,dj,cF,cd,dr,dq,dl,du,cG,di,cE,eN,cI,dh,cH,cg,dm,dp,dt,da,cZ]
theorem qB(xs:List af):fzL (xs.map (aW .o))=true:=jP lX xs
theorem lP(x:af):(aW .u x).ouB=true:=by simp[aW,AV.i,AV.b,AV.z,eO,cJ,dj,cF,cd,dr,dq,dl,du,cG,di,cE,eN,cI,dh,cH,cg,dm,dp,dt,da,cZ]
theorem ql(xs:List af):dB (xs.map (aW .u))=true:=kn lP xs
structure ar where
 N:Int
 F:List Int
 deriving DecidableEq
def aA(f:Fl)(x:ar):AV:=.agg [.i x.N,.lst f 1 (x.F.map AV.i)]
theorem gp(f:Fl)(x:ar):(aA f x).nrm=aA .o x:=by simp[aA,dV,gy,gr,fO]
theorem so(f:Fl)(xs:List ar):(xs.map (aA f)).map AV.nrm=xs.map (aA .o):=by simp[gp]
theorem gA(f:Fl)(x:ar):(aA f x).als=aA f.als x:=by simp[aA,eQ,gv,gD,fU]
theorem rD(f:Fl)(xs:List ar):(xs.map (aA f)).map AV.als=xs.map (aA f.als):=by simp[gA]
theorem rH(f:Fl):AV.als∘aA f=aA f.als:=by funext x;simp[gA]
theorem gw(f:Fl)(x:ar):(aA f x).fix=aA f.fix x:=by simp[aA,fH,fX,fW,ft]
theorem lM(f:Fl)(xs:List ar):(xs.map (aA f)).map AV.fix=xs.map (aA f.fix):=by simp[gw]
theorem od(x:ar):(aA .o x).fz=true:=by simp[aA,AV.i,AV.b,AV.z,eO,cJ,dj,cF,cd,dr,dq,dl,du,cG,di,cE,eN,cI,dh,cH,cg,dm,dp,dt]
theorem jp(xs:List ar):fzL (xs.map (aA .o))=true:=jP od xs
theorem ot(x:ar):(aA .u x).ouB=true:=by simp[aA,AV.i,AV.b,AV.z,eO,cJ,dj,cF,cd,dr,dq,dl,du,cG,di,cE,eN,cI,dh,cH,cg,dm,dp,dt]
theorem jk(xs:List ar):dB (xs.map (aA .u))=true:=kn ot xs
structure bd where
 N:Int
 F:Int
 deriving DecidableEq
def bf(f:Fl)(x:bd):AV:=.agg [.i x.N,.i x.F]
theorem nb(f:Fl)(x:bd):(bf f x).nrm=bf .o x:=by simp[bf,dV,gy,gr,dV]
theorem rT(f:Fl)(xs:List bd):(xs.map (bf f)).map AV.nrm=xs.map (bf .o):=by simp[nb]
theorem jc(f:Fl)(x:bd):(bf f x).als=bf f.als x:=by simp[bf,eQ,gv,gD,dV]
theorem sk(f:Fl)(xs:List bd):(xs.map (bf f)).map AV.als=xs.map (bf f.als):=by simp[jc]
theorem rN(f:Fl):AV.als∘bf f=bf f.als:=by funext x;simp[jc]
theorem jd(f:Fl)(x:bd):(bf f x).fix=bf f.fix x:=by simp[bf,fH,fX,fW,dV]
theorem lS(f:Fl)(xs:List bd):(xs.map (bf f)).map AV.fix=xs.map (bf f.fix):=by simp[jd]
theorem oq(x:bd):(bf .o x).fz=true:=by simp[bf,AV.i,AV.b,AV.z,eO,cJ,dj,cF,cd,dr,dq,dl,du,cG,di,cE,eN,cI,dh,cH,cg,dm,dp,dt]
theorem tC(xs:List bd):fzL (xs.map (bf .o))=true:=jP oq xs
theorem oB(x:bd):(bf .u x).ouB=true:=by simp[bf,AV.i,AV.b,AV.z,eO,cJ,dj,cF,cd,dr,dq,dl,du,cG,di,cE,eN,cI,dh,cH,cg,dm,dp,dt]
theorem tW(xs:List bd):dB (xs.map (bf .u))=true:=kn oB xs
structure aj where
 Id:Int
 F:ar
 N:bd
 deriving DecidableEq
def ah(f:Fl)(x:aj):AV:=.agg [.i x.Id,.i x.F.N,.lst f 1 (x.F.F.map AV.i),.i x.N.N,.i x.N.F]
theorem gu(f:Fl)(x:aj):(ah f x).nrm=ah .o x:=by simp[ah,dV,gy,gr,fO]
theorem rV(f:Fl)(xs:List aj):(xs.map (ah f)).map AV.nrm=xs.map (ah .o):=by simp[gu]
theorem fF(f:Fl)(x:aj):(ah f x).als=ah f.als x:=by simp[ah,eQ,gv,gD,fU]
theorem rX(f:Fl)(xs:List aj):(xs.map (ah f)).map AV.als=xs.map (ah f.als):=by simp[fF]
theorem rE(f:Fl):AV.als∘ah f=ah f.als:=by funext x;simp[fF]
theorem fI(f:Fl)(x:aj):(ah f x).fix=ah f.fix x:=by simp[ah,fH,fX,fW,ft]
theorem lR(f:Fl)(xs:List aj):(xs.map (ah f)).map AV.fix=xs.map (ah f.fix):=by simp[fI]
theorem oe(x:aj):(ah .o x).fz=true:=by simp[ah,AV.i,AV.b,AV.z,eO,cJ,dj,cF,cd,dr,dq,dl,du,cG,di,cE,eN,cI,dh,cH,cg,dm,dp,dt]
theorem fB(xs:List aj):fzL (xs.map (ah .o))=true:=jP oe xs
theorem oC(x:aj):(ah .u x).ouB=true:=by simp[ah,AV.i,AV.b,AV.z,eO,cJ,dj,cF,cd,dr,dq,dl,du,cG,di,cE,eN,cI,dh,cH,cg,dm,dp,dt]
theorem fC(xs:List aj):dB (xs.map (ah .u))=true:=kn oC xs
structure aK where
 F:af
 N:List aj
def bw(f:Fl)(x:aK):AV:=.agg [.lst f 1 (x.F.N.map AV.z),.lst f 4 (x.F.F.map (ai f)),.lst f 5 (x.N.map (ah f))]
theorem oh(f:Fl)(x:aK):(bw f x).nrm=bw .o x:=by simp[bw,dV,gy,gr,eK,gu,fO,iO]
theorem tv(f:Fl)(xs:List aK):(xs.map (bw f)).map AV.nrm=xs.map (bw .o):=by simp[oh]
theorem jY(f:Fl)(x:aK):(bw f x).als=bw f.als x:=by simp[bw,eQ,gv,gD,dU,fF,fU,iV]
theorem uh(f:Fl)(xs:List aK):(xs.map (bw f)).map AV.als=xs.map (bw f.als):=by simp[jY]
theorem ur(f:Fl):AV.als∘bw f=bw f.als:=by funext x;simp[jY]
theorem kr(f:Fl)(x:aK):(bw f x).fix=bw f.fix x:=by simp[bw,fH,fX,fW,dX,fI,ft,gF]
theorem mS(f:Fl)(xs:List aK):(xs.map (bw f)).map AV.fix=xs.map (bw f.fix):=by simp[kr]
theorem qI(x:aK):(bw .o x).fz=true:=by simp[bw,AV.i,AV.b,AV.z,eO,cJ,dj,cF,cd,dr,dq,dl,du,cG,di,cE,eN,cI,dh,cH,cg,dm,dp,dt,da,cZ,fB,fC]
theorem xi(xs:List aK):fzL (xs.map (bw .o))=true:=jP qI xs
theorem qf(x:aK):(bw .u x).ouB=true:=by simp[bw,AV.i,AV.b,AV.z,eO,cJ,dj,cF,cd,dr,dq,dl,du,cG,di,cE,eN,cI,dh,cH,cg,dm,dp,dt,da,cZ,fB,fC]
theorem vA(xs:List aK):dB (xs.map (bw .u))=true:=kn qf xs
structure aq where
 F:aK
 N:List aj
 L:List Int
def aH(f:Fl)(x:aq):AV:=.agg [.lst f 1 (x.F.F.N.map AV.z),.lst f 4 (x.F.F.F.map (ai f)),.lst f 5 (x.F.N.map (ah f)),.lst f 5 (x.N.map (ah f)),.lst f 1 (x.L.map AV.i)]
theorem gX(f:Fl)(x:aq):(aH f x).nrm=aH .o x:=by simp[aH,dV,gy,gr,eK,gu,fO,iO]
theorem lL(f:Fl)(xs:List aq):(xs.map (aH f)).map AV.nrm=xs.map (aH .o):=by simp[gX]
theorem fd(f:Fl)(x:aq):(aH f x).als=aH f.als x:=by simp[aH,eQ,gv,gD,dU,fF,fU,iV]
theorem lE(f:Fl)(xs:List aq):(xs.map (aH f)).map AV.als=xs.map (aH f.als):=by simp[fd]
theorem lD(f:Fl):AV.als∘aH f=aH f.als:=by funext x;simp[fd]
theorem eY(f:Fl)(x:aq):(aH f x).fix=aH f.fix x:=by simp[aH,fH,fX,fW,dX,fI,ft,gF]
theorem gk(f:Fl)(xs:List aq):(xs.map (aH f)).map AV.fix=xs.map (aH f.fix):=by simp[eY]
theorem io(x:aq):(aH .o x).fz=true:=by simp[aH,AV.i,AV.b,AV.z,eO,cJ,dj,cF,cd,dr,dq,dl,du,cG,di,cE,eN,cI,dh,cH,cg,dm,dp,dt,da,cZ,fB,fC]
theorem mr(xs:List aq):fzL (xs.map (aH .o))=true:=jP io xs
theorem im(x:aq):(aH .u x).ouB=true:=by simp[aH,AV.i,AV.b,AV.z,eO,cJ,dj,cF,cd,dr,dq,dl,du,cG,di,cE,eN,cI,dh,cH,cg,dm,dp,dt,da,cZ,fB,fC]
theorem mu(xs:List aq):dB (xs.map (aH .u))=true:=kn im xs
structure bL where
 n:af
 N:Int
 F:List ar
def aR(f:Fl)(x:bL):AV:=.agg [.lst f 1 (x.n.N.map AV.z),.lst f 4 (x.n.F.map (ai f)),.i x.N,.lst f 2 (x.F.map (aA f))]
theorem jG(f:Fl)(x:bL):(aR f x).nrm=aR .o x:=by simp[aR,dV,gy,gr,eK,gp,fO,iO]
theorem nD(f:Fl)(xs:List bL):(xs.map (aR f)).map AV.nrm=xs.map (aR .o):=by simp[jG]
theorem gf(f:Fl)(x:bL):(aR f x).als=aR f.als x:=by simp[aR,eQ,gv,gD,dU,gA,fU,iV]
theorem nH(f:Fl)(xs:List bL):(xs.map (aR f)).map AV.als=xs.map (aR f.als):=by simp[gf]
theorem nz(f:Fl):AV.als∘aR f=aR f.als:=by funext x;simp[gf]
theorem gg(f:Fl)(x:bL):(aR f x).fix=aR f.fix x:=by simp[aR,fH,fX,fW,dX,gw,ft,gF]
theorem iE(f:Fl)(xs:List bL):(xs.map (aR f)).map AV.fix=xs.map (aR f.fix):=by simp[gg]
theorem ki(x:bL):(aR .o x).fz=true:=by simp[aR,AV.i,AV.b,AV.z,eO,cJ,dj,cF,cd,dr,dq,dl,du,cG,di,cE,eN,cI,dh,cH,cg,dm,dp,dt,da,cZ,jp,jk]
theorem oG(xs:List bL):fzL (xs.map (aR .o))=true:=jP ki xs
theorem jO(x:bL):(aR .u x).ouB=true:=by simp[aR,AV.i,AV.b,AV.z,eO,cJ,dj,cF,cd,dr,dq,dl,du,cG,di,cE,eN,cI,dh,cH,cg,dm,dp,dt,da,cZ,jp,jk]
theorem oP(xs:List bL):dB (xs.map (aR .u))=true:=kn jO xs
def M_b(b:List ByteArray)(a:Int×Int):Option ((Int×Int)⊕(Int⊕Int)):=
 cond (decide (a.2<(b.length:Int))) ((bQ b a.2).bind fun c=>cond (decide ((IntKind.wrap .i64 (a.1-(c.size:Int)))<0)) (some (.inr (.inr (-1)))) (some (.inl (IntKind.wrap .i64 (a.1-(c.size:Int)),IntKind.wrap .i64 (a.2+1))))) (some (.inr (.inl a.1)))
def GW(a:List ByteArray)(b:Int):Option Int:=
 cond (decide ((IntKind.wrap .i64 (b-(a.length:Int)))<0)) (some (-1)) ((bv (M_b a) N0 (IntKind.wrap .i64 (b-(a.length:Int)),0)).bind fun c=>(match c with| .inl d=>some d| .inr g=>some g))
def KQ(a:List ay)(b:Int):Option Int:=
 cond (decide ((IntKind.wrap .i64 (b-(a.length:Int)))<0)) (some (-1)) (some (IntKind.wrap .i64 (b-(a.length:Int))))
def NC(a:af)(d:Int):Option Int:=
 (GW a.N d).bind fun b=>cond (decide (b<0)) (some (-1)) ((KQ a.F b).bind fun c=>cond (decide (c<0)) (some (-1)) (some c))
def Df(a:List Int)(b:Int):Option Int:=
 cond (decide ((IntKind.wrap .i64 (b-(a.length:Int)))<0)) (some (-1)) (some (IntKind.wrap .i64 (b-(a.length:Int))))
def NM(b:ar)(c:Int):Option Int:=
 (Df b.F c).bind fun a=>cond (decide (a<0)) (some (-1)) (some a)
def KH(b:aj)(c:Int):Option Int:=
 (NM b.F c).bind fun a=>cond (decide (a<0)) (some (-1)) (some a)
def M_w(b:List aj)(a:Int×Int):Option ((Int×Int)⊕(Int⊕Int)):=
 cond (decide (a.2<(b.length:Int))) ((bQ b a.2).bind fun d=>(KH d a.1).bind fun c=>cond (decide (c<0)) (some (.inr (.inr (-1)))) (some (.inl (c,IntKind.wrap .i64 (a.2+1))))) (some (.inr (.inl a.1)))
def CQ(a:List aj)(b:Int):Option Int:=
 cond (decide ((IntKind.wrap .i64 (b-(a.length:Int)))<0)) (some (-1)) ((bv (M_w a) N0 (IntKind.wrap .i64 (b-(a.length:Int)),0)).bind fun c=>(match c with| .inl d=>some d| .inr g=>some g))
def MC(a:aK)(d:Int):Option Int:=
 (NC a.F d).bind fun b=>cond (decide (b<0)) (some (-1)) ((CQ a.N b).bind fun c=>cond (decide (c<0)) (some (-1)) (some c))
def NK(a:aq)(g:Int):Option Int:=
 (MC a.F g).bind fun b=>cond (decide (b<0)) (some (-1)) ((CQ a.N b).bind fun c=>cond (decide (c<0)) (some (-1)) ((Df a.L c).bind fun d=>cond (decide (d<0)) (some (-1)) (some d)))
def CG(b:List ByteArray)(a:Int×List ByteArray):Option ((Int×List ByteArray)⊕(List ByteArray)):=
 cond (decide (a.1<(b.length:Int))) ((bQ b a.1).bind fun c=>(grd (0<=a.1/\a.1<(a.2.length:Int))).bind fun g=>(a.2[(Int.toNat a.1)]?).bind fun i=>bnd (a.2.set (Int.toNat a.1) c) fun d=>some (.inl (IntKind.wrap .i64 (a.1+1),d))) (some (.inr a.2))
def Ll(a:List ByteArray):Option (List ByteArray):=
 (grd (0<=(a.length:Int)/\(a.length:Int)<=(a.length:Int)/\(a.length:Int)*((16:Nat):Int)<=140737488355328/\(a.length:Int)<=9223372036854775807)).bind fun d=>bnd (List.replicate (Int.toNat (a.length:Int)) (⟨#[]⟩:ByteArray)) fun b=>(bv (CG a) N0 (0,b)).bind fun c=>some c
def Cy(a:ay):Option ay:=
 some (⟨a.A,a.B,a.F,a.N⟩:ay)
def FH(b:List ay)(a:Int×List ay):Option ((Int×List ay)⊕(List ay)):=
 cond (decide (a.1<(b.length:Int))) ((bQ b a.1).bind fun c=>(Cy c).bind fun d=>(grd (0<=a.1/\a.1<(a.2.length:Int))).bind fun i=>(a.2[(Int.toNat a.1)]?).bind fun j=>bnd (a.2.set (Int.toNat a.1) d) fun g=>some (.inl (IntKind.wrap .i64 (a.1+1),g))) (some (.inr a.2))
def Lh(a:List ay):Option (List ay):=
 (grd (0<=(a.length:Int)/\(a.length:Int)<=(a.length:Int)/\(a.length:Int)*((32:Nat):Int)<=140737488355328/\(a.length:Int)<=9223372036854775807)).bind fun d=>bnd (List.replicate (Int.toNat (a.length:Int)) (⟨0,0,0,0⟩:ay)) fun b=>(bv (FH a) N0 (0,b)).bind fun c=>some c
def Lv(a:af):Option af:=
 (Ll a.N).bind fun b=>(Lh a.F).bind fun c=>some (⟨b,c⟩:af)
def M_f(b:List Int)(a:Int×List Int):Option ((Int×List Int)⊕(List Int)):=
 cond (decide (a.1<(b.length:Int))) ((bQ b a.1).bind fun c=>(grd (0<=a.1/\a.1<(a.2.length:Int))).bind fun g=>(a.2[(Int.toNat a.1)]?).bind fun i=>bnd (a.2.set (Int.toNat a.1) c) fun d=>some (.inl (IntKind.wrap .i64 (a.1+1),d))) (some (.inr a.2))
def Eu(a:List Int):Option (List Int):=
 (grd (0<=(a.length:Int)/\(a.length:Int)<=(a.length:Int)/\(a.length:Int)*((8:Nat):Int)<=140737488355328/\(a.length:Int)<=9223372036854775807)).bind fun d=>bnd (List.replicate (Int.toNat (a.length:Int)) 0) fun b=>(bv (M_f a) N0 (0,b)).bind fun c=>some c
def LD(a:ar):Option ar:=
 (Eu a.F).bind fun b=>some (⟨a.N,b⟩:ar)
def MP(a:bd):Option bd:=
 some (⟨a.N,a.F⟩:bd)
def Cm(a:aj):Option aj:=
 (LD a.F).bind fun b=>(MP a.N).bind fun c=>some (⟨a.Id,(⟨b.N,b.F⟩:ar),(⟨c.N,c.F⟩:bd)⟩:aj)
def M_l(c:List aj)(a:Int×List aj):Option ((Int×List aj)⊕(List aj)):=
 cond (decide (a.1<(c.length:Int))) ((bQ c a.1).bind fun d=>(Cm d).bind fun b=>(grd (0<=a.1/\a.1<(a.2.length:Int))).bind fun i=>(a.2[(Int.toNat a.1)]?).bind fun j=>bnd (a.2.set (Int.toNat a.1) (⟨b.Id,(⟨b.F.N,b.F.F⟩:ar),(⟨b.N.N,b.N.F⟩:bd)⟩:aj)) fun g=>some (.inl (IntKind.wrap .i64 (a.1+1),g))) (some (.inr a.2))
def CB(a:List aj):Option (List aj):=
 (grd (0<=(a.length:Int)/\(a.length:Int)<=(a.length:Int)/\(a.length:Int)*((56:Nat):Int)<=140737488355328/\(a.length:Int)<=9223372036854775807)).bind fun d=>bnd (List.replicate (Int.toNat (a.length:Int)) (⟨0,(⟨0,[]⟩:ar),(⟨0,0⟩:bd)⟩:aj)) fun b=>(bv (M_l a) N0 (0,b)).bind fun c=>some c
def Oc(a:aK):Option aK:=
 (Lv a.F).bind fun b=>(CB a.N).bind fun c=>some (⟨(⟨b.N,b.F⟩:af),c⟩:aK)
def wF(a:aq):Option aq:=
 (Oc a.F).bind fun b=>(CB a.N).bind fun c=>(Eu a.L).bind fun d=>some (⟨(⟨(⟨b.F.N,b.F.F⟩:af),b.N⟩:aK),c,d⟩:aq)
def M_d(a:Int)(b:Int)(c:Int):Option Bool:=
 cond (decide (b<=a)) (some (decide (a<=c))) (some false)
def Kk(a:Int):Option Bool:=
 cond (decide (97<=a)) (cond (decide (a<=122)) (some true) (cond (decide (48<=a)) (some (decide (a<=57))) (some false))) (cond (decide (48<=a)) (some (decide (a<=57))) (some false))
def M_a(b:ByteArray)(a:Int):Option (Int⊕(Unit⊕Bool)):=
 cond (decide (a<(b.size:Int))) ((uM b a).bind fun c=>(Kk (c.toNat:Int)).bind fun d=>cond (!d) (some (.inr (.inr false))) (some (.inl (IntKind.wrap .i64 (a+1))))) (some (.inr (.inl ())))
def NZ(a:ByteArray):Option Bool:=
 ((M_d (a.size:Int) 1 8).bind fun c=>cond (!c) (some true) ((uM a 0).bind fun b=>cond (decide ((b.toNat:Int)<97)) (some true) (some (decide (122<(b.toNat:Int))))):Option Bool).bind fun d=>cond (d) (some false) ((bv (M_a a) N0 0).bind fun g=>(match g with| .inl j=>some true| .inr i=>some i))
def ET(b:List ByteArray)(c:ByteArray)(a:Int):Option (Int⊕(Unit⊕Int)):=
 cond (decide (a<(b.length:Int))) ((bQ b a).bind fun d=>cond (d.toList==c.toList) (some (.inr (.inr a))) (some (.inl (IntKind.wrap .i64 (a+1))))) (some (.inr (.inl ())))
def GI(a:List ByteArray)(b:ByteArray):Option Int:=
 (bv (ET a b) N0 0).bind fun c=>(match c with| .inl g=>some (-1)| .inr d=>some d)
def Jp(a:ay)(b:Int):Option Bool:=
 (M_d a.A 0 (IntKind.wrap .i64 (b-1))).bind fun c=>cond (c) ((M_d a.B (IntKind.wrap .i64 (a.A+1)) (IntKind.wrap .i64 (b-1))).bind fun d=>cond (d) ((M_d a.F 1 5000).bind fun g=>cond (g) ((M_d a.N 0 9).bind fun i=>some i) (some false)) (some false)) (some false)
def NX(a:ay)(b:ay):Option Int:=
 cond (a.A !=b.A) (some (IntKind.wrap .i64 (a.A-b.A))) (cond (a.B !=b.B) (some (IntKind.wrap .i64 (a.B-b.B))) (cond (a.F !=b.F) (some (IntKind.wrap .i64 (a.F-b.F))) (some (IntKind.wrap .i64 (a.N-b.N)))))
def M_h(b:af)(a:Int):Option (Int⊕(Unit⊕Bool)):=
 cond (decide (a<(b.N.length:Int))) (((bQ b.N a).bind fun c=>(NZ c).bind fun d=>cond (!d) (some true) ((GI b.N c).bind fun g=>some (g !=a)):Option Bool).bind fun i=>cond (i) (some (.inr (.inr false))) (some (.inl (IntKind.wrap .i64 (a+1))))) (some (.inr (.inl ())))
def EH(b:af)(a:Int):Option (Int⊕(Unit⊕Bool)):=
 cond (decide (a<(b.F.length:Int))) (((bQ b.F a).bind fun c=>(Jp c (b.N.length:Int)).bind fun d=>cond (!d) (some true) (cond (decide (0<a)) ((bQ b.F (IntKind.wrap .i64 (a-1))).bind fun g=>(NX g c).bind fun i=>some (decide (0<i))) (some false)):Option Bool).bind fun j=>cond (j) (some (.inr (.inr false))) (some (.inl (IntKind.wrap .i64 (a+1))))) (some (.inr (.inl ())))
def yn(a:af):Option Bool:=
 ((M_d (a.N.length:Int) 2 8).bind fun b=>cond (!b) (some true) (some (decide (14<(a.F.length:Int)))):Option Bool).bind fun c=>cond (c) (some false) ((bv (M_h a) N0 0).bind fun d=>(match d with| .inl k=>(bv (EH a) N0 0).bind fun g=>(match g with| .inl l=>some true| .inr i=>some i)| .inr j=>some j))
def Ac(c:af)(d:Int)(b:Int):Option Int:=
 (bQ c.F d).bind fun a=>cond (b==a.A) (some a.B) (cond (b==a.B) (some a.A) (some (-1)))
def Fy(b:List Int)(c:Int)(a:Int):Option (Int⊕(Unit⊕Bool)):=
 cond (decide (a<(b.length:Int))) ((bQ b a).bind fun d=>cond (d==c) (some (.inr (.inr true))) (some (.inl (IntKind.wrap .i64 (a+1))))) (some (.inr (.inl ())))
def uF(a:List Int)(b:Int):Option Bool:=
 (bv (Fy a b) N0 0).bind fun c=>(match c with| .inl g=>some false| .inr d=>some d)
def M_k(c:af)(d:ar)(a:Int×List Int):Option ((Int×List Int)⊕((List Int)⊕(List Int×Bool))):=
 cond (decide (a.1<(d.F.length:Int))) ((bQ d.F a.1).bind fun g=>(M_d g 0 (IntKind.wrap .i64 ((c.F.length:Int)-1))).bind fun i=>cond (!i) (some (.inr (.inr (a.2,false)))) ((grd (0<=(IntKind.wrap .i64 ((a.2.length:Int)-1))/\(IntKind.wrap .i64 ((a.2.length:Int)-1))<(a.2.length:Int))).bind fun q=>(a.2[(Int.toNat (IntKind.wrap .i64 ((a.2.length:Int)-1)))]?).bind fun j=>(Ac c g j).bind fun b=>(cond (decide (b<0)) (some true) ((uF a.2 b).bind fun k=>some k):Option Bool).bind fun l=>cond (l) (some (.inr (.inr (a.2,false)))) (bnd ([b]) fun m=>(grd ((a.2.length+1)*8<=140737488355328)).bind fun s=>bnd (a.2++m) fun p=>some (.inl (IntKind.wrap .i64 (a.1+1),p))))) (some (.inr (.inl a.2)))
def Ee(b:af)(a:ar):Option (List Int×Bool):=
 bnd ([a.N]) fun c=>((M_d a.N 0 (IntKind.wrap .i64 ((b.N.length:Int)-1))).bind fun d=>cond (!d) (some true) (some ((a.F.length:Int)==0)):Option Bool).bind fun g=>cond (g) (some (c,false)) ((bv (M_k b a) N0 (0,c)).bind fun i=>(match i with| .inl j=>some (j,true)| .inr k=>some k))
def DS(a:af)(b:ar):Option Bool:=
 (yn a).bind fun c=>cond (!c) (some false) ((Ee a b).bind fun d=>some d.2)
def HM(a:bd):Option Bool:=
 (M_d a.N 0 23).bind fun b=>cond (b) ((M_d a.F 1 (IntKind.wrap .i64 (24-a.N))).bind fun c=>some c) (some false)
def NJ(b:af)(a:aj):Option Bool:=
 (M_d a.Id 1 999).bind fun c=>cond (c) ((DS b a.F).bind fun d=>cond (d) ((HM a.N).bind fun g=>some g) (some false)) (some false)
def Ey(b:ar)(c:List Int)(a:Int):Option (Int⊕(Unit⊕Bool)):=
 cond (decide (a<(b.F.length:Int))) ((bQ b.F a).bind fun d=>(uF c d).bind fun g=>cond (g) (some (.inr (.inr true))) (some (.inl (IntKind.wrap .i64 (a+1))))) (some (.inr (.inl ())))
def vU(a:ar)(b:List Int):Option Bool:=
 (bv (Ey a b) N0 0).bind fun c=>(match c with| .inl g=>some false| .inr d=>some d)
def sj(a:bd):Option Int:=
 (grd (0<=(IntKind.wrap .u64 a.F))).bind fun b=>(grd (0<=(IntKind.wrap .u64 a.N))).bind fun c=>some (IntKind.wrap .i64 ((IntKind.wrap .i64 ((IntKind.wrap .i64 (1*2^(min (Int.toNat (IntKind.wrap .u64 a.F)) (IntKind.bits .i64))))-1))*2^(min (Int.toNat (IntKind.wrap .u64 a.N)) (IntKind.bits .i64))))
def IX(a:aj)(b:aj):Option Bool:=
 (vU a.F b.F.F).bind fun c=>cond (c) ((sj a.N).bind fun d=>(sj b.N).bind fun g=>some ((bits .and .i64 d g) !=0)) (some false)
def M_r(b:aK)(c:Int)(a:Int):Option (Int⊕(Unit⊕Bool)):=
 cond (decide (a<c)) ((bQ b.N a).bind fun d=>(bQ b.N c).bind fun g=>(IX d g).bind fun i=>cond (i) (some (.inr (.inr false))) (some (.inl (IntKind.wrap .i64 (a+1))))) (some (.inr (.inl ())))
def Fh(b:aK)(a:Int):Option (Int⊕(Unit⊕Bool)):=
 cond (decide (a<(b.N.length:Int))) ((((bQ b.N a).bind fun c=>(NJ b.F c).bind fun d=>cond (!d) (some true) (cond (decide (0<a)) ((bQ b.N (IntKind.wrap .i64 (a-1))).bind fun g=>some (decide (c.Id<=g.Id))) (some false)):Option Bool).bind fun i=>cond (i) (some (.inr false)) ((bv (M_r b a) N0 0).bind fun j=>(match j with| .inl p=>some (.inl ())| .inr k=>some (.inr k))):Option (Unit⊕Bool)).bind fun l=>(match l with| .inl q=>some (.inl (IntKind.wrap .i64 (a+1)))| .inr m=>some (.inr (.inr m)))) (some (.inr (.inl ())))
def xQ(a:aK):Option Bool:=
 ((yn a.F).bind fun b=>cond (!b) (some true) (some (decide (12<(a.N.length:Int)))):Option Bool).bind fun c=>cond (c) (some false) ((bv (Fh a) N0 0).bind fun d=>(match d with| .inl i=>some true| .inr g=>some g))
def Fv(b:List Int)(d:Int)(g:Int)(a:Int):Option (Int⊕(Unit⊕Bool)):=
 cond (decide (a<(b.length:Int))) (((bQ b a).bind fun c=>(M_d c d g).bind fun i=>cond (!i) (some true) (cond (decide (0<a)) ((bQ b (IntKind.wrap .i64 (a-1))).bind fun j=>some (decide (c<=j))) (some false)):Option Bool).bind fun k=>cond (k) (some (.inr (.inr false))) (some (.inl (IntKind.wrap .i64 (a+1))))) (some (.inr (.inl ())))
def Ib(a:List Int)(b:Int)(c:Int):Option Bool:=
 (bv (Fv a b c) N0 0).bind fun d=>(match d with| .inl i=>some true| .inr g=>some g)
def Cd(b:List aj)(c:Int)(a:Int):Option (Int⊕(Unit⊕Int)):=
 cond (decide (a<(b.length:Int))) ((bQ b a).bind fun d=>cond (d.Id==c) (some (.inr (.inr a))) (some (.inl (IntKind.wrap .i64 (a+1))))) (some (.inr (.inl ())))
def Mq(a:List aj)(b:Int):Option Int:=
 (bv (Cd a b) N0 0).bind fun c=>(match c with| .inl g=>some (-1)| .inr d=>some d)
def Ri(a:af)(b:ar):Option (List Int):=
 (Ee a b).bind fun c=>some c.1
def yG(b:af)(c:ar):Option Int:=
 (Ri b c).bind fun a=>(grd (0<=(IntKind.wrap .i64 ((a.length:Int)-1))/\(IntKind.wrap .i64 ((a.length:Int)-1))<(a.length:Int))).bind fun g=>(a[(Int.toNat (IntKind.wrap .i64 ((a.length:Int)-1)))]?).bind fun d=>some d
def EX(a:aq)(c:Int):Option (Int⊕(Unit⊕Bool)):=
 cond (decide (c<(a.F.N.length:Int))) ((bQ a.F.N c).bind fun b=>(Mq a.N b.Id).bind fun g=>(cond (decide (g<0)) (some true) ((vU b.F a.L).bind fun i=>some i):Option Bool).bind fun j=>cond (j) (some (.inr (.inr false))) ((bQ a.N g).bind fun d=>(cond (b.F.N !=d.F.N) (some true) ((yG a.F.F b.F).bind fun k=>(yG a.F.F d.F).bind fun l=>cond (k !=l) (some true) (some (b.N.F !=d.N.F))):Option Bool).bind fun m=>cond (m) (some (.inr (.inr false))) (some (.inl (IntKind.wrap .i64 (c+1)))))) (some (.inr (.inl ())))
def CC(a:aq):Option Bool:=
 ((xQ a.F).bind fun b=>cond (!b) (some true) ((xQ (⟨(⟨a.F.F.N,a.F.F.F⟩:af),a.N⟩:aK)).bind fun c=>cond (!c) (some true) ((Ib a.L 0 (IntKind.wrap .i64 ((a.F.F.F.length:Int)-1))).bind fun d=>some (!d))):Option Bool).bind fun g=>cond (g) (some false) ((bv (EX a) N0 0).bind fun i=>(match i with| .inl k=>some true| .inr j=>some j))
def Sm(a:af):Option af:=
 (grd (a.N.length*16<=140737488355328)).bind fun b=>(grd (a.F.length*32<=140737488355328)).bind fun c=>some (⟨a.N,a.F⟩:af)
def M_n(a:List Int):Option (List Int):=
 (grd (a.length*8<=140737488355328)).bind fun b=>some a
def CE(a:ar):Option ar:=
 (M_n a.F).bind fun b=>some (⟨a.N,b⟩:ar)
def tR(a:aj):Option aj:=
 (CE a.F).bind fun b=>some (⟨a.Id,(⟨b.N,b.F⟩:ar),(⟨a.N.N,a.N.F⟩:bd)⟩:aj)
def M_m(c:aK)(a:Int×List aj):Option ((Int×List aj)⊕(List aj)):=
 cond (decide (a.1<(c.N.length:Int))) ((bQ c.N a.1).bind fun d=>(tR d).bind fun b=>bnd ([(⟨b.Id,(⟨b.F.N,b.F.F⟩:ar),(⟨b.N.N,b.N.F⟩:bd)⟩:aj)]) fun g=>(grd ((a.2.length+1)*56<=140737488355328)).bind fun j=>bnd (a.2++g) fun i=>some (.inl (IntKind.wrap .i64 (a.1+1),i))) (some (.inr a.2))
def xM(a:aK):Option aK:=
 (Sm a.F).bind fun b=>(bv (M_m a) N0 (0,[])).bind fun c=>some (⟨(⟨b.N,b.F⟩:af),c⟩:aK)
def CI(c:List aj)(a:Int×List aj):Option ((Int×List aj)⊕(List aj)):=
 cond (decide (a.1<(c.length:Int))) ((bQ c a.1).bind fun d=>(tR d).bind fun b=>bnd ([(⟨b.Id,(⟨b.F.N,b.F.F⟩:ar),(⟨b.N.N,b.N.F⟩:bd)⟩:aj)]) fun g=>(grd ((a.2.length+1)*56<=140737488355328)).bind fun j=>bnd (a.2++g) fun i=>some (.inl (IntKind.wrap .i64 (a.1+1),i))) (some (.inr a.2))
def Lq(a:List aj):Option (List aj):=
 (bv (CI a) N0 (0,[])).bind fun b=>some b
def vz(a:aq):Option aq:=
 (xM a.F).bind fun b=>(Lq a.N).bind fun c=>(M_n a.L).bind fun d=>some (⟨(⟨(⟨b.F.N,b.F.F⟩:af),b.N⟩:aK),c,d⟩:aq)
def DD(b:aK)(c:Int)(a:Int):Option (Int⊕(Unit⊕Int)):=
 cond (decide (a<(b.N.length:Int))) ((bQ b.N a).bind fun d=>cond (d.Id==c) (some (.inr (.inr a))) (some (.inl (IntKind.wrap .i64 (a+1))))) (some (.inr (.inl ())))
def Ot(a:aK)(b:Int):Option Int:=
 (bv (DD a b) N0 0).bind fun c=>(match c with| .inl g=>some (-1)| .inr d=>some d)
def CF(b:aq)(a:Int×List Int):Option ((Int×List Int)⊕(List Int)):=
 cond (decide (a.1<(b.N.length:Int))) ((bQ b.N a.1).bind fun c=>(Ot b.F c.Id).bind fun d=>cond (decide (d<0)) (bnd ([a.1]) fun g=>(grd ((a.2.length+1)*8<=140737488355328)).bind fun j=>bnd (a.2++g) fun i=>some (.inl (IntKind.wrap .i64 (a.1+1),i))) (some (.inl (IntKind.wrap .i64 (a.1+1),a.2)))) (some (.inr a.2))
def Dj(a:aq):Option (List Int):=
 (bv (CF a) N0 (0,[])).bind fun b=>some b
def M_e(b:aK)(d:Int)(a:Int×Int):Option ((Int×Int)⊕Int):=
 cond (decide (a.2<(b.N.length:Int))) ((bQ b.N a.2).bind fun c=>(uF c.F.F d).bind fun g=>cond (g) ((sj c.N).bind fun i=>some (.inl (bits .or .i64 a.1 i,IntKind.wrap .i64 (a.2+1)))) (some (.inl (a.1,IntKind.wrap .i64 (a.2+1))))) (some (.inr a.1))
def Hp(a:aK)(b:Int):Option Int:=
 (bv (M_e a b) N0 (0,0)).bind fun c=>some c
def zW(c:aK)(b:ar)(a:Int×Int):Option ((Int×Int)⊕Int):=
 cond (decide (a.2<(b.F.length:Int))) ((bQ b.F a.2).bind fun d=>(Hp c d).bind fun g=>some (.inl (bits .or .i64 a.1 g,IntKind.wrap .i64 (a.2+1)))) (some (.inr a.1))
def xO(a:aK)(b:ar):Option Int:=
 (bv (zW a b) N0 (0,0)).bind fun c=>some c
def Hc(a:af)(b:Int)(c:Int):Option Bool:=
 (yn a).bind fun d=>cond (d) ((M_d b 0 (IntKind.wrap .i64 ((a.N.length:Int)-1))).bind fun g=>cond (g) ((M_d c 0 (IntKind.wrap .i64 ((a.N.length:Int)-1))).bind fun i=>cond (i) (some (b !=c)) (some false)) (some false)) (some false)
def Fo(c:af)(b:ar)(a:Int×Int):Option ((Int×Int)⊕Int):=
 cond (decide (a.2<(b.F.length:Int))) ((bQ b.F a.2).bind fun d=>(bQ c.F d).bind fun g=>some (.inl (IntKind.wrap .i64 (a.1+g.F),IntKind.wrap .i64 (a.2+1)))) (some (.inr a.1))
def En(a:af)(b:ar):Option Int:=
 (bv (Fo a b) N0 (0,0)).bind fun c=>some c
def xq(a:Int):Option Int:=
 cond (decide (a<0)) (some (-1)) (cond (decide (0<a)) (some 1) (some 0))
def Gb(b:ar)(g:ar)(a:Int):Option (Int⊕(Unit⊕Int)):=
 cond (decide (a<(b.F.length:Int))) ((bQ b.F a).bind fun c=>(bQ g.F a).bind fun d=>cond (c !=d) ((xq (IntKind.wrap .i64 (c-d))).bind fun i=>some (.inr (.inr i))) (some (.inl (IntKind.wrap .i64 (a+1))))) (some (.inr (.inl ())))
def Ci(c:af)(a:ar)(b:ar):Option Int:=
 (En c a).bind fun d=>(En c b).bind fun g=>cond ((IntKind.wrap .i64 (d-g)) !=0) ((xq (IntKind.wrap .i64 (d-g))).bind fun i=>some i) (cond ((IntKind.wrap .i64 ((a.F.length:Int)-(b.F.length:Int))) !=0) ((xq (IntKind.wrap .i64 ((a.F.length:Int)-(b.F.length:Int)))).bind fun j=>some j) ((bv (Gb a b) N0 0).bind fun k=>(match k with| .inl p=>(xq (IntKind.wrap .i64 (a.N-b.N))).bind fun l=>some l| .inr m=>some m)))
def UB(c:ar)(d:List ByteArray)(g:List ay)(b:List ar)(a:Int):Option (Int⊕Int):=
 cond (decide (0<a)) ((grd (0<=(IntKind.wrap .i64 (a-1))/\(IntKind.wrap .i64 (a-1))<(b.length:Int))).bind fun k=>(b[(Int.toNat (IntKind.wrap .i64 (a-1)))]?).bind fun i=>(Ci (⟨d,g⟩:af) c i).bind fun j=>cond (decide (j<0)) (some (.inl (IntKind.wrap .i64 (a-1)))) (some (.inr a))) (some (.inr a))
def Wl(d:ar)(g:List ByteArray)(i:List ay)(l:Int)(a:List ar):Option (List ByteArray×List ay×Int×List ar×List ar):=
 (bv (UB d g i a) N0 (a.length:Int)).bind fun b=>(grd (True/\0<=b/\True/\Int.toNat b<=a.length)).bind fun q=>bnd (fK a 0 (Int.toNat b)) fun c=>(grd (c.length*32<=140737488355328)).bind fun s=>bnd ([d]) fun m=>(grd ((c.length+1)*32<=140737488355328)).bind fun t=>bnd (c++m) fun j=>(grd (0<=b/\True/\Int.toNat b<=a.length/\True)).bind fun u=>bnd (fK a (Int.toNat b) (a.length-(Int.toNat b))) fun k=>(grd ((j.length+k.length)*32<=140737488355328)).bind fun v=>bnd (j++k) fun p=>some (g,i,l,p,a)
def Cv(c:ar)(d:List ByteArray)(g:List ay)(b:List ar)(a:Int):Option (Int⊕Int):=
 cond (decide (0<a)) ((grd (0<=(IntKind.wrap .i64 (a-1))/\(IntKind.wrap .i64 (a-1))<(b.length:Int))).bind fun k=>(b[(Int.toNat (IntKind.wrap .i64 (a-1)))]?).bind fun i=>(Ci (⟨d,g⟩:af) c i).bind fun j=>cond (decide (j<0)) (some (.inl (IntKind.wrap .i64 (a-1)))) (some (.inr a))) (some (.inr a))
def Ob(d:ar)(g:List ByteArray)(i:List ay)(l:Int)(a:List ar):Option (List ByteArray×List ay×Int×List ar×List ar):=
 (bv (Cv d g i a) N0 (a.length:Int)).bind fun b=>(grd (True/\0<=b/\True/\Int.toNat b<=a.length)).bind fun q=>bnd (fK a 0 (Int.toNat b)) fun c=>(grd (c.length*32<=140737488355328)).bind fun s=>bnd ([d]) fun m=>(grd ((c.length+1)*32<=140737488355328)).bind fun t=>bnd (c++m) fun j=>(grd (0<=b/\True/\Int.toNat b<=a.length/\True)).bind fun u=>bnd (fK a (Int.toNat b) (a.length-(Int.toNat b))) fun k=>(grd ((j.length+k.length)*32<=140737488355328)).bind fun v=>bnd (j++k) fun p=>some (g,i,l,p,a)
def HP(j:Int)(k:List Int)(d:List Int)(l:Int->List ByteArray->List ay->Int->List ar->List Int->List Int->Option (List ByteArray×List ay×Int×List ar×List Int))(m:Int)(a:Int×List ByteArray×List ay×Int×List ar):Option ((Int×List ByteArray×List ay×Int×List ar)⊕(List ByteArray×List ay×Int×List ar)):=
 (cond (decide (a.1<(a.2.2.1.length:Int))) (some (decide ((a.2.2.2.2.length:Int)<=200))) (some false):Option Bool).bind fun p=>cond (p) ((Ac (⟨a.2.1,a.2.2.1⟩:af) a.1 m).bind fun c=>(cond (decide (0<=c)) ((uF d c).bind fun q=>some (!q)) (some false):Option Bool).bind fun s=>cond (s) ((M_n k).bind fun g=>bnd ([a.1]) fun t=>(grd ((g.length+1)*8<=140737488355328)).bind fun x=>bnd (g++t) fun u=>(M_n d).bind fun i=>bnd ([c]) fun v=>(grd ((i.length+1)*8<=140737488355328)).bind fun y=>bnd (i++v) fun w=>(l j a.2.1 a.2.2.1 a.2.2.2.1 a.2.2.2.2 u w).bind fun b=>some (.inl (IntKind.wrap .i64 (a.1+1),b.1,b.2.1,b.2.2.1,b.2.2.2.1))) (some (.inl (IntKind.wrap .i64 (a.1+1),a.2.1,a.2.2.1,a.2.2.2.1,a.2.2.2.2)))) (some (.inr (a.2.1,a.2.2.1,a.2.2.2.1,a.2.2.2.2)))
def Ep(p:Int->List ByteArray->List ay->Int->List ar->List Int->List Int->Option (List ByteArray×List ay×Int×List ar×List Int))(g:Int)(i:List ByteArray)(j:List ay)(d:Int)(k:List ar)(l:List Int)(a:List Int):Option (List ByteArray×List ay×Int×List ar×List Int):=
 (grd (0<=(IntKind.wrap .i64 ((a.length:Int)-1))/\(IntKind.wrap .i64 ((a.length:Int)-1))<(a.length:Int))).bind fun q=>(a[(Int.toNat (IntKind.wrap .i64 ((a.length:Int)-1)))]?).bind fun m=>cond (m==d) ((Ob (⟨g,l⟩:ar) i j d k).bind fun b=>some (b.1,b.2.1,b.2.2.1,b.2.2.2.1,a)) ((bv (HP g l a p m) N0 (0,i,j,d,k)).bind fun c=>some (c.1,c.2.1,c.2.2.1,c.2.2.2,a))
def xJ:Nat->Int->List ByteArray->List ay->Int->List ar->List Int->List Int->Option (List ByteArray×List ay×Int×List ar×List Int)
 |0,_,_,_,_,_,_,_=>none
 |n+1,a,b,c,d,g,i,j=>Ep (xJ n) a b c d g i j
def VC(j:Int)(d:List Int)(k:Int)(a:Int×List ByteArray×List ay×Int×List ar):Option ((Int×List ByteArray×List ay×Int×List ar)⊕(List ByteArray×List ay×Int×List ar)):=
 (cond (decide (a.1<(a.2.2.1.length:Int))) (some (decide ((a.2.2.2.2.length:Int)<=200))) (some false):Option Bool).bind fun l=>cond (l) ((Ac (⟨a.2.1,a.2.2.1⟩:af) a.1 k).bind fun c=>(cond (decide (0<=c)) ((uF d c).bind fun m=>some (!m)) (some false):Option Bool).bind fun p=>cond (p) ((M_n ([])).bind fun g=>bnd ([a.1]) fun q=>(grd ((g.length+1)*8<=140737488355328)).bind fun v=>bnd (g++q) fun s=>(M_n d).bind fun i=>bnd ([c]) fun t=>(grd ((i.length+1)*8<=140737488355328)).bind fun w=>bnd (i++t) fun u=>(xJ N0 j a.2.1 a.2.2.1 a.2.2.2.1 a.2.2.2.2 s u).bind fun b=>some (.inl (IntKind.wrap .i64 (a.1+1),b.1,b.2.1,b.2.2.1,b.2.2.2.1))) (some (.inl (IntKind.wrap .i64 (a.1+1),a.2.1,a.2.2.1,a.2.2.2.1,a.2.2.2.2)))) (some (.inr (a.2.1,a.2.2.1,a.2.2.2.1,a.2.2.2.2)))
def Qz(g:Int)(i:List ByteArray)(j:List ay)(d:Int)(a:List Int):Option (List ByteArray×List ay×Int×List ar×List Int):=
 (grd (0<=(IntKind.wrap .i64 ((a.length:Int)-1))/\(IntKind.wrap .i64 ((a.length:Int)-1))<(a.length:Int))).bind fun l=>(a[(Int.toNat (IntKind.wrap .i64 ((a.length:Int)-1)))]?).bind fun k=>cond (k==d) ((Wl (⟨g,[]⟩:ar) i j d ([])).bind fun b=>some (b.1,b.2.1,b.2.2.1,b.2.2.2.1,a)) ((bv (VC g a k) N0 (0,i,j,d,[])).bind fun c=>some (c.1,c.2.1,c.2.2.1,c.2.2.2,a))
def FN(b:af)(c:Int)(d:Int):Option (Bool×List ar):=
 bnd ([c]) fun g=>(Qz c ((b).N) ((b).F) d g).bind fun a=>cond (decide (200<(a.2.2.2.1.length:Int))) (some (false,[])) ((grd (a.2.2.2.1.length*32<=140737488355328)).bind fun i=>some (true,a.2.2.2.1))
def Ip(a:af)(b:Int)(c:Int):Option (Bool×List ar):=
 (Hc a b c).bind fun g=>cond (!g) (some (false,[])) ((FN a b c).bind fun d=>some (d.1,d.2))
def M_g(c:Int)(b:Int)(a:Int×List Int):Option ((Int×List Int)⊕(List Int)):=
 cond (decide ((IntKind.wrap .i64 (a.1+b))<=24)) ((sj (⟨a.1,b⟩:bd)).bind fun d=>cond ((bits .and .i64 c d)==0) (bnd ([a.1]) fun g=>(grd ((a.2.length+1)*8<=140737488355328)).bind fun j=>bnd (a.2++g) fun i=>some (.inl (IntKind.wrap .i64 (a.1+1),i))) (some (.inl (IntKind.wrap .i64 (a.1+1),a.2)))) (some (.inr a.2))
def LH(a:Int)(b:Int):Option (List Int):=
 (bv (M_g a b) N0 (0,[])).bind fun c=>some c
def De(i:aq)(c:aj)(b:Bool×List ar)(a:Int):Option (Int⊕(Unit⊕(aj×Bool))):=
 (cond (decide (a<(b.2.length:Int))) (some b.1) (some false):Option Bool).bind fun k=>cond (k) ((grd (0<=a/\a<(b.2.length:Int))).bind fun q=>(b.2[(Int.toNat a)]?).bind fun d=>(vU d i.L).bind fun l=>cond (l) (some (.inl (IntKind.wrap .i64 (a+1)))) ((xO i.F d).bind fun m=>(LH m c.N.F).bind fun g=>cond (decide (0<(g.length:Int))) ((CE d).bind fun j=>(grd (0<=0/\0<(g.length:Int))).bind fun s=>(g[(Int.toNat 0)]?).bind fun p=>some (.inr (.inr ((⟨c.Id,(⟨j.N,j.F⟩:ar),(⟨p,c.N.F⟩:bd)⟩:aj),true)))) (some (.inl (IntKind.wrap .i64 (a+1)))))) (some (.inr (.inl ())))
def DE(b:aq)(a:aj):Option (aj×Bool):=
 ((vU a.F b.L).bind fun d=>cond (!d) ((xO b.F a.F).bind fun g=>(sj a.N).bind fun i=>some ((bits .and .i64 g i)==0)) (some false):Option Bool).bind fun j=>cond (j) ((tR a).bind fun c=>some ((⟨c.Id,(⟨c.F.N,c.F.F⟩:ar),(⟨c.N.N,c.N.F⟩:bd)⟩:aj),true)) ((yG b.F.F a.F).bind fun k=>(Ip b.F.F a.F.N k).bind fun l=>(bv (De b a l) N0 0).bind fun m=>(match m with| .inl q=>some ((⟨0,(⟨0,[]⟩:ar),(⟨0,0⟩:bd)⟩:aj),false)| .inr p=>some p))
def Cr(c:Int)(b:aK)(a:Int):Option (Int⊕Int):=
 cond (decide (a<(b.N.length:Int))) ((grd (0<=a/\a<(b.N.length:Int))).bind fun g=>(b.N[(Int.toNat a)]?).bind fun d=>cond (decide (d.Id<c)) (some (.inl (IntKind.wrap .i64 (a+1)))) (some (.inr a))) (some (.inr a))
def JX(g:Int)(q:Int)(s:Int)(t:Int)(i:List ByteArray)(j:List ay)(k:List aj)(l:List Int):Option (List ByteArray×List aj×List ay×List ByteArray×List ay×List aj×List Int):=
 (xM (⟨(⟨i,j⟩:af),k⟩:aK)).bind fun a=>(bv (Cr g a) N0 0).bind fun b=>(grd (True/\0<=b/\True/\Int.toNat b<=a.N.length)).bind fun w=>bnd (fK a.N 0 (Int.toNat b)) fun d=>(grd (d.length*56<=140737488355328)).bind fun x=>(tR (⟨g,(⟨q,l⟩:ar),(⟨s,t⟩:bd)⟩:aj)).bind fun c=>bnd ([(⟨c.Id,(⟨c.F.N,c.F.F⟩:ar),(⟨c.N.N,c.N.F⟩:bd)⟩:aj)]) fun u=>(grd ((d.length+1)*56<=140737488355328)).bind fun y=>bnd (d++u) fun m=>(grd (0<=b/\True/\Int.toNat b<=a.N.length/\True)).bind fun z=>bnd (fK a.N (Int.toNat b) (a.N.length-(Int.toNat b))) fun p=>(grd ((m.length+p.length)*56<=140737488355328)).bind fun a1=>bnd (m++p) fun v=>some (a.F.N,v,a.F.F,i,j,k,l)
def Gg(k:Int)(d:List ByteArray)(g:List ay)(i:List aj)(c:List aj)(j:List Int):Option (Bool×List ByteArray×List ay×List aj×List aj×List Int×List ByteArray×List ay×List aj×List aj×List Int):=
 (grd (0<=k/\k<(c.length:Int))).bind fun p=>(c[(Int.toNat k)]?).bind fun m=>(DE (⟨(⟨(⟨d,g⟩:af),i⟩:aK),c,j⟩:aq) m).bind fun b=>(vz (⟨(⟨(⟨d,g⟩:af),i⟩:aK),c,j⟩:aq)).bind fun a=>cond (b.2) ((JX b.1.Id b.1.F.N b.1.N.N b.1.N.F a.F.F.N a.F.F.F a.F.N b.1.F.F).bind fun l=>some (b.2,l.1,l.2.2.1,l.2.1,a.N,a.L,d,g,i,c,j)) (some (b.2,a.F.F.N,a.F.F.F,a.F.N,a.N,a.L,d,g,i,c,j))
def M_x(g:List aj)(d:List Int)(a:Int×List Int×List ByteArray×List ay×List aj×List aj×List Int):Option ((Int×List Int×List ByteArray×List ay×List aj×List aj×List Int)⊕(List Int×List ByteArray×List ay×List aj×List aj×List Int)):=
 cond (decide (a.1<(d.length:Int))) ((grd (0<=a.1/\a.1<(d.length:Int))).bind fun l=>(d[(Int.toNat a.1)]?).bind fun c=>(Gg c a.2.2.1 a.2.2.2.1 a.2.2.2.2.1 a.2.2.2.2.2.1 a.2.2.2.2.2.2).bind fun b=>cond (b.1) ((grd (0<=c/\c<(g.length:Int))).bind fun m=>(g[(Int.toNat c)]?).bind fun i=>bnd ([i.Id]) fun j=>(grd ((a.2.1.length+1)*8<=140737488355328)).bind fun p=>bnd (a.2.1++j) fun k=>some (.inl (IntKind.wrap .i64 (a.1+1),k,b.2.1,b.2.2.1,b.2.2.2.1,b.2.2.2.2.1,b.2.2.2.2.2.1))) (some (.inl (IntKind.wrap .i64 (a.1+1),a.2.1,b.2.1,b.2.2.1,b.2.2.2.1,b.2.2.2.2.1,b.2.2.2.2.2.1)))) (some (.inr (a.2.1,a.2.2.1,a.2.2.2.1,a.2.2.2.2.1,a.2.2.2.2.2.1,a.2.2.2.2.2.2)))
def Sy(d:List ByteArray)(g:List ay)(i:List aj)(c:List aj)(j:List Int):Option (List Int×List ByteArray×List ay×List aj×List aj×List Int×List ByteArray×List ay×List aj×List aj×List Int):=
 (vz (⟨(⟨(⟨d,g⟩:af),i⟩:aK),c,j⟩:aq)).bind fun b=>(Dj (⟨(⟨(⟨d,g⟩:af),i⟩:aK),c,j⟩:aq)).bind fun k=>(bv (M_x c k) N0 (0,[],b.F.F.N,b.F.F.F,b.F.N,b.N,b.L)).bind fun a=>some (a.1,a.2.1,a.2.2.1,a.2.2.2.1,a.2.2.2.2.1,a.2.2.2.2.2,d,g,i,c,j)
def MW(b:List ByteArray)(c:List ay)(d:List aj)(g:List aj)(i:List Int):Option (Bool×List Int×List ByteArray×List ay×List aj×List aj×List Int×List ByteArray×List ay×List aj×List aj×List Int):=
 (CC (⟨(⟨(⟨b,c⟩:af),d⟩:aK),g,i⟩:aq)).bind fun j=>cond (!j) (some (false,[],[],[],[],[],[],b,c,d,g,i)) ((Sy b c d g i).bind fun a=>some (true,a.1,a.2.1,a.2.2.1,a.2.2.2.1,a.2.2.2.2.1,a.2.2.2.2.2.1,a.2.2.2.2.2.2.1,a.2.2.2.2.2.2.2.1,a.2.2.2.2.2.2.2.2.1,a.2.2.2.2.2.2.2.2.2.1,a.2.2.2.2.2.2.2.2.2.2))
def M_i(a:Int)(b:Int)(c:Int):Option Bool:=
 cond (decide (b<=a)) (some (decide (a<=c))) (some false)
def EG(c:ByteArray)(b:Int):Option (Int⊕(Unit⊕Bool)):=
 cond (decide (b<(c.size:Int))) (((uM c b).bind fun a=>cond (decide (97<=(a.toNat:Int))) (cond (decide (48<=(a.toNat:Int))) (some (decide ((a.toNat:Int)<=122),decide ((a.toNat:Int)<=57))) (some (decide ((a.toNat:Int)<=122),false))) (cond (decide (48<=(a.toNat:Int))) (some (false,decide ((a.toNat:Int)<=57))) (some (false,false))):Option (Bool×Bool)).bind fun d=>cond (!d.1) (cond (!d.2) (some (.inr (.inr false))) (cond (b==0) (some (.inr (.inr false))) (some (.inl (IntKind.wrap .i64 (b+1)))))) (some (.inl (IntKind.wrap .i64 (b+1))))) (some (.inr (.inl ())))
def LM(a:ByteArray):Option Bool:=
 (bv (EG a) N0 0).bind fun b=>(match b with| .inl g=>(M_i (a.size:Int) 1 8).bind fun c=>some c| .inr d=>some d)
def Dv(b:List ByteArray)(c:ByteArray)(a:Int):Option (Int⊕(Unit⊕Int)):=
 cond (decide (a<(b.length:Int))) ((bQ b a).bind fun d=>cond (c.toList==d.toList) (some (.inr (.inr a))) (some (.inl (IntKind.wrap .i64 (a+1))))) (some (.inr (.inl ())))
def Pz(a:List ByteArray)(b:ByteArray):Option Int:=
 (bv (Dv a b) N0 0).bind fun c=>(match c with| .inl g=>some (-1)| .inr d=>some d)
def Iz(a:List ByteArray)(b:ByteArray):Option Bool:=
 (Pz a b).bind fun c=>some (decide (0<=c))
def wS(a:Int):Option Bool:=
 some (a !=a)
def M_s(a:Int)(b:Int):Option Int:=
 (wS a).bind fun d=>(wS b).bind fun c=>cond (d) (cond (c) (some 0) (some (-1))) (cond (c) (some 1) (cond (decide (a<b)) (some (-1)) (cond (decide (b<a)) (some 1) (some 0))))
def M_o(b:List Int)(a:Int):Option (Int⊕(Unit⊕Int)):=
 cond (decide (a<(b.length:Int))) ((bQ b a).bind fun c=>cond (c !=0) (some (.inr (.inr c))) (some (.inl (IntKind.wrap .i64 (a+1))))) (some (.inr (.inl ())))
def yk(a:List Int):Option Int:=
 (bv (M_o a) N0 0).bind fun b=>(match b with| .inl d=>some 0| .inr c=>some c)
def Lg(a:ay)(b:ay):Option Int:=
 (M_s a.A b.A).bind fun c=>(M_s a.B b.B).bind fun d=>(M_s a.F b.F).bind fun g=>(M_s a.N b.N).bind fun i=>bnd ([c,d,g,i]) fun j=>(yk j).bind fun k=>some k
def FL(b:af)(a:Int):Option (Int⊕(Unit⊕Bool)):=
 cond (decide (a<(b.N.length:Int))) ((bQ b.N a).bind fun c=>(LM c).bind fun d=>cond (!d) (some (.inr (.inr false))) ((slT b.N a).bind fun g=>(Iz g c).bind fun i=>cond (i) (some (.inr (.inr false))) (some (.inl (IntKind.wrap .i64 (a+1)))))) (some (.inr (.inl ())))
def Cq(c:af)(b:Int):Option (Int⊕(Unit⊕Bool)):=
 cond (decide (b<(c.F.length:Int))) ((bQ c.F b).bind fun a=>cond (decide (a.A<0)) (some (.inr (.inr false))) (cond (decide (a.B<=a.A)) (some (.inr (.inr false))) (cond (decide ((c.N.length:Int)<=a.B)) (some (.inr (.inr false))) ((M_i a.F 1 5000).bind fun d=>cond (!d) (some (.inr (.inr false))) ((M_i a.N 0 9).bind fun g=>cond (!g) (some (.inr (.inr false))) (cond (decide (0<b)) ((bQ c.F (IntKind.wrap .i64 (b-1))).bind fun i=>(Lg i a).bind fun j=>cond (decide (0<j)) (some (.inr (.inr false))) (some (.inl (IntKind.wrap .i64 (b+1))))) (some (.inl (IntKind.wrap .i64 (b+1)))))))))) (some (.inr (.inl ())))
def EC(a:af):Option Bool:=
 (bv (FL a) N0 0).bind fun b=>(match b with| .inl j=>(bv (Cq a) N0 0).bind fun c=>(match c with| .inl k=>(M_i (a.N.length:Int) 2 8).bind fun d=>cond (d) (some (decide ((a.F.length:Int)<=14))) (some false)| .inr g=>some g)| .inr i=>some i)
def xZ(a:ay)(b:Int):Option Int:=
 cond (b==a.A) (some a.B) (cond (b==a.B) (some a.A) (some (-1)))
def Dq(b:List Int)(c:Int)(a:Int):Option (Int⊕(Unit⊕Int)):=
 cond (decide (a<(b.length:Int))) ((bQ b a).bind fun d=>cond (c==d) (some (.inr (.inr a))) (some (.inl (IntKind.wrap .i64 (a+1))))) (some (.inr (.inl ())))
def Sq(a:List Int)(b:Int):Option Int:=
 (bv (Dq a b) N0 0).bind fun c=>(match c with| .inl g=>some (-1)| .inr d=>some d)
def Dk(a:List Int)(b:Int):Option Bool:=
 (Sq a b).bind fun c=>some (decide (0<=c))
def FX(c:af)(d:ar)(a:Int×Int×List Int):Option ((Int×Int×List Int)⊕((List Int)⊕(List Int×Bool))):=
 cond (decide (a.2.1<(d.F.length:Int))) ((bQ d.F a.2.1).bind fun g=>(M_i g 0 (IntKind.wrap .i64 ((c.F.length:Int)-1))).bind fun i=>cond (!i) (some (.inr (.inr (([]),false)))) ((bQ c.F g).bind fun j=>(xZ j a.1).bind fun b=>(cond (decide (b<0)) (some true) ((Dk a.2.2 b).bind fun k=>some k):Option Bool).bind fun l=>cond (l) (some (.inr (.inr (([]),false)))) (bnd ([b]) fun m=>(grd ((a.2.2.length+1)*8<=140737488355328)).bind fun q=>bnd (a.2.2++m) fun p=>some (.inl (b,IntKind.wrap .i64 (a.2.1+1),p))))) (some (.inr (.inl a.2.2)))
def Ch(b:af)(a:ar):Option (List Int×Bool):=
 ((M_i a.N 0 (IntKind.wrap .i64 ((b.N.length:Int)-1))).bind fun c=>cond (!c) (some true) (some ((a.F.length:Int)==0)):Option Bool).bind fun d=>cond (d) (some (([]),false)) (bnd ([a.N]) fun g=>(bv (FX b a) N0 (a.N,0,g)).bind fun i=>(match i with| .inl j=>some (j,true)| .inr k=>some k))
def Im(a:bd):Option Bool:=
 cond (decide (0<=a.N)) ((M_i a.F 1 24).bind fun b=>cond (b) (some (decide (a.N<=(IntKind.wrap .i64 (24-a.F))))) (some false)) (some false)
def GX(b:af)(a:aj):Option Bool:=
 (Ch b a.F).bind fun c=>cond (c.2) ((M_i a.Id 1 999).bind fun d=>cond (d) ((Im a.N).bind fun g=>some g) (some false)) (some false)
def vi(a:bd):Option Int:=
 (grd (0<=a.F)).bind fun b=>(grd (0<=a.N)).bind fun c=>some (IntKind.wrap .i64 ((IntKind.wrap .i64 ((IntKind.wrap .i64 (1*2^(min (Int.toNat a.F) (IntKind.bits .i64))))-1))*2^(min (Int.toNat a.N) (IntKind.bits .i64))))
def Vz(c:Int):Option Int:=
 (cond (decide (4294967296<=c)) (some (Int.fdiv c (2^(min (Int.toNat 32) (IntKind.bits .u64))),32)) (some (c,0)):Option (Int×Int)).bind fun a=>(cond (decide (65536<=a.1)) (some (Int.fdiv a.1 (2^(min (Int.toNat 16) (IntKind.bits .u64))),IntKind.wrap .i64 (a.2+16))) (some (a.1,a.2)):Option (Int×Int)).bind fun b=>(cond (decide (256<=b.1)) (some (Int.fdiv b.1 (2^(min (Int.toNat 8) (IntKind.bits .u64))),IntKind.wrap .i64 (b.2+8))) (some (b.1,b.2)):Option (Int×Int)).bind fun d=>(uM (⟨#[0,1,2,2,3,3,3,3,4,4,4,4,4,4,4,4,5,5,5,5,5,5,5,5,5,5,5,5,5,5,5,5,6,6,6,6,6,6,6,6,6,6,6,6,6,6,6,6,6,6,6,6,6,6,6,6,6,6,6,6,6,6,6,6,7,7,7,7,7,7,7,7,7,7,7,7,7,7,7,7,7,7,7,7,7,7,7,7,7,7,7,7,7,7,7,7,7,7,7,7,7,7,7,7,7,7,7,7,7,7,7,7,7,7,7,7,7,7,7,7,7,7,7,7,7,7,7,7,8,8,8,8,8,8,8,8,8,8,8,8,8,8,8,8,8,8,8,8,8,8,8,8,8,8,8,8,8,8,8,8,8,8,8,8,8,8,8,8,8,8,8,8,8,8,8,8,8,8,8,8,8,8,8,8,8,8,8,8,8,8,8,8,8,8,8,8,8,8,8,8,8,8,8,8,8,8,8,8,8,8,8,8,8,8,8,8,8,8,8,8,8,8,8,8,8,8,8,8,8,8,8,8,8,8,8,8,8,8,8,8,8,8,8,8,8,8,8,8,8,8,8,8,8,8,8,8]⟩:ByteArray) (IntKind.wrap .u8 d.1)).bind fun g=>some (IntKind.wrap .i64 (d.2+(IntKind.wrap .i64 (g.toNat:Int))))
def JU(a:Int):Option Int:=
 (Vz a).bind fun b=>some b
def IG(a:Int)(b:Int):Option Bool:=
 (wS a).bind fun c=>cond (c) ((wS b).bind fun d=>cond (!d) (some true) (some (decide (a<b)))) (some (decide (a<b)))
def M_p(c:Int)(a:Int×List Int):Option ((Int×List Int)⊕(List Int)):=
 (cond (decide (c<a.1)) ((grd (0<=a.1/\a.1<(a.2.length:Int))).bind fun p=>(a.2[(Int.toNat a.1)]?).bind fun d=>(grd (0<=(IntKind.wrap .i64 (a.1-1))/\(IntKind.wrap .i64 (a.1-1))<(a.2.length:Int))).bind fun q=>(a.2[(Int.toNat (IntKind.wrap .i64 (a.1-1)))]?).bind fun g=>(IG d g).bind fun i=>some i) (some false):Option Bool).bind fun j=>cond (j) ((grd (0<=(IntKind.wrap .i64 (a.1-1))/\(IntKind.wrap .i64 (a.1-1))<(a.2.length:Int))).bind fun s=>(a.2[(Int.toNat (IntKind.wrap .i64 (a.1-1)))]?).bind fun k=>(grd (0<=a.1/\a.1<(a.2.length:Int))).bind fun t=>(a.2[(Int.toNat a.1)]?).bind fun l=>bnd (a.2.set (Int.toNat a.1) k) fun b=>(b[(Int.toNat (IntKind.wrap .i64 (a.1-1)))]?).bind fun u=>bnd (b.set (Int.toNat (IntKind.wrap .i64 (a.1-1))) l) fun m=>some (.inl (IntKind.wrap .i64 (a.1-1),m))) (some (.inr a.2))
def M_y(b:Int)(c:Int)(a:Int×List Int):Option ((Int×List Int)⊕(List Int)):=
 cond (decide (a.1<c)) (((bv (M_p b) N0 (a.1,a.2)).bind fun d=>some d:Option (List Int)).bind fun g=>some (.inl (IntKind.wrap .i64 (a.1+1),g))) (some (.inr a.2))
def Li(a:Int)(b:Int)(c:List Int):Option (List Int):=
 (bv (M_y a b) N0 (IntKind.wrap .i64 (a+1),c)).bind fun d=>some d
def PO(a:Int)(b:Int)(c:Int)(d:List Int)(i:Unit):Option (Unit⊕(Empty⊕(List Int))):=
 cond (decide ((IntKind.wrap .i64 (b-a))<=12)) ((Li a b d).bind fun g=>some (.inr (.inr g))) (cond (c==0) (none) (none))
def QK(a:Int)(b:Int)(c:Int)(d:List Int):Option (List Int):=
 (bv (PO a b c d) N0 ()).bind fun g=>(match g with| .inl i=>(i.elim)| .inr j=>some j)
def HN(a:List Int):Option (List Int):=
 (JU (IntKind.wrap .u64 (a.length:Int))).bind fun b=>(QK 0 (a.length:Int) b a).bind fun c=>some c
def M_v(c:Nat)(d:Nat)(b:Int)(a:Int×Int×List Int):Option ((Int×Int×List Int)⊕(Int×List Int)):=
 cond (decide (a.2.1<(((d-(Int.toNat b)):Nat):Int))) ((grd (0<=a.2.1/\a.2.1<(((d-(Int.toNat b)):Nat):Int))).bind fun k=>(a.2.2[((c+(Int.toNat b))+(Int.toNat a.2.1))]?).bind fun g=>(grd (0<=(IntKind.wrap .i64 (a.2.1-1))/\(IntKind.wrap .i64 (a.2.1-1))<(((d-(Int.toNat b)):Nat):Int))).bind fun l=>(a.2.2[((c+(Int.toNat b))+(Int.toNat (IntKind.wrap .i64 (a.2.1-1))))]?).bind fun i=>cond (g !=i) ((grd (0<=a.1/\a.1<(d:Int))).bind fun m=>(a.2.2[(c+(Int.toNat a.1))]?).bind fun p=>bnd (a.2.2.set (c+(Int.toNat a.1)) g) fun j=>some (.inl (IntKind.wrap .i64 (a.1+1),IntKind.wrap .i64 (a.2.1+1),j))) (some (.inl (a.1,IntKind.wrap .i64 (a.2.1+1),a.2.2)))) (some (.inr (a.1,a.2.2)))
def FE(d:Nat)(b:Nat)(g:List Int)(a:Int):Option (Int⊕(Unit⊕(Nat×Nat×List Int))):=
 cond (decide (a<(b:Int))) ((grd (0<=a/\a<(b:Int))).bind fun l=>(g[(d+(Int.toNat a))]?).bind fun i=>(grd (0<=(IntKind.wrap .i64 (a-1))/\(IntKind.wrap .i64 (a-1))<(b:Int))).bind fun m=>(g[(d+(Int.toNat (IntKind.wrap .i64 (a-1))))]?).bind fun j=>cond (i==j) ((grd (0<=a/\True/\Int.toNat a<=b/\True)).bind fun p=>(bv (M_v d b a) N0 (a,1,g)).bind fun c=>(grd (0<=c.1/\True/\Int.toNat c.1<=b/\True)).bind fun q=>bnd (ec c.2 (d+(Int.toNat c.1)) (List.replicate (b-(Int.toNat c.1)) 0)) fun k=>(grd (True/\0<=c.1/\True/\Int.toNat c.1<=b)).bind fun s=>some (.inr (.inr (d,(Int.toNat c.1),k)))) (some (.inl (IntKind.wrap .i64 (a+1))))) (some (.inr (.inl ())))
def Iq(b:Nat)(a:Nat)(c:List Int):Option (Nat×Nat×List Int):=
 cond (decide ((a:Int)<2)) (some (b,a,c)) ((bv (FE b a c) N0 1).bind fun d=>(match d with| .inl i=>some (b,a,c)| .inr g=>some g))
def Ab(b:List Int)(d:List Int)(a:Int×List Int):Option ((Int×List Int)⊕(List Int)):=
 cond (decide (a.1<(b.length:Int))) ((bQ b a.1).bind fun c=>(Dk d c).bind fun g=>cond (g) (bnd ([c]) fun i=>(grd ((a.2.length+1)*8<=140737488355328)).bind fun k=>bnd (a.2++i) fun j=>some (.inl (IntKind.wrap .i64 (a.1+1),j))) (some (.inl (IntKind.wrap .i64 (a.1+1),a.2)))) (some (.inr a.2))
def vP(c:List Int)(d:List Int):Option (List Int):=
 (bv (Ab c d) N0 (0,[])).bind fun b=>(HN b).bind fun g=>(Iq 0 b.length g).bind fun a=>bnd (fK a.2.2 a.1 a.2.1) fun i=>some i
def Fn(a:aj)(b:aj):Option Bool:=
 (vi a.N).bind fun c=>(vi b.N).bind fun d=>cond ((bits .and .i64 c d) !=0) ((vP a.F.F b.F.F).bind fun g=>some (decide (0<(g.length:Int)))) (some false)
def Ew(a:aj)(p1Z0:aj):Option Bool:=
 (Fn a p1Z0).bind fun b=>some b
def uH(b:List aj)(c:aj->Option Bool)(a:Int):Option (Int⊕(Unit⊕Int)):=
 cond (decide (a<(b.length:Int))) ((bQ b a).bind fun d=>(c d).bind fun g=>cond (g) (some (.inr (.inr a))) (some (.inl (IntKind.wrap .i64 (a+1))))) (some (.inr (.inl ())))
def vI(a:List aj)(b:aj->Option Bool):Option Int:=
 (bv (uH a b) N0 0).bind fun c=>(match c with| .inl g=>some (-1)| .inr d=>some d)
def tF(a:List aj)(b:aj->Option Bool):Option Bool:=
 (vI a b).bind fun c=>some (decide (0<=c))
def FP(b:aK)(a:Int):Option (Int⊕(Unit⊕Bool)):=
 cond (decide (a<(b.N.length:Int))) ((bQ b.N a).bind fun c=>(GX b.F c).bind fun d=>cond (!d) (some (.inr (.inr false))) (cond (decide (0<a)) ((bQ b.N (IntKind.wrap .i64 (a-1))).bind fun g=>cond (decide (c.Id<=g.Id)) (some (.inr (.inr false))) ((slT b.N a).bind fun i=>(tF i (fun x0=>Ew x0 c)).bind fun j=>cond (j) (some (.inr (.inr false))) (some (.inl (IntKind.wrap .i64 (a+1)))))) ((slT b.N a).bind fun k=>(tF k (fun x0=>Ew x0 c)).bind fun l=>cond (l) (some (.inr (.inr false))) (some (.inl (IntKind.wrap .i64 (a+1))))))) (some (.inr (.inl ())))
def zJ(a:aK):Option Bool:=
 ((EC a.F).bind fun b=>cond (!b) (some true) (some (decide (12<(a.N.length:Int)))):Option Bool).bind fun c=>cond (c) (some false) ((bv (FP a) N0 0).bind fun d=>(match d with| .inl i=>some true| .inr g=>some g))
def CV(b:List Int)(d:Int)(a:Int):Option (Int⊕(Unit⊕Bool)):=
 cond (decide (a<(b.length:Int))) ((bQ b a).bind fun c=>(M_i c 0 (IntKind.wrap .i64 (d-1))).bind fun g=>cond (!g) (some (.inr (.inr false))) (cond (decide (0<a)) ((bQ b (IntKind.wrap .i64 (a-1))).bind fun i=>cond (decide (c<=i)) (some (.inr (.inr false))) (some (.inl (IntKind.wrap .i64 (a+1))))) (some (.inl (IntKind.wrap .i64 (a+1)))))) (some (.inr (.inl ())))
def Ol(a:List Int)(b:Int):Option Bool:=
 (bv (CV a b) N0 0).bind fun c=>(match c with| .inl g=>some true| .inr d=>some d)
def PX(a:aj)(p1Z0:Int):Option Bool:=
 some (a.Id==p1Z0)
def Ft(a:aq)(b:Int):Option Int:=
 (vI a.N (fun x0=>PX x0 b)).bind fun c=>some c
def xS(b:af)(c:ar):Option Int:=
 (Ch b c).bind fun a=>(grd (0<=(IntKind.wrap .i64 ((a.1.length:Int)-1))/\(IntKind.wrap .i64 ((a.1.length:Int)-1))<(a.1.length:Int))).bind fun g=>(a.1[(Int.toNat (IntKind.wrap .i64 ((a.1.length:Int)-1)))]?).bind fun d=>some d
def Md(a:aj)(p1Z0:aq)(p2Z0:af):Option Bool:=
 (Ft p1Z0 a.Id).bind fun c=>(cond (decide (c<0)) (some true) ((vP a.F.F p1Z0.L).bind fun d=>some (decide (0<(d.length:Int)))):Option Bool).bind fun g=>cond (g) (some true) ((bQ p1Z0.N c).bind fun b=>cond (b.F.N !=a.F.N) (some true) ((xS p2Z0 b.F).bind fun i=>(xS p2Z0 a.F).bind fun j=>cond (i !=j) (some true) (some (b.N.F !=a.N.F))))
def Hf(a:aq):Option Bool:=
 ((zJ a.F).bind fun b=>cond (!b) (some true) ((zJ (⟨(⟨a.F.F.N,a.F.F.F⟩:af),a.N⟩:aK)).bind fun c=>cond (!c) (some true) ((Ol a.L (a.F.F.F.length:Int)).bind fun d=>some (!d))):Option Bool).bind fun g=>cond (g) (some false) ((tF a.F.N (fun x0=>Md x0 a a.F.F)).bind fun i=>some (!i))
def QR(a:af):Option af:=
 (grd (a.N.length*16<=140737488355328)).bind fun b=>(grd (a.F.length*32<=140737488355328)).bind fun c=>some (⟨a.N,a.F⟩:af)
def DL(a:ar):Option ar:=
 (grd (a.F.length*8<=140737488355328)).bind fun b=>some (⟨a.N,a.F⟩:ar)
def EB(c:aK)(a:Int×List aj):Option ((Int×List aj)⊕(List aj)):=
 cond (decide (a.1<(c.N.length:Int))) ((bQ c.N a.1).bind fun b=>(DL b.F).bind fun d=>bnd ([(⟨b.Id,(⟨d.N,d.F⟩:ar),(⟨b.N.N,b.N.F⟩:bd)⟩:aj)]) fun g=>(grd ((a.2.length+1)*56<=140737488355328)).bind fun j=>bnd (a.2++g) fun i=>some (.inl (IntKind.wrap .i64 (a.1+1),i))) (some (.inr a.2))
def zi(a:aK):Option aK:=
 (QR a.F).bind fun b=>(bv (EB a) N0 (0,[])).bind fun c=>some (⟨(⟨b.N,b.F⟩:af),c⟩:aK)
def PA(a:List Int):Option (List Int):=
 (grd (a.length*8<=140737488355328)).bind fun b=>some a
def Fm(a:aq):Option aq:=
 (zi a.F).bind fun b=>(zi (⟨(⟨[],[]⟩:af),a.N⟩:aK)).bind fun c=>(PA a.L).bind fun d=>some (⟨(⟨(⟨b.F.N,b.F.F⟩:af),b.N⟩:aK),c.N,d⟩:aq)
def Qm(a:aj)(p1Z0:Int):Option Bool:=
 some (a.Id==p1Z0)
def NF(a:aK)(b:Int):Option Int:=
 (vI a.N (fun x0=>Qm x0 b)).bind fun c=>some c
def DW(b:aq)(a:Int×List Int):Option ((Int×List Int)⊕(List Int)):=
 cond (decide (a.1<(b.N.length:Int))) ((bQ b.N a.1).bind fun c=>(NF b.F c.Id).bind fun d=>cond (decide (d<0)) (bnd ([c.Id]) fun g=>(grd ((a.2.length+1)*8<=140737488355328)).bind fun j=>bnd (a.2++g) fun i=>some (.inl (IntKind.wrap .i64 (a.1+1),i))) (some (.inl (IntKind.wrap .i64 (a.1+1),a.2)))) (some (.inr a.2))
def Jn(a:aq):Option (List Int):=
 (bv (DW a) N0 (0,[])).bind fun b=>some b
def PV(a:aj)(p1Z0:aj):Option Bool:=
 cond (a.Id !=p1Z0.Id) ((Fn a p1Z0).bind fun b=>some b) (some false)
def ND(a:aq)(b:aj):Option Bool:=
 (vP b.F.F a.L).bind fun c=>cond ((c.length:Int)==0) ((tF a.F.N (fun x0=>PV x0 b)).bind fun d=>some (!d)) (some false)
def EQ(b:aK)(c:aj)(a:Int):Option (Int⊕Int):=
 cond (decide (a<(b.N.length:Int))) ((bQ b.N a).bind fun d=>cond (decide (d.Id<c.Id)) (some (.inl (IntKind.wrap .i64 (a+1)))) (some (.inr a))) (some (.inr a))
def Dn(c:aK)(a:aj):Option aK:=
 (zi c).bind fun b=>(bv (EQ c a) N0 0).bind fun g=>(DL a.F).bind fun d=>bnd ([(⟨a.Id,(⟨d.N,d.F⟩:ar),(⟨a.N.N,a.N.F⟩:bd)⟩:aj)]) fun i=>(yI 56 b.N g i).bind fun j=>some (⟨(⟨b.F.N,b.F.F⟩:af),j⟩:aK)
def Ta(a:Int)(p1Z0:af):Option Bool:=
 (M_i a 0 (IntKind.wrap .i64 ((p1Z0.N.length:Int)-1))).bind fun b=>some (!b)
def FI(b:List Int)(c:Int->Option Bool)(a:Int):Option (Int⊕(Unit⊕Int)):=
 cond (decide (a<(b.length:Int))) ((bQ b a).bind fun d=>(c d).bind fun g=>cond (g) (some (.inr (.inr a))) (some (.inl (IntKind.wrap .i64 (a+1))))) (some (.inr (.inl ())))
def Sc(a:List Int)(b:Int->Option Bool):Option Int:=
 (bv (FI a b) N0 0).bind fun c=>(match c with| .inl g=>some (-1)| .inr d=>some d)
def Lj(a:List Int)(b:Int->Option Bool):Option Bool:=
 (Sc a b).bind fun c=>some (decide (0<=c))
def MZ(a:af)(b:List Int):Option Bool:=
 (EC a).bind fun c=>cond (c) ((Lj b (fun x0=>Ta x0 a)).bind fun d=>some (!d)) (some false)
def EN(a:List Int):Option (List Int):=
 cond (a.isEmpty) (amb (some ([])) ((grd (a.length*8<=140737488355328)).bind fun b=>some a)) ((grd (a.length*8<=140737488355328)).bind fun c=>some a)
def Kw(j:Int)(d:Int)(g:List Int)(i:af)(k:Int->Int->List Int->Int->List ar->Int->af->Option (Int×List ar×Int×af))(a:Int×Int×List ar×Int×af):Option ((Int×Int×List ar×Int×af)⊕(Int×List ar×Int×af)):=
 cond (decide (a.1<(((i).F).length:Int))) ((bQ ((i).F) a.1).bind fun l=>(xZ l j).bind fun b=>(cond (decide (0<=b)) ((grd (0<=b)).bind fun s=>some ((bits .and .i64 (Int.fdiv d (2^(min (Int.toNat b) (IntKind.bits .i64)))) 1)==0)) (some false):Option Bool).bind fun m=>cond (m) ((grd (0<=b)).bind fun t=>bnd ([a.1]) fun p=>(grd ((g.length+1)*8<=140737488355328)).bind fun u=>bnd (g++p) fun q=>(k b (bits .or .i64 d (IntKind.wrap .i64 (1*2^(min (Int.toNat b) (IntKind.bits .i64))))) q a.2.1 a.2.2.1 a.2.2.2.1 a.2.2.2.2).bind fun c=>some (.inl (IntKind.wrap .i64 (a.1+1),c.1,c.2.1,c.2.2.1,c.2.2.2))) (some (.inl (IntKind.wrap .i64 (a.1+1),a.2.1,a.2.2.1,a.2.2.2.1,a.2.2.2.2)))) (some (.inr (a.2.1,a.2.2.1,a.2.2.2.1,a.2.2.2.2)))
def Ns(k:Int->Int->List Int->Int->List ar->Int->af->Option (Int×List ar×Int×af))(i:Int)(l:Int)(j:List Int)(b:Int)(c:List ar)(d:Int)(g:af):Option (Int×List ar×Int×af):=
 cond (i==b) ((EN j).bind fun m=>bnd ([(⟨d,m⟩:ar)]) fun p=>(grd ((c.length+1)*32<=140737488355328)).bind fun s=>bnd (c++p) fun q=>some (b,q,d,g)) ((bv (Kw i l j g k) N0 (0,b,c,d,g)).bind fun a=>some (a.1,a.2.1,a.2.2.1,a.2.2.2))
def FR:Nat->Int->Int->List Int->Int->List ar->Int->af->Option (Int×List ar×Int×af)
 |0,_,_,_,_,_,_,_=>none
 |n+1,a,b,c,d,g,i,j=>Ns (FR n) a b c d g i j
def UF(j:Int)(d:Int)(g:List Int)(i:af)(a:Int×Int×List ar×Int×af):Option ((Int×Int×List ar×Int×af)⊕(Int×List ar×Int×af)):=
 cond (decide (a.1<(((i).F).length:Int))) ((bQ ((i).F) a.1).bind fun k=>(xZ k j).bind fun b=>(cond (decide (0<=b)) ((grd (0<=b)).bind fun q=>some ((bits .and .i64 (Int.fdiv d (2^(min (Int.toNat b) (IntKind.bits .i64)))) 1)==0)) (some false):Option Bool).bind fun l=>cond (l) ((grd (0<=b)).bind fun s=>bnd ([a.1]) fun m=>(grd ((g.length+1)*8<=140737488355328)).bind fun t=>bnd (g++m) fun p=>(FR N0 b (bits .or .i64 d (IntKind.wrap .i64 (1*2^(min (Int.toNat b) (IntKind.bits .i64))))) p a.2.1 a.2.2.1 a.2.2.2.1 a.2.2.2.2).bind fun c=>some (.inl (IntKind.wrap .i64 (a.1+1),c.1,c.2.1,c.2.2.1,c.2.2.2))) (some (.inl (IntKind.wrap .i64 (a.1+1),a.2.1,a.2.2.1,a.2.2.2.1,a.2.2.2.2)))) (some (.inr (a.2.1,a.2.2.1,a.2.2.2.1,a.2.2.2.2)))
def SV(i:Int)(k:Int)(j:List Int)(b:Int)(c:List ar)(d:Int)(g:af):Option (Int×List ar×Int×af):=
 cond (i==b) ((EN j).bind fun l=>bnd ([(⟨d,l⟩:ar)]) fun m=>(grd ((c.length+1)*32<=140737488355328)).bind fun q=>bnd (c++m) fun p=>some (b,p,d,g)) ((bv (UF i k j g) N0 (0,b,c,d,g)).bind fun a=>some (a.1,a.2.1,a.2.2.1,a.2.2.2))
def Wu(c:af)(b:ar)(a:Int×Int):Option ((Int×Int)⊕Int):=
 cond (decide (a.2<(b.F.length:Int))) ((bQ b.F a.2).bind fun d=>(bQ c.F d).bind fun g=>some (.inl (IntKind.wrap .i64 (a.1+g.F),IntKind.wrap .i64 (a.2+1)))) (some (.inr a.1))
def HH(a:af)(b:ar):Option Int:=
 (bv (Wu a b) N0 (0,0)).bind fun c=>some c
def M_t(s1Z0:List Int)(s2Z0:List Int)(a:Int):Option (Int⊕(Unit⊕Int)):=
 cond (decide (a<(s1Z0.length:Int))) ((bQ s1Z0 a).bind fun c=>cond (decide ((s2Z0.length:Int)<=a)) (some (.inr (.inr 1))) ((bQ s2Z0 a).bind fun d=>(M_s c d).bind fun b=>cond (b !=0) (some (.inr (.inr b))) (some (.inl (IntKind.wrap .i64 (a+1)))))) (some (.inr (.inl ())))
def KK(s1Z0:List Int)(s2Z0:List Int):Option Int:=
 (bv (M_t s1Z0 s2Z0) N0 0).bind fun a=>(match a with| .inl c=>cond (decide ((s1Z0.length:Int)<(s2Z0.length:Int))) (some (-1)) (some 0)| .inr b=>some b)
def JA(c:af)(a:ar)(b:ar):Option Int:=
 (HH c a).bind fun d=>(HH c b).bind fun g=>(M_s d g).bind fun i=>(M_s (a.F.length:Int) (b.F.length:Int)).bind fun j=>(KK a.F b.F).bind fun k=>(M_s a.N b.N).bind fun l=>bnd ([i,j,k,l]) fun m=>(yk m).bind fun p=>some p
def zC(a:ar)(b:ar)(p2Z0:af):Option Int:=
 (JA p2Z0 a b).bind fun c=>some c
def HX(b:af)(a:Int)(c:Int):Option (List ar):=
 (cond (a !=c) ((grd (0<=a)).bind fun j=>(SV a (IntKind.wrap .i64 (1*2^(min (Int.toNat a) (IntKind.bits .i64)))) ([]) c ([]) a b).bind fun d=>some (d.2.2.2,d.2.1)) (some (b,[])):Option (af×List ar)).bind fun g=>(oc (fun x0 x1=>zC x0 x1 g.1) g.2).bind fun i=>some i
def vh(c:af)(a:Int)(b:Int):Option (List ar×Bool):=
 (bnd ([a,b]) fun g=>(MZ c g).bind fun i=>cond (!i) (some true) (some (a==b)):Option Bool).bind fun j=>cond (j) (some (([]),false)) ((HX c a b).bind fun d=>cond (decide (200<(d.length:Int))) (some (([]),false)) (some (d,true)))
def M_u(c:aj)(a:Int×List Int):Option ((Int×List Int)⊕(List Int)):=
 cond (decide (a.1<(c.F.F.length:Int))) ((bQ c.F.F a.1).bind fun b=>(grd (0<=b/\b<(a.2.length:Int))).bind fun j=>(a.2[(Int.toNat b)]?).bind fun d=>(vi c.N).bind fun g=>bnd (a.2.set (Int.toNat b) (bits .or .i64 d g)) fun i=>some (.inl (IntKind.wrap .i64 (a.1+1),i))) (some (.inr a.2))
def Ae(b:aK)(a:Int×List Int):Option ((Int×List Int)⊕(List Int)):=
 cond (decide (a.1<(b.N.length:Int))) (((bQ b.N a.1).bind fun c=>(bv (M_u c) N0 (0,a.2)).bind fun d=>some d:Option (List Int)).bind fun g=>some (.inl (IntKind.wrap .i64 (a.1+1),g))) (some (.inr a.2))
def MI(a:aK):Option (List Int):=
 (grd (0<=(a.F.F.length:Int)/\(a.F.F.length:Int)<=(a.F.F.length:Int)/\(a.F.F.length:Int)*((8:Nat):Int)<=140737488355328/\(a.F.F.length:Int)<=9223372036854775807)).bind fun d=>bnd (List.replicate (Int.toNat (a.F.F.length:Int)) 0) fun b=>(bv (Ae a) N0 (0,b)).bind fun c=>some c
def M_z(c:ar)(d:List Int)(a:Int×Int):Option ((Int×Int)⊕Int):=
 cond (decide (a.2<(c.F.length:Int))) ((bQ c.F a.2).bind fun b=>(grd (0<=b/\b<(d.length:Int))).bind fun i=>(d[(Int.toNat b)]?).bind fun g=>some (.inl (bits .or .i64 a.1 g,IntKind.wrap .i64 (a.2+1)))) (some (.inr a.1))
def JQ(a:aK)(b:ar):Option Int:=
 (MI a).bind fun c=>(bv (M_z b c) N0 (0,0)).bind fun d=>some d
def Qb(a:Int):Option Bool:=
 (M_i a 0 16777215).bind fun b=>some b
def Qf(a:Int)(b:Int):Option Bool:=
 (Qb a).bind fun c=>cond (c) ((M_i b 1 24).bind fun d=>some d) (some false)
def Lt(c:Int)(b:Int)(a:Int×List Int):Option ((Int×List Int)⊕(List Int)):=
 cond (decide ((IntKind.wrap .i64 (a.1+b))<=24)) ((vi (⟨a.1,b⟩:bd)).bind fun d=>cond ((bits .and .i64 c d)==0) (bnd ([a.1]) fun g=>(grd ((a.2.length+1)*8<=140737488355328)).bind fun j=>bnd (a.2++g) fun i=>some (.inl (IntKind.wrap .i64 (a.1+1),i))) (some (.inl (IntKind.wrap .i64 (a.1+1),a.2)))) (some (.inr a.2))
def Mt(a:Int)(b:Int):Option (List Int):=
 (bv (Lt a b) N0 (0,[])).bind fun c=>some c
def Mf(c:Int)(a:Int):Option (bd×Bool):=
 (Qf c a).bind fun d=>cond (!d) (some ((⟨0,0⟩:bd),false)) ((Mt c a).bind fun b=>cond ((b.length:Int)==0) (some ((⟨0,0⟩:bd),false)) ((grd (0<=0/\0<(b.length:Int))).bind fun i=>(b[(Int.toNat 0)]?).bind fun g=>some ((⟨g,a⟩:bd),true)))
def EK(c:aq)(k:Int)(j:aq)(l:aj)(d:List ar×Bool)(a:Int):Option (Int⊕(Unit⊕(aq×Bool))):=
 cond (decide (a<(d.1.length:Int))) ((grd (0<=a/\a<(d.1.length:Int))).bind fun q=>(d.1[(Int.toNat a)]?).bind fun b=>(vP b.F c.L).bind fun m=>cond (decide (0<(m.length:Int))) (some (.inl (IntKind.wrap .i64 (a+1)))) ((JQ c.F b).bind fun p=>(Mf p l.N.F).bind fun g=>cond (g.2) ((Dn c.F (⟨k,(⟨b.N,b.F⟩:ar),(⟨g.1.N,g.1.F⟩:bd)⟩:aj)).bind fun i=>some (.inr (.inr ((⟨(⟨(⟨i.F.N,i.F.F⟩:af),i.N⟩:aK),j.N,j.L⟩:aq),true)))) (some (.inl (IntKind.wrap .i64 (a+1)))))) (some (.inr (.inl ())))
def ER(b:aq)(g:Int):Option (aq×Bool):=
 (Fm b).bind fun a=>(Ft b g).bind fun j=>(bQ b.N j).bind fun c=>(ND b c).bind fun k=>cond (k) ((Dn b.F c).bind fun d=>some ((⟨(⟨(⟨d.F.N,d.F.F⟩:af),d.N⟩:aK),a.N,a.L⟩:aq),true)) ((xS b.F.F c.F).bind fun l=>(vh b.F.F c.F.N l).bind fun i=>cond (!i.2) (some ((⟨(⟨(⟨a.F.F.N,a.F.F.F⟩:af),a.F.N⟩:aK),a.N,a.L⟩:aq),false)) ((bv (EK b g a c i) N0 0).bind fun m=>(match m with| .inl q=>some ((⟨(⟨(⟨a.F.F.N,a.F.F.F⟩:af),a.F.N⟩:aK),a.N,a.L⟩:aq),false)| .inr p=>some p)))
def xu(c:List Int)(a:Int×List Int×List ByteArray×List ay×List aj×List aj×List Int):Option ((Int×List Int×List ByteArray×List ay×List aj×List aj×List Int)⊕(List Int×List ByteArray×List ay×List aj×List aj×List Int)):=
 cond (decide (a.1<(c.length:Int))) ((grd (0<=a.1/\a.1<(c.length:Int))).bind fun j=>(c[(Int.toNat a.1)]?).bind fun d=>(ER (⟨(⟨(⟨a.2.2.1,a.2.2.2.1⟩:af),a.2.2.2.2.1⟩:aK),a.2.2.2.2.2.1,a.2.2.2.2.2.2⟩:aq) d).bind fun b=>cond (b.2) (bnd ([d]) fun g=>(grd ((a.2.1.length+1)*8<=140737488355328)).bind fun k=>bnd (a.2.1++g) fun i=>some (.inl (IntKind.wrap .i64 (a.1+1),i,b.1.F.F.N,b.1.F.F.F,b.1.F.N,b.1.N,b.1.L))) (some (.inl (IntKind.wrap .i64 (a.1+1),a.2.1,b.1.F.F.N,b.1.F.F.F,b.1.F.N,b.1.N,b.1.L)))) (some (.inr (a.2.1,a.2.2.1,a.2.2.2.1,a.2.2.2.2.1,a.2.2.2.2.2.1,a.2.2.2.2.2.2)))
def EM(c:aq):Option (aq×List Int×Bool):=
 (Hf c).bind fun d=>cond (!d) (some ((⟨(⟨(⟨[],[]⟩:af),[]⟩:aK),[],[]⟩:aq),([]),false)) ((Fm c).bind fun b=>(Jn c).bind fun g=>(bv (xu g) N0 (0,[],b.F.F.N,b.F.F.F,b.F.N,b.N,b.L)).bind fun a=>some ((⟨(⟨(⟨a.2.1,a.2.2.1⟩:af),a.2.2.2.1⟩:aK),a.2.2.2.2.1,a.2.2.2.2.2⟩:aq),a.1,true))
def FM(b:List ByteArray)(c:List ByteArray)(a:Int):Option (Int⊕(Unit⊕Bool)):=
 cond (decide (a<(b.length:Int))) ((bQ b a).bind fun d=>(bQ c a).bind fun g=>cond (!(d.toList==g.toList)) (some (.inr (.inr false))) (some (.inl (IntKind.wrap .i64 (a+1))))) (some (.inr (.inl ())))
def Gm(a:List ByteArray)(b:List ByteArray):Option Bool:=
 cond ((a.length:Int) !=(b.length:Int)) (some false) ((bv (FM a b) N0 0).bind fun c=>(match c with| .inl g=>some true| .inr d=>some d))
def Cg(a:ay)(b:ay):Option Bool:=
 cond (a.A !=b.A) (some false) (cond (a.B !=b.B) (some false) (cond (a.F !=b.F) (some false) (cond (a.N !=b.N) (some false) (some true))))
def Ev(b:List ay)(c:List ay)(a:Int):Option (Int⊕(Unit⊕Bool)):=
 cond (decide (a<(b.length:Int))) ((bQ b a).bind fun d=>(bQ c a).bind fun g=>(Cg d g).bind fun i=>cond (!i) (some (.inr (.inr false))) (some (.inl (IntKind.wrap .i64 (a+1))))) (some (.inr (.inl ())))
def NB(a:List ay)(b:List ay):Option Bool:=
 cond ((a.length:Int) !=(b.length:Int)) (some false) ((bv (Ev a b) N0 0).bind fun c=>(match c with| .inl g=>some true| .inr d=>some d))
def KB(a:af)(b:af):Option Bool:=
 (Gm a.N b.N).bind fun c=>cond (!c) (some false) ((NB a.F b.F).bind fun d=>cond (!d) (some false) (some true))
def Cn(b:List Int)(c:List Int)(a:Int):Option (Int⊕(Unit⊕Bool)):=
 cond (decide (a<(b.length:Int))) ((bQ b a).bind fun d=>(bQ c a).bind fun g=>cond (d !=g) (some (.inr (.inr false))) (some (.inl (IntKind.wrap .i64 (a+1))))) (some (.inr (.inl ())))
def ux(a:List Int)(b:List Int):Option Bool:=
 cond ((a.length:Int) !=(b.length:Int)) (some false) ((bv (Cn a b) N0 0).bind fun c=>(match c with| .inl g=>some true| .inr d=>some d))
def KD(a:ar)(b:ar):Option Bool:=
 cond (a.N !=b.N) (some false) ((ux a.F b.F).bind fun c=>cond (!c) (some false) (some true))
def JT(a:bd)(b:bd):Option Bool:=
 cond (a.N !=b.N) (some false) (cond (a.F !=b.F) (some false) (some true))
def Fw(a:aj)(b:aj):Option Bool:=
 cond (a.Id !=b.Id) (some false) ((KD a.F b.F).bind fun c=>cond (!c) (some false) ((JT a.N b.N).bind fun d=>cond (!d) (some false) (some true)))
def DI(b:List aj)(c:List aj)(a:Int):Option (Int⊕(Unit⊕Bool)):=
 cond (decide (a<(b.length:Int))) ((bQ b a).bind fun d=>(bQ c a).bind fun g=>(Fw d g).bind fun i=>cond (!i) (some (.inr (.inr false))) (some (.inl (IntKind.wrap .i64 (a+1))))) (some (.inr (.inl ())))
def Ez(a:List aj)(b:List aj):Option Bool:=
 cond ((a.length:Int) !=(b.length:Int)) (some false) ((bv (DI a b) N0 0).bind fun c=>(match c with| .inl g=>some true| .inr d=>some d))
def Hv(a:aK)(b:aK):Option Bool:=
 (KB a.F b.F).bind fun c=>cond (!c) (some false) ((Ez a.N b.N).bind fun d=>cond (!d) (some false) (some true))
def wV(a:aq)(b:aq):Option Bool:=
 (Hv a.F b.F).bind fun c=>cond (!c) (some false) ((Ez a.N b.N).bind fun d=>cond (!d) (some false) ((ux a.L b.L).bind fun g=>cond (!g) (some false) (some true)))
def Ea(a:Int×ByteArray):Option ((Int×ByteArray)⊕ByteArray):=
 cond (decide (0<a.1)) ((grd (10≠0)).bind fun c=>bnd ([IntKind.wrap .u8 (IntKind.wrap .i64 (48+(Int.tmod a.1 10)))]) fun b=>(grd ((b2s b).size+a.2.size<=9223372036854775807)).bind fun d=>(grd (10≠0)).bind fun g=>some (.inl (IntKind.wrap .i64 (Int.tdiv a.1 10),(b2s b)++a.2))) (some (.inr a.2))
def wx(a:Int):Option ByteArray:=
 cond (decide (a<=0)) (some (⟨#[109,48]⟩:ByteArray)) ((bv (Ea) N0 (a,(⟨#[]⟩:ByteArray))).bind fun b=>(grd ((⟨#[109]⟩:ByteArray).size+b.size<=9223372036854775807)).bind fun c=>some ((⟨#[109]⟩:ByteArray)++b))
def DQ(a:Int×Int×List ByteArray):Option ((Int×Int×List ByteArray)⊕(Int×List ByteArray)):=
 cond (decide (a.2.1<(a.2.2.length:Int))) ((wx a.1).bind fun b=>(grd (0<=a.2.1/\a.2.1<(a.2.2.length:Int))).bind fun d=>(a.2.2[(Int.toNat a.2.1)]?).bind fun g=>bnd (a.2.2.set (Int.toNat a.2.1) b) fun c=>some (.inl (IntKind.wrap .i64 (a.1+1),IntKind.wrap .i64 (a.2.1+1),c))) (some (.inr (a.1,a.2.2)))
def Io(b:Int)(c:List ByteArray):Option (Int×List ByteArray):=
 (bv (DQ) N0 (b,0,c)).bind fun a=>some (a.1,a.2)
def CY(a:Int×Int×List ay):Option ((Int×Int×List ay)⊕(Int×List ay)):=
 cond (decide (a.2.1<(a.2.2.length:Int))) ((grd (0<=a.2.1/\a.2.1<(a.2.2.length:Int))).bind fun m=>(a.2.2[(Int.toNat a.2.1)]?).bind fun b=>bnd (a.2.2.set (Int.toNat a.2.1) (⟨a.1,b.B,b.F,b.N⟩:ay)) fun i=>(i[(Int.toNat a.2.1)]?).bind fun c=>bnd (i.set (Int.toNat a.2.1) (⟨c.A,IntKind.wrap .i64 (a.1+1),c.F,c.N⟩:ay)) fun j=>(j[(Int.toNat a.2.1)]?).bind fun d=>bnd (j.set (Int.toNat a.2.1) (⟨d.A,d.B,IntKind.wrap .i64 ((IntKind.wrap .i64 (a.1+1))+1),d.N⟩:ay)) fun k=>(k[(Int.toNat a.2.1)]?).bind fun g=>bnd (k.set (Int.toNat a.2.1) (⟨g.A,g.B,g.F,IntKind.wrap .i64 ((IntKind.wrap .i64 ((IntKind.wrap .i64 (a.1+1))+1))+1)⟩:ay)) fun l=>some (.inl (IntKind.wrap .i64 ((IntKind.wrap .i64 ((IntKind.wrap .i64 ((IntKind.wrap .i64 (a.1+1))+1))+1))+1),IntKind.wrap .i64 (a.2.1+1),l))) (some (.inr (a.1,a.2.2)))
def HY(b:Int)(c:List ay):Option (Int×List ay):=
 (bv (CY) N0 (b,0,c)).bind fun a=>some (a.1,a.2)
def Kt(c:Int)(d:List ByteArray)(g:List ay):Option (Int×List ByteArray×List ay):=
 (Io c d).bind fun a=>(HY a.1 g).bind fun b=>some (b.1,a.2,b.2)
def FK(a:Int×Int×List Int):Option ((Int×Int×List Int)⊕(Int×List Int)):=
 cond (decide (a.2.1<(a.2.2.length:Int))) ((grd (0<=a.2.1/\a.2.1<(a.2.2.length:Int))).bind fun c=>(a.2.2[(Int.toNat a.2.1)]?).bind fun d=>bnd (a.2.2.set (Int.toNat a.2.1) a.1) fun b=>some (.inl (IntKind.wrap .i64 (a.1+1),IntKind.wrap .i64 (a.2.1+1),b))) (some (.inr (a.1,a.2.2)))
def xW(b:Int)(c:List Int):Option (Int×List Int):=
 (bv (FK) N0 (b,0,c)).bind fun a=>some (a.1,a.2)
def Db(a:Int×Int×List aj):Option ((Int×Int×List aj)⊕(Int×List aj)):=
 cond (decide (a.2.1<(a.2.2.length:Int))) ((grd (0<=a.2.1/\a.2.1<(a.2.2.length:Int))).bind fun s=>(a.2.2[(Int.toNat a.2.1)]?).bind fun c=>bnd (a.2.2.set (Int.toNat a.2.1) (⟨a.1,(⟨c.F.N,c.F.F⟩:ar),(⟨c.N.N,c.N.F⟩:bd)⟩:aj)) fun k=>(k[(Int.toNat a.2.1)]?).bind fun d=>bnd (k.set (Int.toNat a.2.1) (⟨d.Id,(⟨IntKind.wrap .i64 (a.1+1),d.F.F⟩:ar),(⟨d.N.N,d.N.F⟩:bd)⟩:aj)) fun l=>(l[(Int.toNat a.2.1)]?).bind fun b=>(xW (IntKind.wrap .i64 ((IntKind.wrap .i64 (a.1+1))+1)) b.F.F).bind fun g=>bnd (l.set (Int.toNat a.2.1) (⟨b.Id,(⟨b.F.N,g.2⟩:ar),(⟨b.N.N,b.N.F⟩:bd)⟩:aj)) fun m=>(m[(Int.toNat a.2.1)]?).bind fun i=>bnd (m.set (Int.toNat a.2.1) (⟨i.Id,(⟨i.F.N,i.F.F⟩:ar),(⟨g.1,i.N.F⟩:bd)⟩:aj)) fun p=>(p[(Int.toNat a.2.1)]?).bind fun j=>bnd (p.set (Int.toNat a.2.1) (⟨j.Id,(⟨j.F.N,j.F.F⟩:ar),(⟨j.N.N,IntKind.wrap .i64 (g.1+1)⟩:bd)⟩:aj)) fun q=>some (.inl (IntKind.wrap .i64 ((IntKind.wrap .i64 (g.1+1))+1),IntKind.wrap .i64 (a.2.1+1),q))) (some (.inr (a.1,a.2.2)))
def DX(b:Int)(c:List aj):Option (Int×List aj):=
 (bv (Db) N0 (b,0,c)).bind fun a=>some (a.1,a.2)
def Gu(c:Int)(d:List ByteArray)(g:List ay)(i:List aj):Option (Int×List ByteArray×List ay×List aj):=
 (Kt c d g).bind fun a=>(DX a.1 i).bind fun b=>some (b.1,a.2.1,a.2.2,b.2)
def Em(d:Int)(g:List ByteArray)(i:List ay)(j:List aj)(k:List aj)(l:List Int):Option (Int×List ByteArray×List ay×List aj×List aj×List Int):=
 (Gu d g i j).bind fun a=>(DX a.1 k).bind fun b=>(xW b.1 l).bind fun c=>some (c.1,a.2.1,a.2.2.1,a.2.2.2,b.2,c.2)
def Fc(b:List ByteArray)(a:Int×Int):Option ((Int×Int)⊕(Int⊕Int)):=
 cond (decide (a.2<(b.length:Int))) ((bQ b a.2).bind fun c=>(wx a.1).bind fun d=>cond (!(c.toList==d.toList)) (some (.inr (.inr (-1)))) (some (.inl (IntKind.wrap .i64 (a.1+1),IntKind.wrap .i64 (a.2+1))))) (some (.inr (.inl a.1)))
def Ej(a:List ByteArray)(b:Int):Option Int:=
 (bv (Fc a) N0 (b,0)).bind fun c=>(match c with| .inl d=>some d| .inr g=>some g)
def El(c:List ay)(a:Int×Int):Option ((Int×Int)⊕(Int⊕Int)):=
 cond (decide (a.2<(c.length:Int))) ((bQ c a.2).bind fun b=>cond (b.A !=a.1) (some (.inr (.inr (-1)))) (cond (b.B !=(IntKind.wrap .i64 (a.1+1))) (some (.inr (.inr (-1)))) (cond (b.F !=(IntKind.wrap .i64 ((IntKind.wrap .i64 (a.1+1))+1))) (some (.inr (.inr (-1)))) (cond (b.N !=(IntKind.wrap .i64 ((IntKind.wrap .i64 ((IntKind.wrap .i64 (a.1+1))+1))+1))) (some (.inr (.inr (-1)))) (some (.inl (IntKind.wrap .i64 ((IntKind.wrap .i64 ((IntKind.wrap .i64 ((IntKind.wrap .i64 (a.1+1))+1))+1))+1),IntKind.wrap .i64 (a.2+1)))))))) (some (.inr (.inl a.1)))
def Eg(a:List ay)(b:Int):Option Int:=
 (bv (El a) N0 (b,0)).bind fun c=>(match c with| .inl d=>some d| .inr g=>some g)
def Dg(a:af)(d:Int):Option Int:=
 (Ej a.N d).bind fun b=>cond (decide (b<0)) (some (-1)) ((Eg a.F b).bind fun c=>cond (decide (c<0)) (some (-1)) (some c))
def Co(b:List Int)(a:Int×Int):Option ((Int×Int)⊕(Int⊕Int)):=
 cond (decide (a.2<(b.length:Int))) ((bQ b a.2).bind fun c=>cond (c !=a.1) (some (.inr (.inr (-1)))) (some (.inl (IntKind.wrap .i64 (a.1+1),IntKind.wrap .i64 (a.2+1))))) (some (.inr (.inl a.1)))
def si(a:List Int)(b:Int):Option Int:=
 (bv (Co a) N0 (b,0)).bind fun c=>(match c with| .inl d=>some d| .inr g=>some g)
def Dr(d:List aj)(a:Int×Int):Option ((Int×Int)⊕(Int⊕Int)):=
 cond (decide (a.2<(d.length:Int))) ((bQ d a.2).bind fun b=>cond (b.Id !=a.1) (some (.inr (.inr (-1)))) (cond (b.F.N !=(IntKind.wrap .i64 (a.1+1))) (some (.inr (.inr (-1)))) ((si b.F.F (IntKind.wrap .i64 ((IntKind.wrap .i64 (a.1+1))+1))).bind fun c=>cond (decide (c<0)) (some (.inr (.inr (-1)))) (cond (b.N.N !=c) (some (.inr (.inr (-1)))) (cond (b.N.F !=(IntKind.wrap .i64 (c+1))) (some (.inr (.inr (-1)))) (some (.inl (IntKind.wrap .i64 ((IntKind.wrap .i64 (c+1))+1),IntKind.wrap .i64 (a.2+1))))))))) (some (.inr (.inl a.1)))
def wk(a:List aj)(b:Int):Option Int:=
 (bv (Dr a) N0 (b,0)).bind fun c=>(match c with| .inl d=>some d| .inr g=>some g)
def Dh(a:aK)(d:Int):Option Int:=
 (Dg a.F d).bind fun b=>cond (decide (b<0)) (some (-1)) ((wk a.N b).bind fun c=>cond (decide (c<0)) (some (-1)) (some c))
def wD(a:aq)(g:Int):Option Int:=
 (Dh a.F g).bind fun b=>cond (decide (b<0)) (some (-1)) ((wk a.N b).bind fun c=>cond (decide (c<0)) (some (-1)) ((si a.L c).bind fun d=>cond (decide (d<0)) (some (-1)) (some d)))
def Rt(c:aq):Option Bool:=
 (NK c 1048576).bind fun a1=>cond (decide (a1<0)) (some true) ((wF c).bind fun j=>(MW j.F.F.N j.F.F.F j.F.N j.N j.L).bind fun b=>(wF (⟨(⟨(⟨c.F.F.N,c.F.F.F⟩:af),c.F.N⟩:aK),c.N,c.L⟩:aq)).bind fun d=>(EM (⟨(⟨(⟨d.F.F.N,d.F.F.F⟩:af),d.F.N⟩:aK),d.N,d.L⟩:aq)).bind fun a=>((wV (⟨(⟨(⟨a.1.F.F.N,a.1.F.F.F⟩:af),a.1.F.N⟩:aK),a.1.N,a.1.L⟩:aq) (⟨(⟨(⟨b.2.2.1,b.2.2.2.1⟩:af),b.2.2.2.2.1⟩:aK),b.2.2.2.2.2.1,b.2.2.2.2.2.2.1⟩:aq)).bind fun b1=>cond (!b1) (some true) ((ux a.2.1 b.2.1).bind fun c1=>cond (!c1) (some true) (some (!(a.2.2==b.1)))):Option Bool).bind fun d1=>cond (d1) (some false) ((wF (⟨(⟨(⟨c.F.F.N,c.F.F.F⟩:af),c.F.N⟩:aK),c.N,c.L⟩:aq)).bind fun k=>(wV (⟨(⟨(⟨d.F.F.N,d.F.F.F⟩:af),d.F.N⟩:aK),d.N,d.L⟩:aq) (⟨(⟨(⟨k.F.F.N,k.F.F.F⟩:af),k.F.N⟩:aK),k.N,k.L⟩:aq)).bind fun g1=>cond (!g1) (some false) ((Em 1 d.F.F.N d.F.F.F d.F.N d.N d.L).bind fun i1=>(cond (decide (i1.1<0)) (some true) ((wV (⟨(⟨(⟨a.1.F.F.N,a.1.F.F.F⟩:af),a.1.F.N⟩:aK),a.1.N,a.1.L⟩:aq) (⟨(⟨(⟨b.2.2.1,b.2.2.2.1⟩:af),b.2.2.2.2.1⟩:aK),b.2.2.2.2.2.1,b.2.2.2.2.2.2.1⟩:aq)).bind fun j1=>cond (!j1) (some true) ((ux a.2.1 b.2.1).bind fun k1=>cond (!k1) (some true) (some (!(a.2.2==b.1))))):Option Bool).bind fun l1=>cond (l1) (some false) ((Em 1 a.1.F.F.N a.1.F.F.F a.1.F.N a.1.N a.1.L).bind fun i=>(xW i.1 a.2.1).bind fun m=>bnd (fK i.2.1 0 a.1.F.F.N.length) fun p=>bnd (fK i.2.2.1 0 a.1.F.F.F.length) fun q=>bnd (fK i.2.2.2.1 0 a.1.F.N.length) fun s=>bnd (fK i.2.2.2.2.1 0 a.1.N.length) fun t=>bnd (fK i.2.2.2.2.2 0 a.1.L.length) fun u=>(wD (⟨(⟨(⟨p,q⟩:af),s⟩:aK),t,u⟩:aq) 1).bind fun v=>cond (decide (v<0)) (some false) (bnd (fK m.2 0 a.2.1.length) fun w=>(si w v).bind fun x=>cond (decide (x<0)) (some false) (cond (x !=m.1) (some false) ((wF (⟨(⟨(⟨c.F.F.N,c.F.F.F⟩:af),c.F.N⟩:aK),c.N,c.L⟩:aq)).bind fun l=>(EM (⟨(⟨(⟨l.F.F.N,l.F.F.F⟩:af),l.F.N⟩:aK),l.N,l.L⟩:aq)).bind fun g=>((wV (⟨(⟨(⟨g.1.F.F.N,g.1.F.F.F⟩:af),g.1.F.N⟩:aK),g.1.N,g.1.L⟩:aq) (⟨(⟨(⟨b.2.2.1,b.2.2.2.1⟩:af),b.2.2.2.2.1⟩:aK),b.2.2.2.2.2.1,b.2.2.2.2.2.2.1⟩:aq)).bind fun m1=>cond (!m1) (some true) ((ux g.2.1 b.2.1).bind fun p1=>cond (!p1) (some true) (some (!(g.2.2==b.1)))):Option Bool).bind fun q1=>cond (q1) (some false) ((wD (⟨(⟨(⟨p,q⟩:af),s⟩:aK),t,u⟩:aq) 1).bind fun y=>cond (decide (y<0)) (some false) ((si w y).bind fun z=>cond (decide (z<0)) (some false) (cond (z !=m.1) (some false) (some true)))))))))))
end Vs

set_option linter.unusedVariables false
set_option linter.unusedSimpArgs false
namespace Vs
open Go Go.Proofs Go.Shelf Go.RowKit Go.Lib
section
variable{P:Program}
theorem eU(w:World)(dT sT ty elem:TypeId)(k:Nat)(b o dLen dCap:Nat)(a:Addr)(sLen sCap:Nat)(cs:List Value)
 (hu:P.underlying dT=some (.slice elem)) (hs:(P.info? elem).map (·.size)=some k) (hn:cs.length=Nat.min sLen dLen*k)
 (hsrc:∀j v,cs[j]?=some v->w.cell? (a.add j)=some v) (hc:∀j,j<cs.length->(w.cell? ⟨b,o+j,none⟩).isSome=true) (hf:∀j,j<cs.length->w.frozen? ⟨b,o+j,none⟩=false) (h1:∀v∈cs,v.oneCell'=true):
 (Builtin.copy_ #[dT,sT] ty #[.slice (some ⟨b,o,none⟩) dLen dCap,.slice (some a) sLen sCap]).run P w=.ok (goInt (Nat.min sLen dLen)) (w.setCells b o cs):=by
 have hl:=run_loadCells_list (P:=P) w a cs hsrc;have hst:=run_storeCells_cells (P:=P) b o cs 0 w (by simpa using hc) (by simpa using hf) h1;cases hq:P.info? elem with
 |none=>simp[hq] at hs
 | some i =>
   have hi:i.size=k:=by simpa[hq] using hs
   simp[Builtin.copy_,run_underlying hu,Builtin.lenOf,Builtin.firstCells,Go.sizeOf,typeInfo,hq,hi,<-hn,hl,hst]
theorem uI(w:World){o:Oper}{a:Act}{K:Act->World->Prop}{Q:Exit->Act->World->Prop}(d s:Operand)(t t':TypeId)
 (ho:o.op=.call {callee:=.builtin .copy,args:=#[d,s],argTypes:=#[t,t']}) (v u:Value) (hd:a.eval d=v) (hs:a.eval s=u) {v':Value} {w':World}
 (hr:(Builtin.copy_ #[t,t'] o.type #[v,u]).run P w=.ok v' w') (h:K (a.put o.dst v') w'):o.wp P a w K Q:=by
 unfold Oper.wp execOp;simp only[ho,resolve,invoke,builtin,Sem.run_bind,Sem.run_pure,Result.andThen_ok,List.map_toArray,List.map_cons,List.map_nil,hd,hs,hr];exact h
theorem fP(w:World){ops:Array Oper}{rest:List Oper}{o:Oper}{a:Act}{Q:Exit->Act->World->Prop}(hgd:o.guard=none)(d s:Operand)(t t':TypeId)
 (ho:o.op=.call {callee:=.builtin .copy,args:=#[d,s],argTypes:=#[t,t']}) (v u:Value) (hd:a.eval d=v) (hs:a.eval s=u) {v':Value} {w':World}
 (hr:(Builtin.copy_ #[t,t'] o.type #[v,u]).run P w=.ok v' w') (h:wpList P ops Q rest (a.put o.dst v') w'):wpList P ops Q (o::rest) a w:=
 wpList_plain hgd fun _ hK=>uI w d s t t' ho v u hd hs hr (hK _ _ h)
theorem jR{ops:Array Oper}{o:Oper}{a:Act}{w:World}{K:Act->World->Prop}{Q:Exit->Act->World->Prop}{E:Prop}
 (hg:o.guard=none) (d x:Operand) (dT sT:TypeId) (hop:o.op=Op.call {callee:=Callee.builtin Builtin.copy,args:=#[d,x],argTypes:=#[dT,sT]})
 (v u:Value) (hd:a.eval d=v) (hx:a.eval x=u) {v':Value} {w':World} (hr:(Builtin.copy_ #[dT,sT] o.type #[v,u]).run P w=.ok v' w') (hK:K (a.put o.dst v') w'):
 if Region.wanted o (yielded ops a.tmps)=true then Oper.wp P o a w K Q else E:=by
 have hw:Region.wanted o (yielded ops a.tmps)=true:=by simp[Region.wanted,hg]
 rw[if_pos hw];unfold Oper.wp;simp[execOp,hop,resolve,invoke,builtin,hd,hx,hr,Result.andThen];exact hK
set_option maxHeartbeats 4000000 in
set_option maxRecDepth 100000 in
theorem ED(b off n c i vb voff m vc:Nat)(cs vs:List Value)(w:World)(hi:i<n)(hm:0<m)(hroom:n+m<=c)(hbig:(n+m)*56<=140737488355328)(hvb:vb≠b)
 (hcl:cs.length=n*5) (hvl:vs.length=m*5)
 (hcs:∀j v,cs[j]?=some v->w.cell? ⟨b,off+j,none⟩=some v) (hsp:∀j,j<(n+m)*5->(w.cell? ⟨b,off+j,none⟩).isSome=true) (hfz:∀j,j<(n+m)*5->w.frozen? ⟨b,off+j,none⟩=false)
 (hvs:∀j v,vs[j]?=some v->w.cell? ⟨vb,voff+j,none⟩=some v) (h1c:∀v∈cs,v.oneCell'=true) (h1v:∀v∈vs,v.oneCell'=true)
 (tA tB:TypeId) (kA kB:Nat) (hsa:w.shape? vb=some (tA,kA)) (hsb:w.shape? b=some (tB,kB)) (hkB:kB≠0) (hfa:w.frozen? ⟨vb,voff,none⟩=false) (hfe:w.frozen? ⟨vb,kA,none⟩=false):
 Calls Tryz.prog 214 #[.slice (some ⟨b,off,none⟩) n c,.int .i64 i,.slice (some ⟨vb,voff,none⟩) m vc] w fun e w'=>
  e=.returned (.slice (some ⟨b,off,none⟩) (n+m) c)/\w'=(w.drew.setCells b (off+(i+m)*5) (cs.drop (i*5))).setCells b (off+i*5) vs:=by
 have tSL:Tryz.prog.underlying 37=some (.slice 98):=by kernel_rfl
 have uSL:=run_underlying tSL;have hz1:¬((m:Int)=0):=by omega
 have hz2:¬((i:Int)=(n:Int)):=by omega
 have hsz:(Tryz.prog.info? 98).map (·.size)=some 5:=by kernel_rfl
 have zEL:∀w,(Go.sizeOf 98).run Tryz.prog w=.ok 5 w:=fun w=>by
  obtain⟨i0,h1,h2⟩:=Option.map_eq_some_iff.1 hsz;simp[Go.sizeOf,typeInfo,h1,h2]
 have hov:∀lb cb,(callFunc 236 #[.slice (some ⟨vb,voff,none⟩) m vc,.slice (some ⟨b,off+(i+m)*5,none⟩) lb cb]).run Tryz.prog w=.ok (.value (.bool false)) w:=fun lb cb=>by
  rw[run_callFunc_extern Tryz.func236 (by kernel_rfl) (by kernel_rfl) (by kernel_rfl) (e:=Extern.SlicesOverlaps.overlaps #[37,37] #[4]) (by kernel_rfl),
   Lib.run_overlaps_apart w 37 4 98 tSL 5 zEL ⟨vb,voff,none⟩ ⟨b,off+(i+m)*5,none⟩ m vc lb cb hvb tA tB kA kB hsa hsb hkB hfa hfe]
  rfl
 have hdl:(cs.drop (i*5)).length=(n-i)*5:=by rw[List.length_drop,hcl];omega
 have hw1:IntKind.i64.wrap ((i:Int)+(m:Int))=(i:Int)+(m:Int):=by rw[IntKind.wrap_i64];omega
 have hw2:IntKind.i64.wrap ((n:Int)+(m:Int))=(n:Int)+(m:Int):=by rw[IntKind.wrap_i64];omega
 have hb1:(0:Int)<=(i:Int)+(m:Int):=by omega
 have hin:i<=n:=by omega
 have htn:((i:Int)+(m:Int)).toNat=i+m:=by omega
 have hb2:¬(c=i+m):=by omega
 have hb3:(i:Int)<=(n:Int)+(m:Int):=by omega
 have hb4:¬(c=i):=by omega
 have mixed:=Tryz.checked.mixed;have hcp1:∀ty dc sc,(Builtin.copy_ #[37,37] ty #[.slice (some ⟨b,off+(i+m)*5,none⟩) (n+m-(i+m)) dc,.slice (some ⟨b,off+i*5,none⟩) (n+m-i) sc]).run Tryz.prog w.drew=.ok (goInt (Nat.min (n+m-i) (n+m-(i+m)))) (w.drew.setCells b (off+(i+m)*5) (cs.drop (i*5))):=fun ty dc sc=>
  eU w.drew _ _ ty 98 5 b (off+(i+m)*5) (n+m-(i+m)) dc ⟨b,off+i*5,none⟩ (n+m-i) sc (cs.drop (i*5)) tSL hsz (by rw[hdl];congr 1;simp only[Nat.min_def];split<;>omega)
   (fun j v hj=>by rw[Addr.add_lit,Nat.add_assoc];exact hcs (i*5+j) v (by rwa[List.getElem?_drop] at hj))
   (fun j hj=>by rw[Nat.add_assoc];exact hsp _ (by omega)) (fun j hj=>by rw[Nat.add_assoc];exact hfz _ (by omega)) (fun v hv=>h1c v (List.mem_of_mem_drop hv))
 obtain⟨W1,hW1⟩:∃W1,W1=w.drew.setCells b (off+(i+m)*5) (cs.drop (i*5)):=⟨_,rfl⟩;have hsp1:∀k,k<(n+m)*5->(W1.cell? ⟨b,off+k,none⟩).isSome=true:=fun k hk=>by
  rw[hW1];exact World.isSome_setCells b _ _ _ _ (hsp k hk)
 have hcp2:∀(W:World),(∀x,W.cell? x=W1.cell? x)->(∀x,W.frozen? x=W1.frozen? x)->∀ty dc,(Builtin.copy_ #[37,37] ty #[.slice (some ⟨b,off+i*5,none⟩) (n+m-i) dc,.slice (some ⟨vb,voff,none⟩) m vc]).run Tryz.prog W=.ok (goInt (Nat.min m (n+m-i))) (W.setCells b (off+i*5) vs):=fun W hWc hWf ty dc=>
  eU W _ _ ty 98 5 b (off+i*5) (n+m-i) dc ⟨vb,voff,none⟩ m vc vs tSL hsz (by rw[hvl];congr 1;simp only[Nat.min_def];split<;>omega)
   (fun j v hj=>by
    rw[Addr.add_lit,hWc,hW1,World.cell?_setCells_out b _ _ _ _ (fun h _=>absurd h hvb)];exact hvs j v hj)
   (fun j hj=>by rw[hWc,Nat.add_assoc];exact hsp1 _ (by omega)) (fun j hj=>by rw[hWf,hW1,World.frozen?_setCells,Nat.add_assoc];exact hfz _ (by omega)) h1v
 rw[<-hW1] at hcp1
 go_enter Tryz.func214,Tryz.ntmps214
 go_wp2_with (simp only[hov])
 go_region_law_o (refine jR rfl _ _ 37 37 rfl _ _ (by simp[Act.eval,Act.put]) (by simp[Act.eval,Act.put]) (hcp1 _ _ _) ?_)
 go_wp2_with (at_builtin;refine fP _ rfl _ _ 37 37 rfl _ _ rfl rfl (hcp2 _ (fun _=>rfl) (fun _=>rfl) _ _) ?_)
 go_ret
 first|exact⟨rfl,rfl⟩|exact⟨rfl,by rw[hW1]⟩
theorem wB(z:Array Value)(n:Nat)(hz:0<z.size)(x:Value)(h:x∈Builtin.zeroCells z n):x∈z:=by
 unfold Builtin.zeroCells at h;rw[Array.mem_map] at h;obtain⟨i,hi,h⟩:=h;rw[<-h];rw[getElem!_pos z _ (Nat.mod_lt _ hz)];exact Array.getElem_mem _
theorem uO:∃(i0:TypeInfo)(z:Value),Tryz.prog.info? 98=some i0/\i0.size=5/\i0.bytes=56/\i0.zero=some z/\z.cells.size=5/\∀x∈z.cells,x.oneCell'=true:=by
 have h:((Tryz.prog.info? 98).map fun i=>(i.size,i.bytes,i.zero.map fun z=>(z.cells.size,z.cells.all fun x=>x.oneCell')))=some (5,56,some (5,true)):=by kernel_rfl
 obtain⟨i0,h1,h2⟩:=Option.map_eq_some_iff.1 h;simp only[Prod.mk.injEq] at h2;obtain⟨a1,a2,a3⟩:=h2;obtain⟨z,b1,b2⟩:=Option.map_eq_some_iff.1 a3;simp only[Prod.mk.injEq] at b2;refine⟨i0,z,h1,a1,a2,b1,b2.1,fun x hx=>?_⟩;exact(Array.all_eq_true_iff_forall_mem.1 b2.2) x hx
set_option maxHeartbeats 4000000 in
set_option maxRecDepth 100000 in
theorem tM(b off n c vb voff m vc:Nat)(vs:List Value)(w:World)(hm:0<m)(hroom:n+m<=c)(hbig:(n+m)*56<=140737488355328)
 (hvl:vs.length=m*5) (hsp:∀j,j<m*5->(w.cell? ⟨b,off+n*5+j,none⟩).isSome=true) (hfz:∀j,j<m*5->w.frozen? ⟨b,off+n*5+j,none⟩=false)
 (hvs:∀j v,vs[j]?=some v->w.cell? ⟨vb,voff+j,none⟩=some v) (h1v:∀v∈vs,v.oneCell'=true):
 Calls Tryz.prog 214 #[.slice (some ⟨b,off,none⟩) n c,.int .i64 n,.slice (some ⟨vb,voff,none⟩) m vc] w fun e w'=>
  e=.returned (.slice (some ⟨b,off,none⟩) (n+m) c)/\w'=w.setCells b (off+n*5) vs:=by
 have tSL:Tryz.prog.underlying 37=some (.slice 98):=by kernel_rfl
 have uSL:=run_underlying tSL;obtain⟨i0,z,hi0,hzs,hzb,hz0,_,_⟩:=uO;have mixed:=Tryz.checked.mixed;have hz1:¬((m:Int)=0):=by omega
 have hsrc:Src Tryz.prog i0.size 37 (.slice (some ⟨vb,voff,none⟩) m vc) m vs w:=Src.ofSlice w tSL ⟨vb,voff,none⟩ m vc vs (by rw[hzs];exact hvl) (fun j u hj=>by rw[Addr.add_lit];exact hvs j u hj) h1v;have hrun:∀ty,(Builtin.append_ #[37,37] ty #[.slice (some ⟨b,off,none⟩) n c,.slice (some ⟨vb,voff,none⟩) m vc]).run Tryz.prog w=.ok (.slice (some ⟨b,off,none⟩) (n+m) c) (w.setCells b (off+n*5) vs):=fun ty=>by
  have:=run_append_room_src (P:=Tryz.prog) w 37 37 ty 98 i0 tSL hi0 b off n c (.slice (some ⟨vb,voff,none⟩) m vc) m vs hsrc hroom (by rw[hzs,hvl];exact hsp) (by rw[hzs,hvl];exact hfz);rw[hzs] at this;exact this
 go_enter Tryz.func214,Tryz.ntmps214
 go_wp2_with (at_builtin;refine Lib.wpList_append_run _ rfl _ _ _ _ rfl _ _ rfl rfl _ _ (hrun _) ?_)
 go_ret
 exact⟨rfl,rfl⟩
set_option maxHeartbeats 4000000 in
set_option maxRecDepth 100000 in
theorem mN(base:Option Addr)(n c vb voff m vc:Nat)(cs vs:List Value)(w:World)(hm:0<m)(hnc:n<=c)(hroom:c<n+m)(hbig:(n+m)*56<=140737488355328)
 (hcl:cs.length=n*5) (hvl:vs.length=m*5) (hnil:base=none->n=0)
 (hcs:∀a,base=some a->∀j v,cs[j]?=some v->w.cell? (a.add j)=some v)
 (hvs:∀j v,vs[j]?=some v->w.cell? ⟨vb,voff+j,none⟩=some v) (h1v:∀v∈vs,v.oneCell'=true):
 Calls Tryz.prog 214 #[.slice base n c,.int .i64 n,.slice (some ⟨vb,voff,none⟩) m vc] w fun e w'=>
  ∃(G:Nat)(tl:Array Value),n+m<=G/\tl.size=(G-(n+m))*5/\(∀x∈tl,x.oneCell'=true)/\e=.returned (.slice (some ⟨w.heap.size,0,none⟩) (n+m) G)/\
  w'=w.drew.alloc (.cells ((cs++vs).toArray++tl) 98):=by
 have tSL:Tryz.prog.underlying 37=some (.slice 98):=by kernel_rfl
 have uSL:=run_underlying tSL;obtain⟨i0,z,hi0,hzs,hzb,hz0,hzc,hz1c⟩:=uO;have mixed:=Tryz.checked.mixed;have hz1:¬((m:Int)=0):=by omega
 have hsrc:Src Tryz.prog i0.size 37 (.slice (some ⟨vb,voff,none⟩) m vc) m vs w:=Src.ofSlice w tSL ⟨vb,voff,none⟩ m vc vs (by rw[hzs];exact hvl) (fun j u hj=>by rw[Addr.add_lit];exact hvs j u hj) h1v;have hold:(Builtin.firstCells i0.size n (.slice base n c)).run Tryz.prog w.drew=.ok cs.toArray w.drew:=by
  rw[hzs];cases base with
  | none =>
    have h0:=hnil rfl;subst h0;have hcs0:cs=[]:=List.length_eq_zero_iff.1 (by omega);rw[hcs0];exact run_firstCells_none w.drew 5 0 0 c
  |some a=>exact run_firstCells_some w.drew 5 n a n c cs hcl (fun j v hj=>hcs a rfl j v hj)
 have hrun:=fun ty=>run_append_grow_src (P:=Tryz.prog) w 37 37 ty 98 i0 z tSL hi0 hz0 base n c cs hold _ m vs hsrc hroom (by omega) (by rw[hzb];exact growslice_fits hroom hbig);obtain⟨G,hG⟩:∃G,G=grownCap w (n+m) c 98:=⟨_,rfl⟩;have hGn:n+m<=G:=by rw[hG];exact grownCap_ge w _ _ _
 obtain⟨tl,htl⟩:∃tl,tl=Builtin.zeroCells z.cells (G-(n+m)):=⟨_,rfl⟩;have ht1:tl.size=(G-(n+m))*5:=by rw[htl,size_zeroCells,hzc]
 have ht2:∀x∈tl,x.oneCell'=true:=fun x hx=>hz1c x (wB _ _ (by omega) x (by rw[<-htl];exact hx));rw[<-hG] at hrun;rw[<-htl] at hrun;obtain⟨ROW,hROW⟩:∃ROW:Array Value,ROW=(cs++vs).toArray++tl:=⟨_,rfl⟩;refine Calls.mono (R:=fun e w'=>e=.returned (.slice (some ⟨w.heap.size,0,none⟩) (n+m) G)/\w'=w.drew.alloc (.cells ROW 98)) ?_ (fun e w' h=>⟨G,tl,hGn,ht1,ht2,h.1,by rw[h.2,hROW]⟩);rw[<-hROW] at hrun;clear hold hROW ht2 ht1 htl hG hGn hz1c hz0 hi0 hsrc;clear hzc hzs hzb;clear i0
 go_enter Tryz.func214,Tryz.ntmps214
 cases base with
 | none =>
   have h0:=hnil rfl;subst h0;rw[Nat.zero_add] at hrun⊢
   go_wp2_with (at_builtin;refine Lib.wpList_append_run _ rfl _ _ _ _ rfl _ _ rfl rfl _ _ (hrun _) ?_)
   all_goals(go_ret;exact⟨rfl,rfl⟩)
 | some a =>
   obtain⟨ab,ao,asp⟩:=a
   go_wp2_with (at_builtin;refine Lib.wpList_append_run _ rfl _ _ _ _ rfl _ _ rfl rfl _ _ (hrun _) ?_)
   all_goals(go_ret;exact⟨rfl,rfl⟩)
set_option maxHeartbeats 4000000 in
set_option maxRecDepth 100000 in
theorem Jh(b off n c i vb voff m vc:Nat)(cs vs:List Value)(w:World)(hi:i<n)(hm:0<m)(hnc:n<=c)(hroom:c<n+m)(hbig:(n+m)*56<=140737488355328)
 (hcl:cs.length=n*5) (hvl:vs.length=m*5)
 (hcs:∀j v,cs[j]?=some v->w.cell? ⟨b,off+j,none⟩=some v)
 (hvs:∀j v,vs[j]?=some v->w.cell? ⟨vb,voff+j,none⟩=some v) (h1c:∀v∈cs,v.oneCell'=true) (h1v:∀v∈vs,v.oneCell'=true):
 Calls Tryz.prog 214 #[.slice (some ⟨b,off,none⟩) n c,.int .i64 i,.slice (some ⟨vb,voff,none⟩) m vc] w fun e w'=>
  ∃(G:Nat)(tl:Array Value),n+m<=G/\tl.size=(G-(n+m))*5/\(∀x∈tl,x.oneCell'=true)/\e=.returned (.slice (some ⟨w.heap.size,0,none⟩) (n+m) G)/\
  ∃z:Array Value,z.size=(n+m-i)*5/\w'=(((w.alloc (.cells ((cs.take (i*5)).toArray++z++tl) 98)).drew.setCells w.heap.size (i*5) vs).drew).setCells w.heap.size ((i+m)*5) (cs.drop (i*5)):=by
 have tSL:Tryz.prog.underlying 37=some (.slice 98):=by kernel_rfl
 have t3:Tryz.prog.underlying 3=some (.int .i64):=by kernel_rfl
 have uSL:=run_underlying tSL;have u3:=run_underlying t3;obtain⟨i0,z,hi0,hzs,hzb,hz0,hzc,hz1c⟩:=uO;have mixed:=Tryz.checked.mixed;have hsz:(Tryz.prog.info? 98).map (·.size)=some 5:=by kernel_rfl
 have hz1:¬((m:Int)=0):=by omega
 have hz2:¬((i:Int)=(n:Int)):=by omega
 have hz3:(c:Int)<(n:Int)+(m:Int):=by omega
 have hbw:b<w.heap.size:=block_lt_of_cell (hcs 0 _ (List.getElem?_eq_getElem (by omega)));have hvw:vb<w.heap.size:=block_lt_of_cell (hvs 0 _ (List.getElem?_eq_getElem (by omega)));have hkk:(n:Int)+(m:Int)-(i:Int)=((n+m-i:Nat):Int):=by omega
 have hik:i+(n+m-i)=n+m:=by omega
 have hold:(Builtin.firstCells i0.size i (.slice (some ⟨b,off,none⟩) i c)).run Tryz.prog w.drew=.ok (cs.take (i*5)).toArray w.drew:=by
  rw[hzs];exact run_firstCells_some w.drew 5 i ⟨b,off,none⟩ i c (cs.take (i*5)) (by rw[List.length_take];omega) (fun j v hj=>by
   rw[Addr.add_lit];rw[List.getElem?_take] at hj;split at hj
   ·exact hcs j v hj
   ·cases hj)
 obtain⟨G,hG⟩:∃G,G=grownCap w (n+m) c 98:=⟨_,rfl⟩;obtain⟨zs,hzz⟩:∃zs,zs=Builtin.zeroCells z.cells (n+m-i):=⟨_,rfl⟩;obtain⟨tl,htl⟩:∃tl,tl=Builtin.zeroCells z.cells (G-(n+m)):=⟨_,rfl⟩;have ht0:zs.size=(n+m-i)*5:=by rw[hzz,size_zeroCells,hzc]
 have ht1:tl.size=(G-(n+m))*5:=by rw[htl,size_zeroCells,hzc]
 have ht2:∀x∈tl,x.oneCell'=true:=fun x hx=>hz1c x (wB _ _ (by omega) x (by rw[<-htl];exact hx));have hrz:∀ty,(Builtin.append_ #[37,3] ty #[.slice (some ⟨b,off,none⟩) i c,.int .i64 ((n:Int)+(m:Int)-(i:Int))]).run Tryz.prog w=
  .ok (.slice (some ⟨w.heap.size,0,none⟩) (n+m) G) (w.drew.alloc (.cells ((cs.take (i*5)).toArray++zs++tl) 98)):=fun ty=>by
  have h:=Lib.run_append_grow_zeros w 37 3 ty 98 i0 _ .i64 .i64 tSL t3 hi0 hz0 (some ⟨b,off,none⟩) i c (cs.take (i*5)) hold (n+m-i) (by omega) (by omega) (by omega) (by omega) (by rw[hzb];omega) (by rw[hzb,hik];exact growslice_fits hroom hbig);rw[hik] at h;rw[hkk,hzz,htl,hG];exact h
 obtain⟨ROW,hROW⟩:∃ROW:Array Value,ROW=(cs.take (i*5)).toArray++zs++tl:=⟨_,rfl⟩;refine Calls.mono (R:=fun e w'=>e=.returned (.slice (some ⟨w.heap.size,0,none⟩) (n+m) G)/\w'=(((w.alloc (.cells ROW 98)).drew.setCells w.heap.size (i*5) vs).drew).setCells w.heap.size ((i+m)*5) (cs.drop (i*5))) ?_ (fun e w' h=>⟨G,tl,by rw[hG];exact grownCap_ge w _ _ _,ht1,ht2,h.1,zs,ht0,by rw[h.2,hROW]⟩);rw[<-hROW] at hrz;have hRl:(n+m)*5<=ROW.size:=by
  rw[hROW];simp only[Array.size_append,List.size_toArray,List.length_take,ht0];omega
 obtain⟨W1,hW1⟩:∃W1,W1=w.drew.alloc (.cells ROW 98):=⟨_,rfl⟩;rw[<-hW1] at hrz;have hN:∀j,j<(n+m)*5->(W1.cell? ⟨w.heap.size,j,none⟩).isSome=true:=fun j hj=>by
  rw[hW1,World.cell?_alloc_at (w:=w.drew) ROW _ w.heap.size j rfl,Array.getElem?_eq_getElem (by omega)];rfl
 have hNf:∀j,W1.frozen? ⟨w.heap.size,j,none⟩=false:=fun j=>by rw[hW1];exact World.frozen?_alloc_at (w:=w.drew) ROW _ w.heap.size j rfl
 have hOb:∀j v,w.cell? ⟨b,j,none⟩=some v->W1.cell? ⟨b,j,none⟩=some v:=fun j v h=>by rw[hW1,World.cell?_alloc_past (w:=w.drew) _ b j hbw];exact h
 have hOv:∀j v,w.cell? ⟨vb,j,none⟩=some v->W1.cell? ⟨vb,j,none⟩=some v:=fun j v h=>by rw[hW1,World.cell?_alloc_past (w:=w.drew) _ vb j hvw];exact h
 have hcpA:∀(W:World),(∀x,W.cell? x=W1.cell? x)->(∀x,W.frozen? x=W1.frozen? x)->∀ty dc,(Builtin.copy_ #[37,37] ty #[.slice (some ⟨w.heap.size,i*5,none⟩) (n+m-i) dc,.slice (some ⟨vb,voff,none⟩) m vc]).run Tryz.prog W=.ok (goInt (Nat.min m (n+m-i))) (W.setCells w.heap.size (i*5) vs):=fun W hWc hWf ty dc=>
  eU W _ _ ty 98 5 w.heap.size (i*5) (n+m-i) dc ⟨vb,voff,none⟩ m vc vs tSL hsz (by rw[hvl];congr 1;simp only[Nat.min_def];split<;>omega)
   (fun j v hj=>by rw[Addr.add_lit,hWc];exact hOv _ v (hvs j v hj))
   (fun j hj=>by rw[hWc];exact hN _ (by omega)) (fun j hj=>by rw[hWf];exact hNf _) h1v
 have hGn:n+m<=G:=by rw[hG];exact grownCap_ge w _ _ _
 have hG63:G<=9223372036854775807:=by
  have:=grownCap_le_maxLen w (n+m) c 98 (by unfold maxLen;omega);rw[<-hG] at this;unfold maxLen at this;omega
 have hGi:¬(G=i):=by omega
 have hGim:¬(G=i+m):=by omega
 have hci:¬(c=i):=by omega
 have hbN:b≠w.heap.size:=by omega
 have hdl:(cs.drop (i*5)).length=(n-i)*5:=by rw[List.length_drop,hcl];omega
 have hcpB:∀(W:World),(∀x,W.cell? x=(W1.setCells w.heap.size (i*5) vs).cell? x)->(∀x,W.frozen? x=(W1.setCells w.heap.size (i*5) vs).frozen? x)->∀ty dc sc,(Builtin.copy_ #[37,37] ty #[.slice (some ⟨w.heap.size,(i+m)*5,none⟩) (n+m-(i+m)) dc,.slice (some ⟨b,off+i*5,none⟩) (n-i) sc]).run Tryz.prog W=.ok (goInt (Nat.min (n-i) (n+m-(i+m)))) (W.setCells w.heap.size ((i+m)*5) (cs.drop (i*5))):=fun W hWc hWf ty dc sc=>
  eU W _ _ ty 98 5 w.heap.size ((i+m)*5) (n+m-(i+m)) dc ⟨b,off+i*5,none⟩ (n-i) sc (cs.drop (i*5)) tSL hsz (by rw[hdl];congr 1;simp only[Nat.min_def];split<;>omega)
   (fun j v hj=>by
    rw[Addr.add_lit,hWc,World.cell?_setCells_out _ _ _ _ _ (fun h _=>absurd h hbN),Nat.add_assoc];exact hOb _ v (hcs (i*5+j) v (by rwa[List.getElem?_drop] at hj)))
   (fun j hj=>by rw[hWc];exact World.isSome_setCells _ _ _ _ _ (hN _ (by omega)))
   (fun j hj=>by rw[hWf,World.frozen?_setCells];exact hNf _) (fun v hv=>h1c v (List.mem_of_mem_drop hv))
 subst hW1;have hE1:∀x,((w.alloc (.cells ROW 98)).drew).cell? x=(w.drew.alloc (.cells ROW 98)).cell? x:=fun x=>rfl;have hE2:∀x,((w.alloc (.cells ROW 98)).drew).frozen? x=(w.drew.alloc (.cells ROW 98)).frozen? x:=fun x=>rfl;have hF1:∀x,(((w.alloc (.cells ROW 98)).drew.setCells w.heap.size (i*5) vs).drew).cell? x=((w.drew.alloc (.cells ROW 98)).setCells w.heap.size (i*5) vs).cell? x:=fun x=>rfl;have hF2:∀x,(((w.alloc (.cells ROW 98)).drew.setCells w.heap.size (i*5) vs).drew).frozen? x=((w.drew.alloc (.cells ROW 98)).setCells w.heap.size (i*5) vs).frozen? x:=fun x=>rfl;have hw1:IntKind.i64.wrap ((i:Int)+(m:Int))=(i:Int)+(m:Int):=by rw[IntKind.wrap_i64];omega
 have hb1:(0:Int)<=(i:Int)+(m:Int):=by omega
 have hin:i<=n:=by omega
 have htn:((i:Int)+(m:Int)).toNat=i+m:=by omega
 have hb3:(i:Int)<=(n:Int):=by omega
 clear hkk hik hold hRl hROW ht0 ht1 ht2 htl hzz hG hz1c hz0 hi0;clear hzc hzs hzb;clear z i0
 go_enter Tryz.func214,Tryz.ntmps214
 go_wp2_with (first
  |(at_builtin;refine Lib.wpList_append_run _ rfl _ _ _ _ rfl _ _ rfl rfl _ _ (hrz _) ?_)
  |(at_builtin;refine fP _ rfl _ _ 37 37 rfl _ _ rfl rfl (hcpA _ hE1 hE2 _ _) ?_)
  |(at_builtin;refine fP _ rfl _ _ 37 37 rfl _ _ rfl rfl (hcpB _ (fun _=>rfl) (fun _=>rfl) _ _ _) ?_))
 go_region_law_o (refine jR rfl _ _ 37 37 rfl (.slice (some ⟨w.heap.size,(i+m)*5,none⟩) (n+m-(i+m)) (G-(i+m))) (.slice (some ⟨b,off+i*5,none⟩) (n-i) (c-i)) (by simp[Act.eval,Act.put]) (by simp[Act.eval,Act.put]) (hcpB _ hF1 hF2 3 (G-(i+m)) (c-i)) ?_)
 go_wp2
 go_ret
 all_goals exact⟨rfl,rfl⟩
end
theorem UE:InsC Tryz.prog 214 5 56 where
 fn:=⟨_,Tryz.func214,by kernel_rfl,by kernel_rfl⟩
 kp:=by decide
 ins:=fun base n c i vb voff m vc cs vs w hi hnc hm hmv hbig hb hnil hcl hvl hcs hvs hF h1c h1v=>by
  have hfv:=rd hF;cases base with
  | none =>
    have hc:=hnil rfl;have hn:n=0:=by omega
    have hi0:i=n:=by omega
    subst hi0;exact(mN none i c vb voff m vc cs vs w hm hnc (by omega) hbig hcl hvl (fun _=>hn) (fun a ha=>by cases ha) hvs h1v).mono fun e w' h=>ru hcl hvl h
  | some a =>
    obtain⟨h1,h2,h3⟩:=hb a rfl;obtain⟨b,off,sp⟩:=a;simp only at h1 h2 h3;subst h1;have hcs':=hcs _ rfl;simp only at hcs';by_cases hroom:n+m<=c
    ·have hFb:=h3 (by omega);have hsl:=Nat.mul_le_mul_right 5 hroom;by_cases e:i=n
     ·subst e;exact(tM b off i c vb voff m vc vs w hm hroom (by omega) hvl (fun j hj=>nE hFb _ (by omega)) (fun j _=>rd hFb _) hvs h1v).mono fun e w' h=>Fj hFb hroom hcl hvl hcs' h
     ·obtain⟨tA,kA,sA,lA⟩:=rp hF;obtain⟨tB,kB,sB,lB⟩:=rp hFb;exact(ED b off n c i vb voff m vc cs vs w (by omega) hm hroom (by omega) (Ne.symm h2) hcl hvl hcs' (fun j hj=>nE hFb _ (by omega)) (fun j _=>rd hFb _) hvs h1c h1v tA tB kA kB sA sB (by omega) (hfv _) (hfv _)).mono fun e w' h=>zj hFb hroom (by omega) hcl hvl hcs' h
    ·by_cases e:i=n
     ·subst e;exact(mN (some ⟨b,off,none⟩) i c vb voff m vc cs vs w hm hnc (by omega) hbig hcl hvl (fun h=>by cases h) (fun a ha=>by cases ha;exact fun j v hj=>by rw[Addr.add_lit];exact hcs' j v hj) hvs h1v).mono fun e w' h=>ru hcl hvl h
     ·exact(Jh b off n c i vb voff m vc cs vs w (by omega) hm hnc (by omega) hbig hcl hvl hcs' hvs h1c h1v).mono fun e w' h=>Fq (by omega) hcl hvl h
end Vs

namespace Vs
open Go Go.Proofs
theorem aZ:Tryz.prog.follows .mixedOrders=true:=Tryz.checked.mixed
def qQ:Go.Shelf.Ren:=⟨fun|6=>242|15=>172|14=>251|28=>210|29=>211|20=>259|21=>260|22=>261|23=>262|24=>263|25=>264|26=>265|27=>266|46=>268|47=>229|48=>230|49=>269|50=>270|57=>273|n=>n,fun|22=>187|24=>94|25=>239|3=>3|39=>184|0=>0|53=>214|55=>216|4=>4|46=>207|45=>206|50=>211|5=>5|9=>9|66=>227|70=>231|76=>241|77=>242|n=>n,fun|n=>n⟩
theorem JB:Go.Proofs.SlLaysF0.n6 Tryz.prog qQ:={
 mixed:=by kernel_rfl
 f6:=⟨Tryz.f242.name,by decide,Tryz.func242.trans (congrArg some (by kernel_rfl))⟩
 f14:=⟨Tryz.f251.name,by decide,Tryz.func251.trans (congrArg some (by kernel_rfl))⟩
 f15:=Tryz.func172.trans (congrArg some (by kernel_rfl))
 f20:=⟨Tryz.f259.name,by decide,Tryz.func259.trans (congrArg some (by kernel_rfl))⟩
 f21:=⟨Tryz.f260.name,by decide,Tryz.func260.trans (congrArg some (by kernel_rfl))⟩
 f22:=⟨Tryz.f261.name,by decide,Tryz.func261.trans (congrArg some (by kernel_rfl))⟩
 f23:=⟨Tryz.f262.name,by decide,Tryz.func262.trans (congrArg some (by kernel_rfl))⟩
 f24:=⟨Tryz.f263.name,by decide,Tryz.func263.trans (congrArg some (by kernel_rfl))⟩
 f25:=⟨Tryz.f264.name,by decide,Tryz.func264.trans (congrArg some (by kernel_rfl))⟩
 f26:=⟨Tryz.f265.name,by decide,Tryz.func265.trans (congrArg some (by kernel_rfl))⟩
 f27:=⟨Tryz.f266.name,by decide,Tryz.func266.trans (congrArg some (by kernel_rfl))⟩
 f28:=Tryz.func210.trans (congrArg some (by kernel_rfl))
 f29:=Tryz.func211.trans (congrArg some (by kernel_rfl))
 f46:=⟨Tryz.f268.name,by decide,Tryz.func268.trans (congrArg some (by kernel_rfl))⟩
 f47:=Tryz.func229.trans (congrArg some (by kernel_rfl))
 f48:=Tryz.func230.trans (congrArg some (by kernel_rfl))
 f49:=⟨Tryz.f269.name,by decide,Tryz.func269.trans (congrArg some (by kernel_rfl))⟩
 f50:=⟨Tryz.f270.name,by decide,Tryz.func270.trans (congrArg some (by kernel_rfl))⟩
 f57:=⟨Tryz.f273.name,by decide,Tryz.func273.trans (congrArg some (by kernel_rfl))⟩
 t0:=Tryz.underlying0
 a0:=Tryz.isAgg0
 z0:=Tryz.sizeOf0
 v0:=Tryz.zeroValue0
 t3:=Tryz.underlying3
 a3:=Tryz.isAgg3
 z3:=Tryz.sizeOf3
 v3:=Tryz.zeroValue3
 t4:=Tryz.underlying4
 a4:=Tryz.isAgg4
 z4:=Tryz.sizeOf4
 v4:=Tryz.zeroValue4
 t5:=Tryz.underlying5
 a5:=Tryz.isAgg5
 z5:=Tryz.sizeOf5
 v5:=Tryz.zeroValue5
 t9:=Tryz.underlying9
 a9:=Tryz.isAgg9
 z9:=Tryz.sizeOf9
 v9:=Tryz.zeroValue9
 t22:=Tryz.underlying187
 a22:=Tryz.isAgg187
 z22:=Tryz.sizeOf187
 v22:=Tryz.zeroValue187
 t25:=Tryz.underlying239
 a25:=Tryz.isAgg239
 z25:=Tryz.sizeOf239
 v25:=Tryz.zeroValue239
 t39:=Tryz.underlying184
 a39:=Tryz.isAgg184
 z39:=Tryz.sizeOf184
 v39:=Tryz.zeroValue184
 t45:=Tryz.underlying206
 a45:=Tryz.isAgg206
 z45:=Tryz.sizeOf206
 v45:=Tryz.zeroValue206
 t46:=Tryz.underlying207
 a46:=Tryz.isAgg207
 z46:=Tryz.sizeOf207
 v46:=Tryz.zeroValue207
 t50:=Tryz.underlying211
 a50:=Tryz.isAgg211
 z50:=Tryz.sizeOf211
 v50:=Tryz.zeroValue211
 t53:=Tryz.underlying214
 a53:=Tryz.isAgg214
 z53:=Tryz.sizeOf214
 v53:=Tryz.zeroValue214
 t55:=Tryz.underlying216
 a55:=Tryz.isAgg216
 z55:=Tryz.sizeOf216
 v55:=Tryz.zeroValue216
 t66:=Tryz.underlying227
 a66:=Tryz.isAgg227
 z66:=Tryz.sizeOf227
 v66:=Tryz.zeroValue227
 t70:=Tryz.underlying231
 a70:=Tryz.isAgg231
 z70:=Tryz.sizeOf231
 v70:=Tryz.zeroValue231
 t76:=Tryz.underlying241
 a76:=Tryz.isAgg241
 z76:=Tryz.sizeOf241
 v76:=Tryz.zeroValue241
 t77:=Tryz.underlying242
 a77:=Tryz.isAgg242
 z77:=Tryz.sizeOf242
 v77:=Tryz.zeroValue242}
theorem PQ:Bg Tryz.prog 242 2 (shK 2):=Wb (ρ:=qQ) JB 2 (by decide) Tryz.isAgg94 Tryz.sizeOf94 (AnyF.slices_SortFunc_none JB) ⟨_,Tryz.func242,by kernel_rfl,by kernel_rfl⟩
def MD:aw:=(.seq (Zs [Zm 12 5,Zm 13 0,Zk 14 13,Zb 15 .lss 12 14] (.cond (Zt 15) .skip (.exit 0))) (.seq (.blk 1 (Zs [Zm 18 1,Zm 19 0,Zm 20 5,Zx 21 1 19 20,Zl 22 21,Zo 23 (.lenz (Zt 22)),Zb 24 .sub 18 23,Zm 1 24] (Zs [Zm 25 1,Zd 26 .lss 25 0] (.cond (Zt 26) (Zs [Zn 4 (-1)] .ret) .skip)))) (.reg [Zm 16 5,Zd 17 .add 16 1,Zm 5 17] [])))
def TQ:aw:=(Zs [Zm 27 1,Zm 4 27] .ret)
def A85:aw:=(Zs [Zn 4 0] (Zs [Zm 6 1,Zm 7 0,Zk 8 7,Zb 9 .sub 6 8,Zm 1 9] (.seq (Zs [Zm 10 1,Zd 11 .lss 10 0] (.cond (Zt 11) (Zs [Zn 4 (-1)] .ret) .skip)) (.seqa (.reg [Zn 5 0] []) (.blk 0 (.loop MD)) [1] [] TQ))))
def V85:List RV:=[.t 4]
theorem m85:bb Tryz.prog 85 2 A85 V85=true:=by kernel_rfl
def A86:aw:=(Zs [Zn 4 0] (Zs [Zm 5 1,Zm 6 0,Zk 7 6,Zb 8 .sub 5 7,Zm 1 8] (.seq (Zs [Zm 9 1,Zd 10 .lss 9 0] (.cond (Zt 10) (Zs [Zn 4 (-1)] .ret) .skip)) (Zs [Zm 11 1,Zm 4 11] .ret))))
theorem m86:bb Tryz.prog 86 2 A86 V85=true:=by kernel_rfl
def A34:aw:=(Zs [Zo 2 (.box 2 (Zt 0)),Zn 4 0] (Zs [Za 5 0 2,Zl 6 5,Zm 7 1,Zo 8 (.call 85 [(Zt 6),(Zt 7)]),Zm 1 8] (.seq (Zs [Zm 9 1,Zd 10 .lss 9 0] (.cond (Zt 10) (Zs [Zn 4 (-1)] .ret) .skip)) (Zs [Za 11 1 2,Zl 12 11,Zm 13 1,Zo 14 (.call 86 [(Zt 12),(Zt 13)]),Zm 1 14] (.seq (Zs [Zm 15 1,Zd 16 .lss 15 0] (.cond (Zt 16) (Zs [Zn 4 (-1)] .ret) .skip)) (Zs [Zm 17 1,Zm 4 17] .ret))))))
theorem m34:bb Tryz.prog 34 2 A34 V85=true:=by kernel_rfl
def A60:aw:=(Zs [Zn 4 0] (Zs [Zm 5 1,Zm 6 0,Zk 7 6,Zb 8 .sub 5 7,Zm 1 8] (.seq (Zs [Zm 9 1,Zd 10 .lss 9 0] (.cond (Zt 10) (Zs [Zn 4 (-1)] .ret) .skip)) (Zs [Zm 11 1,Zm 4 11] .ret))))
theorem m60:bb Tryz.prog 60 2 A60 V85=true:=by kernel_rfl
def A147:aw:=(Zs [Zo 2 (.box 2 (Zt 0)),Zn 4 0] (Zs [Za 5 1 2,Zl 6 5,Zm 7 1,Zo 8 (.call 60 [(Zt 6),(Zt 7)]),Zm 1 8] (.seq (Zs [Zm 9 1,Zd 10 .lss 9 0] (.cond (Zt 10) (Zs [Zn 4 (-1)] .ret) .skip)) (Zs [Zm 11 1,Zm 4 11] .ret))))
theorem m147:bb Tryz.prog 147 2 A147 V85=true:=by kernel_rfl
def A124:aw:=(Zs [Zo 2 (.box 5 (Zt 0)),Zn 4 0] (Zs [Za 5 1 2,Zv 6 2 5,Zm 7 1,Zo 8 (.call 147 [(Zt 6),(Zt 7)]),Zm 1 8] (.seq (Zs [Zm 9 1,Zd 10 .lss 9 0] (.cond (Zt 10) (Zs [Zn 4 (-1)] .ret) .skip)) (Zs [Zm 11 1,Zm 4 11] .ret))))
theorem m124:bb Tryz.prog 124 2 A124 V85=true:=by kernel_rfl
def IZ:aw:=(.seq (Zs [Zm 12 5,Zm 13 0,Zk 14 13,Zb 15 .lss 12 14] (.cond (Zt 15) .skip (.exit 0))) (.seq (.blk 1 (Zs [Zm 18 0,Zm 19 5,Zx 20 5 18 19,Zv 21 5 20,Zm 22 1,Zo 23 (.call 124 [(Zt 21),(Zt 22)]),Zm 1 23] (Zs [Zm 24 1,Zd 25 .lss 24 0] (.cond (Zt 25) (Zs [Zn 4 (-1)] .ret) .skip)))) (.reg [Zm 16 5,Zd 17 .add 16 1,Zm 5 17] [])))
def Tq:aw:=(Zs [Zm 26 1,Zm 4 26] .ret)
def A59:aw:=(Zs [Zn 4 0] (Zs [Zm 6 1,Zm 7 0,Zk 8 7,Zb 9 .sub 6 8,Zm 1 9] (.seq (Zs [Zm 10 1,Zd 11 .lss 10 0] (.cond (Zt 11) (Zs [Zn 4 (-1)] .ret) .skip)) (.seqa (.reg [Zn 5 0] []) (.blk 0 (.loop IZ)) [1] [] Tq))))
theorem m59:bb Tryz.prog 59 2 A59 V85=true:=by kernel_rfl
def A24:aw:=(Zs [Zo 2 (.box 3 (Zt 0)),Zn 4 0] (Zs [Za 5 0 2,Zv 6 2 5,Zm 7 1,Zo 8 (.call 34 [(Zt 6),(Zt 7)]),Zm 1 8] (.seq (Zs [Zm 9 1,Zd 10 .lss 9 0] (.cond (Zt 10) (Zs [Zn 4 (-1)] .ret) .skip)) (Zs [Za 11 2 2,Zl 12 11,Zm 13 1,Zo 14 (.call 59 [(Zt 12),(Zt 13)]),Zm 1 14] (.seq (Zs [Zm 15 1,Zd 16 .lss 15 0] (.cond (Zt 16) (Zs [Zn 4 (-1)] .ret) .skip)) (Zs [Zm 17 1,Zm 4 17] .ret))))))
theorem m24:bb Tryz.prog 24 2 A24 V85=true:=by kernel_rfl
def A13:aw:=(Zs [Zo 2 (.box 5 (Zt 0)),Zn 4 0] (Zs [Za 5 0 2,Zv 6 3 5,Zm 7 1,Zo 8 (.call 24 [(Zt 6),(Zt 7)]),Zm 1 8] (.seq (Zs [Zm 9 1,Zd 10 .lss 9 0] (.cond (Zt 10) (Zs [Zn 4 (-1)] .ret) .skip)) (Zs [Za 11 3 2,Zl 12 11,Zm 13 1,Zo 14 (.call 59 [(Zt 12),(Zt 13)]),Zm 1 14] (.seq (Zs [Zm 15 1,Zd 16 .lss 15 0] (.cond (Zt 16) (Zs [Zn 4 (-1)] .ret) .skip)) (Zs [Za 17 4 2,Zl 18 17,Zm 19 1,Zo 20 (.call 60 [(Zt 18),(Zt 19)]),Zm 1 20] (.seq (Zs [Zm 21 1,Zd 22 .lss 21 0] (.cond (Zt 22) (Zs [Zn 4 (-1)] .ret) .skip)) (Zs [Zm 23 1,Zm 4 23] .ret))))))))
theorem m13:bb Tryz.prog 13 2 A13 V85=true:=by kernel_rfl
def Jo:aw:=(.seq (Zs [Zm 8 4,Zm 9 0,Zk 10 9,Zb 11 .lss 8 10] (.cond (Zt 11) .skip (.exit 0))) (.seq (.blk 1 (.reg [Zm 14 3,Zm 15 4,Zm 16 0,Zm 17 4,Zx 18 1 16 17,Zl 19 18,Zx 20 1 14 15,Zw (.store 1 (Zt 20) (Zt 19))] [])) (.reg [Zm 12 4,Zd 13 .add 12 1,Zm 4 13] [])))
def Tr:aw:=(.seq (.reg [Zm 21 3,Zm 2 21] [.s 2]) .ret)
def A91:aw:=(.seq (.reg [Zo 2 (.mv (.c (.lst .u 1 [])))] [.s 2]) (.seq (.reg [Zm 5 0,Zk 6 5,Zo 7 (.mks 1 (.z ⟨#[]⟩) 16 (Zt 6) (Zt 6)),Zm 3 7] [.s 3]) (.seqa (.reg [Zn 4 0] []) (.blk 0 (.loop Jo)) [3] [3] Tr)))
def V91:List RV:=[.t 2]
theorem m91:bb Tryz.prog 91 1 A91 V91=true:=by kernel_rfl
def A150:aw:=(Zs [Zo 1 (.box 4 (Zt 0)),Zo 2 (.alloc (.agg [.i 0,.i 0,.i 0,.i 0]))] (Zs [Zo 3 (.alloc (.agg [.i 0,.i 0,.i 0,.i 0]))] (Zs [Za 4 0 1,Zl 5 4,Za 6 0 3,Zw (.store 1 (Zt 6) (Zt 5))] (Zs [Za 7 1 1,Zl 8 7,Za 9 1 3,Zw (.store 1 (Zt 9) (Zt 8))] (Zs [Za 10 2 1,Zl 11 10,Za 12 2 3,Zw (.store 1 (Zt 12) (Zt 11))] (Zs [Za 13 3 1,Zl 14 13,Za 15 3 3,Zw (.store 1 (Zt 15) (Zt 14))] (Zs [Zv 16 4 3,Zw (.store 4 (Zt 2) (Zt 16))] .ret)))))))
def VF:List RV:=[.c 2 4 true]
theorem m150:bb Tryz.prog 150 1 A150 VF=true:=by kernel_rfl
def HO:aw:=(.seq (Zs [Zm 8 4,Zm 9 0,Zk 10 9,Zb 11 .lss 8 10] (.cond (Zt 11) .skip (.exit 0))) (.seq (.blk 1 (.reg [Zm 14 3,Zm 15 4,Zm 16 0,Zm 17 4,Zx 18 4 16 17,Zv 19 4 18,Zo 20 (.call 150 [(Zt 19)]),Zx 21 4 14 15,Zw (.store 4 (Zt 21) (Zt 20))] [])) (.reg [Zm 12 4,Zd 13 .add 12 1,Zm 4 13] [])))
def TL:aw:=(.seq (.reg [Zm 22 3,Zm 2 22] [.s 2]) .ret)
def A92:aw:=(.seq (.reg [Zo 2 (.mv (.c (.lst .u 4 [])))] [.s 2]) (.seq (.reg [Zm 5 0,Zk 6 5,Zo 7 (.mks 4 (.agg [.i 0,.i 0,.i 0,.i 0]) 32 (Zt 6) (Zt 6)),Zm 3 7] [.s 3]) (.seqa (.reg [Zn 4 0] []) (.blk 0 (.loop HO)) [3] [3] TL)))
theorem m92:bb Tryz.prog 92 1 A92 V91=true:=by kernel_rfl
def A37:aw:=(Zs [Zo 1 (.box 2 (Zt 0)),Zo 2 (.alloc (.agg [.lst .u 1 [],.lst .u 4 []]))] (Zs [Zo 3 (.alloc (.agg [.lst .u 1 [],.lst .u 4 []]))] (Zs [Za 4 0 1,Zl 5 4,Zo 6 (.call 91 [(Zt 5)]),Za 7 0 3,Zw (.store 1 (Zt 7) (Zt 6))] (Zs [Za 8 1 1,Zl 9 8,Zo 10 (.call 92 [(Zt 9)]),Za 11 1 3,Zw (.store 1 (Zt 11) (Zt 10))] (Zs [Zv 12 2 3,Zw (.store 2 (Zt 2) (Zt 12))] .ret)))))
def V37:List RV:=[.c 2 2 true]
theorem m37:bb Tryz.prog 37 1 A37 V37=true:=by kernel_rfl
def IW:aw:=(.seq (Zs [Zm 8 4,Zm 9 0,Zk 10 9,Zb 11 .lss 8 10] (.cond (Zt 11) .skip (.exit 0))) (.seq (.blk 1 (.reg [Zm 14 3,Zm 15 4,Zm 16 0,Zm 17 4,Zx 18 1 16 17,Zl 19 18,Zx 20 1 14 15,Zw (.store 1 (Zt 20) (Zt 19))] [])) (.reg [Zm 12 4,Zd 13 .add 12 1,Zm 4 13] [])))
def TT:aw:=(.seq (.reg [Zm 21 3,Zm 2 21] [.s 2]) .ret)
def A32:aw:=(.seq (.reg [Zo 2 (.mv (.c (.lst .u 1 [])))] [.s 2]) (.seq (.reg [Zm 5 0,Zk 6 5,Zo 7 (.mks 1 (.i 0) 8 (Zt 6) (Zt 6)),Zm 3 7] [.s 3]) (.seqa (.reg [Zn 4 0] []) (.blk 0 (.loop IW)) [3] [3] TT)))
theorem m32:bb Tryz.prog 32 1 A32 V91=true:=by kernel_rfl
def A151:aw:=(Zs [Zo 1 (.box 2 (Zt 0)),Zo 2 (.alloc (.agg [.i 0,.lst .u 1 []]))] (Zs [Zo 3 (.alloc (.agg [.i 0,.lst .u 1 []]))] (Zs [Za 4 0 1,Zl 5 4,Za 6 0 3,Zw (.store 1 (Zt 6) (Zt 5))] (Zs [Za 7 1 1,Zl 8 7,Zo 9 (.call 32 [(Zt 8)]),Za 10 1 3,Zw (.store 1 (Zt 10) (Zt 9))] (Zs [Zv 11 2 3,Zw (.store 2 (Zt 2) (Zt 11))] .ret)))))
theorem m151:bb Tryz.prog 151 1 A151 V37=true:=by kernel_rfl
def A152:aw:=(Zs [Zo 1 (.box 2 (Zt 0)),Zo 2 (.alloc (.agg [.i 0,.i 0]))] (Zs [Zo 3 (.alloc (.agg [.i 0,.i 0]))] (Zs [Za 4 0 1,Zl 5 4,Za 6 0 3,Zw (.store 1 (Zt 6) (Zt 5))] (Zs [Za 7 1 1,Zl 8 7,Za 9 1 3,Zw (.store 1 (Zt 9) (Zt 8))] (Zs [Zv 10 2 3,Zw (.store 2 (Zt 2) (Zt 10))] .ret)))))
theorem m152:bb Tryz.prog 152 1 A152 V37=true:=by kernel_rfl
def A127:aw:=(Zs [Zo 1 (.box 5 (Zt 0)),Zo 2 (.alloc (.agg [.i 0,.i 0,.lst .u 1 [],.i 0,.i 0]))] (Zs [Zo 3 (.alloc (.agg [.i 0,.i 0,.lst .u 1 [],.i 0,.i 0]))] (Zs [Za 4 0 1,Zl 5 4,Za 6 0 3,Zw (.store 1 (Zt 6) (Zt 5))] (Zs [Za 7 1 1,Zv 8 2 7,Zo 9 (.call 151 [(Zt 8)]),Za 10 1 3,Zw (.store 2 (Zt 10) (Zt 9))] (Zs [Za 11 3 1,Zv 12 2 11,Zo 13 (.call 152 [(Zt 12)]),Za 14 3 3,Zw (.store 2 (Zt 14) (Zt 13))] (Zs [Zv 15 5 3,Zw (.store 5 (Zt 2) (Zt 15))] .ret))))))
def lZ:List RV:=[.c 2 5 true]
theorem m127:bb Tryz.prog 127 1 A127 lZ=true:=by kernel_rfl
def GN:aw:=(.seq (Zs [Zm 8 4,Zm 9 0,Zk 10 9,Zb 11 .lss 8 10] (.cond (Zt 11) .skip (.exit 0))) (.seq (.blk 1 (.reg [Zm 14 3,Zm 15 4,Zm 16 0,Zm 17 4,Zx 18 5 16 17,Zv 19 5 18,Zo 20 (.call 127 [(Zt 19)]),Zx 21 5 14 15,Zw (.store 5 (Zt 21) (Zt 20))] [])) (.reg [Zm 12 4,Zd 13 .add 12 1,Zm 4 13] [])))
def Ts:aw:=(.seq (.reg [Zm 22 3,Zm 2 22] [.s 2]) .ret)
def A62:aw:=(.seq (.reg [Zo 2 (.mv (.c (.lst .u 5 [])))] [.s 2]) (.seq (.reg [Zm 5 0,Zk 6 5,Zo 7 (.mks 5 (.agg [.i 0,.i 0,.lst .u 1 [],.i 0,.i 0]) 56 (Zt 6) (Zt 6)),Zm 3 7] [.s 3]) (.seqa (.reg [Zn 4 0] []) (.blk 0 (.loop GN)) [3] [3] Ts)))
theorem m62:bb Tryz.prog 62 1 A62 V91=true:=by kernel_rfl
def A26:aw:=(Zs [Zo 1 (.box 3 (Zt 0)),Zo 2 (.alloc (.agg [.lst .u 1 [],.lst .u 4 [],.lst .u 5 []]))] (Zs [Zo 3 (.alloc (.agg [.lst .u 1 [],.lst .u 4 [],.lst .u 5 []]))] (Zs [Za 4 0 1,Zv 5 2 4,Zo 6 (.call 37 [(Zt 5)]),Za 7 0 3,Zw (.store 2 (Zt 7) (Zt 6))] (Zs [Za 8 2 1,Zl 9 8,Zo 10 (.call 62 [(Zt 9)]),Za 11 2 3,Zw (.store 1 (Zt 11) (Zt 10))] (Zs [Zv 12 3 3,Zw (.store 3 (Zt 2) (Zt 12))] .ret)))))
def V26:List RV:=[.c 2 3 true]
theorem m26:bb Tryz.prog 26 1 A26 V26=true:=by kernel_rfl
def A15:aw:=(Zs [Zo 1 (.box 5 (Zt 0)),Zo 2 (.alloc (.agg [.lst .u 1 [],.lst .u 4 [],.lst .u 5 [],.lst .u 5 [],.lst .u 1 []]))] (Zs [Zo 3 (.alloc (.agg [.lst .u 1 [],.lst .u 4 [],.lst .u 5 [],.lst .u 5 [],.lst .u 1 []]))] (Zs [Za 4 0 1,Zv 5 3 4,Zo 6 (.call 26 [(Zt 5)]),Za 7 0 3,Zw (.store 3 (Zt 7) (Zt 6))] (Zs [Za 8 3 1,Zl 9 8,Zo 10 (.call 62 [(Zt 9)]),Za 11 3 3,Zw (.store 1 (Zt 11) (Zt 10))] (Zs [Za 12 4 1,Zl 13 12,Zo 14 (.call 32 [(Zt 13)]),Za 15 4 3,Zw (.store 1 (Zt 15) (Zt 14))] (Zs [Zv 16 5 3,Zw (.store 5 (Zt 2) (Zt 16))] .ret))))))
theorem m15:bb Tryz.prog 15 1 A15 lZ=true:=by kernel_rfl
def A178:aw:=(Zs [Zo 6 (.mv (Zy false))] (Zs [Zm 7 0,Zm 8 1,Zb 9 .geq 7 8,Zm 10 9,Zg 11 (.mv (Zt 0)) 10 true,Zg 12 (.mv (Zt 2)) 10 true,Zg 13 (.bin .leq (Zt 11) (Zt 12)) 10 true,Zo 14 (.pick (Zt 10) (Zt 13) (Zy false)),Zm 6 14] .ret))
def eJ:List RV:=[.t 6]
theorem m178:bb Tryz.prog 178 3 A178 eJ=true:=by kernel_rfl
def A224:aw:=(Zs [Zo 2 (.mv (Zy false))] (Zs [Zm 3 0,Zo 4 (.bin .geq (Zt 3) (.c (.sc (.int .u8 97)))),Zm 5 4,Zg 6 (.mv (Zt 0)) 5 true,Zg 7 (.bin .leq (Zt 6) (.c (.sc (.int .u8 122)))) 5 true,Zo 8 (.pick (Zt 5) (Zt 7) (Zy false)),Zm 9 8,Zg 10 (.mv (Zt 0)) 9 false,Zg 11 (.bin .geq (Zt 10) (.c (.sc (.int .u8 48)))) 9 false,Zg 12 (.mv (Zt 11)) 9 false,Zg 13 (.mv (Zt 0)) 12 true,Zg 14 (.bin .leq (Zt 13) (.c (.sc (.int .u8 57)))) 12 true,Zg 15 (.pick (Zt 12) (Zt 14) (Zy false)) 9 false,Zo 16 (.pick (Zt 9) (Zy true) (Zt 15)),Zm 2 16] .ret))
theorem m224:bb Tryz.prog 224 1 A224 V91=true:=by kernel_rfl
def KO:aw:=(.cond (Zt 17) (Zs [Zo 2 (.mv (Zy false))] .ret) .skip)
def yC:aw:=(.seq (Zs [Zm 18 3,Zm 19 0,Zo 20 (.lenz (Zt 19)),Zb 21 .lss 18 20] (.cond (Zt 21) .skip (.exit 0))) (.seq (.blk 1 (Zs [Zm 24 0,Zm 25 3,Zo 26 (.stri (Zt 24) (Zt 25)),Zo 27 (.call 224 [(Zt 26)]),Zo 28 (.un .not (Zt 27))] (.cond (Zt 28) (Zs [Zo 2 (.mv (Zy false))] .ret) .skip))) (.reg [Zm 22 3,Zd 23 .add 22 1,Zm 3 23] [])))
def Lw:aw:=(Zs [Zo 2 (.mv (Zy true))] .ret)
def A187:aw:=(Zs [Zo 2 (.mv (Zy false))] (.seq (.seqr (.reg [Zm 4 0,Zo 5 (.lenz (Zt 4)),Zo 6 (.call 178 [(Zt 5),(.c (.i 1)),(.c (.i 8))]),Zo 7 (.un .not (Zt 6)),Zm 8 7,Zg 9 (.mv (Zt 0)) 8 false,Zg 10 (.stri (Zt 9) (.c (.i 0))) 8 false,Zg 11 (.bin .lss (Zt 10) (.c (.sc (.int .u8 97)))) 8 false,Zo 12 (.pick (Zt 8) (Zy true) (Zt 11)),Zm 13 12,Zg 14 (.mv (Zt 0)) 13 false,Zg 15 (.stri (Zt 14) (.c (.i 0))) 13 false,Zg 16 (.bin .gtr (Zt 15) (.c (.sc (.int .u8 122)))) 13 false,Zo 17 (.pick (Zt 13) (Zy true) (Zt 16))] []) [0,17] [] KO) (.seqa (.reg [Zn 3 0] []) (.blk 0 (.loop yC)) [] [] Lw)))
theorem m187:bb Tryz.prog 187 1 A187 V91=true:=by kernel_rfl
def yR:aw:=(.seq (Zs [Zm 6 5,Zm 7 0,Zk 8 7,Zb 9 .lss 6 8] (.cond (Zt 9) .skip (.exit 0))) (.seq (.blk 1 (Zs [Zm 12 0,Zm 13 5,Zx 14 1 12 13,Zl 15 14,Zm 16 1,Zb 17 .eql 15 16] (.cond (Zt 17) (Zs [Zm 18 5,Zm 4 18] .ret) .skip))) (.reg [Zm 10 5,Zd 11 .add 10 1,Zm 5 11] [])))
def JF:aw:=(Zs [Zn 4 (-1)] .ret)
def A188:aw:=(Zs [Zn 4 0] (.seqa (.reg [Zn 5 0] []) (.blk 0 (.loop yR)) [] [] JF))
theorem m188:bb Tryz.prog 188 2 A188 V85=true:=by kernel_rfl
def A189:aw:=(Zs [Zo 2 (.box 4 (Zt 0)),Zo 4 (.mv (Zy false))] (Zs [Za 5 0 2,Zl 6 5,Zm 7 1,Zd 8 .sub 7 1,Zo 9 (.call 178 [(Zt 6),(.c (.i 0)),(Zt 8)]),Zm 10 9,Zg 11 (.fad 1 (Zt 2)) 10 true,Zg 12 (.load 1 false (Zt 11)) 10 true,Zg 13 (.fad 0 (Zt 2)) 10 true,Zg 14 (.load 1 false (Zt 13)) 10 true,Zg 15 (.bin .add (Zt 14) (.c (.i 1))) 10 true,Zg 16 (.mv (Zt 1)) 10 true,Zg 17 (.bin .sub (Zt 16) (.c (.i 1))) 10 true,Zg 18 (.call 178 [(Zt 12),(Zt 15),(Zt 17)]) 10 true,Zo 19 (.pick (Zt 10) (Zt 18) (Zy false)),Zm 20 19,Zg 21 (.fad 2 (Zt 2)) 20 true,Zg 22 (.load 1 false (Zt 21)) 20 true,Zg 23 (.call 178 [(Zt 22),(.c (.i 1)),(.c (.i 5000))]) 20 true,Zo 24 (.pick (Zt 20) (Zt 23) (Zy false)),Zm 25 24,Zg 26 (.fad 3 (Zt 2)) 25 true,Zg 27 (.load 1 false (Zt 26)) 25 true,Zg 28 (.call 178 [(Zt 27),(.c (.i 0)),(.c (.i 9))]) 25 true,Zo 29 (.pick (Zt 25) (Zt 28) (Zy false)),Zm 4 29] .ret))
theorem m189:bb Tryz.prog 189 2 A189 V85=true:=by kernel_rfl
def A190:aw:=(Zs [Zo 2 (.box 4 (Zt 0)),Zo 3 (.box 4 (Zt 1)),Zn 4 0] (.seq (.blk 0 (Zs [Za 6 0 2,Zl 7 6,Za 8 0 3,Zl 9 8,Zb 10 .neq 7 9,Zm 5 10] (.cond (Zt 5) (Zs [Za 11 0 2,Zl 12 11,Za 13 0 3,Zl 14 13,Zb 15 .sub 12 14,Zm 4 15] .ret) (Zs [Za 17 1 2,Zl 18 17,Za 19 1 3,Zl 20 19,Zb 21 .neq 18 20,Zm 16 21] (.cond (Zt 16) (Zs [Za 22 1 2,Zl 23 22,Za 24 1 3,Zl 25 24,Zb 26 .sub 23 25,Zm 4 26] .ret) (Zs [Za 28 2 2,Zl 29 28,Za 30 2 3,Zl 31 30,Zb 32 .neq 29 31,Zm 27 32] (.cond (Zt 27) (Zs [Za 33 2 2,Zl 34 33,Za 35 2 3,Zl 36 35,Zb 37 .sub 34 36,Zm 4 37] .ret) .skip))))))) (Zs [Za 38 3 2,Zl 39 38,Za 40 3 3,Zl 41 40,Zb 42 .sub 39 41,Zm 4 42] .ret)))
theorem m190:bb Tryz.prog 190 2 A190 V85=true:=by kernel_rfl
def NS:aw:=(.cond (Zt 15) (Zs [Zo 2 (.mv (Zy false))] .ret) .skip)
def Kd:aw:=(.cond (Zt 41) (Zs [Zo 2 (.mv (Zy false))] .ret) .skip)
def ye:aw:=(.seq (Zs [Zm 16 3,Za 17 0 1,Zl 18 17,Zk 19 18,Zb 20 .lss 16 19] (.cond (Zt 20) .skip (.exit 0))) (.seq (.blk 1 (.seqr (.drw [Za 23 0 1,Zl 24 23,Zm 25 3,Zx 26 1 24 25,Zl 27 26,Zo 28 (.call 187 [(Zt 27)]),Zo 29 (.un .not (Zt 28)),Zm 30 29,Zg 31 (.fad 0 (Zt 1)) 30 false,Zg 32 (.load 1 false (Zt 31)) 30 false,Zg 33 (.fad 0 (Zt 1)) 30 false,Zg 34 (.load 1 false (Zt 33)) 30 false,Zg 35 (.mv (Zt 3)) 30 false,Zg 36 (.idx 1 (Zt 34) (Zt 35)) 30 false,Zg 37 (.load 1 false (Zt 36)) 30 false,Zg 38 (.call 188 [(Zt 32),(Zt 37)]) 30 false,Zg 39 (.mv (Zt 3)) 30 false,Zg 40 (.bin .neq (Zt 38) (Zt 39)) 30 false,Zo 41 (.pick (Zt 30) (Zy true) (Zt 40))] []) [1,3,41] [1] Kd)) (.reg [Zm 21 3,Zd 22 .add 21 1,Zm 3 22] [])))
def Gf:aw:=(.cond (Zt 77) (Zs [Zo 2 (.mv (Zy false))] .ret) .skip)
def yL:aw:=(.seq (Zs [Zm 42 4,Za 43 1 1,Zl 44 43,Zk 45 44,Zb 46 .lss 42 45] (.cond (Zt 46) .skip (.exit 2))) (.seq (.blk 3 (.seqr (.drw [Za 49 1 1,Zl 50 49,Zm 51 4,Zx 52 4 50 51,Zv 53 4 52,Za 54 0 1,Zl 55 54,Zk 56 55,Zo 57 (.call 189 [(Zt 53),(Zt 56)]),Zo 58 (.un .not (Zt 57)),Zm 59 58,Zg 60 (.mv (Zt 4)) 59 false,Zg 61 (.bin .gtr (Zt 60) (.c (.i 0))) 59 false,Zg 62 (.mv (Zt 61)) 59 false,Zg 63 (.fad 1 (Zt 1)) 62 true,Zg 64 (.load 1 false (Zt 63)) 62 true,Zg 65 (.mv (Zt 4)) 62 true,Zg 66 (.bin .sub (Zt 65) (.c (.i 1))) 62 true,Zg 67 (.idx 4 (Zt 64) (Zt 66)) 62 true,Zg 68 (.load 4 true (Zt 67)) 62 true,Zg 69 (.fad 1 (Zt 1)) 62 true,Zg 70 (.load 1 false (Zt 69)) 62 true,Zg 71 (.mv (Zt 4)) 62 true,Zg 72 (.idx 4 (Zt 70) (Zt 71)) 62 true,Zg 73 (.load 4 true (Zt 72)) 62 true,Zg 74 (.call 190 [(Zt 68),(Zt 73)]) 62 true,Zg 75 (.bin .gtr (Zt 74) (.c (.i 0))) 62 true,Zg 76 (.pick (Zt 62) (Zt 75) (Zy false)) 59 false,Zo 77 (.pick (Zt 59) (Zy true) (Zt 76))] []) [1,4,77] [1] Gf)) (.reg [Zm 47 4,Zd 48 .add 47 1,Zm 4 48] [])))
def Nf:aw:=(Zs [Zo 2 (.mv (Zy true))] .ret)
def Hb:aw:=(.seqa (.reg [Zn 4 0] []) (.blk 2 (.loop yL)) [] [] Nf)
def A138:aw:=(Zs [Zo 1 (.box 2 (Zt 0)),Zo 2 (.mv (Zy false))] (.seq (.seqr (.reg [Za 5 0 1,Zl 6 5,Zk 7 6,Zo 8 (.call 178 [(Zt 7),(.c (.i 2)),(.c (.i 8))]),Zo 9 (.un .not (Zt 8)),Zm 10 9,Zg 11 (.fad 1 (Zt 1)) 10 false,Zg 12 (.load 1 false (Zt 11)) 10 false,Zg 13 (.len (Zt 12)) 10 false,Zg 14 (.bin .gtr (Zt 13) (.c (.i 14))) 10 false,Zo 15 (.pick (Zt 10) (Zy true) (Zt 14))] []) [1,15] [1] NS) (.seqa (.reg [Zn 3 0] []) (.blk 0 (.loop ye)) [1] [1] Hb)))
theorem m138:bb Tryz.prog 138 1 A138 V91=true:=by kernel_rfl
def A246:aw:=(Zs [Zo 3 (.box 2 (Zt 0)),Zn 6 0] (Zs [Za 8 1 3,Zl 9 8,Zm 10 1,Zx 11 4 9 10,Zv 12 4 11,Zo 7 (.alloc (.agg [.i 0,.i 0,.i 0,.i 0])),Zw (.store 4 (Zt 7) (Zt 12))] (.seq (Zs [Zm 13 2] (.blk 0 (Zs [Za 15 0 7,Zl 16 15,Zb 17 .eql 13 16,Zm 14 17] (.cond (Zt 14) (Zs [Za 18 1 7,Zl 19 18,Zm 6 19] .ret) (Zs [Za 21 1 7,Zl 22 21,Zb 23 .eql 13 22,Zm 20 23] (.cond (Zt 20) (Zs [Za 24 0 7,Zl 25 24,Zm 6 25] .ret) .skip)))))) (Zs [Zn 6 (-1)] .ret))))
theorem m246:bb Tryz.prog 246 3 A246 eJ=true:=by kernel_rfl
def yh:aw:=(.seq (Zs [Zm 6 5,Zm 7 0,Zk 8 7,Zb 9 .lss 6 8] (.cond (Zt 9) .skip (.exit 0))) (.seq (.blk 1 (Zs [Zm 12 0,Zm 13 5,Zx 14 1 12 13,Zl 15 14,Zm 16 1,Zb 17 .eql 15 16] (.cond (Zt 17) (Zs [Zo 4 (.mv (Zy true))] .ret) .skip))) (.reg [Zm 10 5,Zd 11 .add 10 1,Zm 5 11] [])))
def OL:aw:=(Zs [Zo 4 (.mv (Zy false))] .ret)
def A144:aw:=(Zs [Zo 4 (.mv (Zy false))] (.seqa (.reg [Zn 5 0] []) (.blk 0 (.loop yh)) [] [] OL))
theorem m144:bb Tryz.prog 144 2 A144 V85=true:=by kernel_rfl
def LA:aw:=(.cond (Zt 25) (.seq (.reg [Zm 26 6,Zm 4 26,Zo 5 (.mv (Zy false))] [.s 4]) .ret) .skip)
def HC:aw:=(.cond (Zt 65) (.seq (.reg [Zm 66 6,Zm 4 66,Zo 5 (.mv (Zy false))] [.s 4]) .ret) .skip)
def zl:aw:=(.seq (Zs [Zm 27 7,Za 28 1 3,Zl 29 28,Zk 30 29,Zb 31 .lss 27 30] (.cond (Zt 31) .skip (.exit 0))) (.seq (.blk 1 (.seq (.seq (.drw [Za 34 1 3,Zl 35 34,Zm 36 7,Zx 37 1 35 36,Zl 38 37,Za 39 1 2,Zl 40 39,Zk 41 40,Zd 42 .sub 41 1,Zo 43 (.call 178 [(Zt 38),(.c (.i 0)),(Zt 42)]),Zo 44 (.un .not (Zt 43))] []) (.cond (Zt 44) (.seq (.reg [Zm 45 6,Zm 4 45,Zo 5 (.mv (Zy false))] [.s 4]) .ret) .skip)) (.seq (.drw [Zv 46 2 2,Za 47 1 3,Zl 48 47,Zm 49 7,Zx 50 1 48 49,Zl 51 50,Zm 52 6,Zm 53 6,Zk 54 53,Zd 55 .sub 54 1,Zx 56 1 52 55,Zl 57 56,Zo 58 (.call 246 [(Zt 46),(Zt 51),(Zt 57)]),Zm 8 58] []) (.seq (.seqr (.reg [Zm 59 8,Zd 60 .lss 59 0,Zm 61 60,Zg 62 (.mv (Zt 6)) 61 false,Zg 63 (.mv (Zt 8)) 61 false,Zg 64 (.call 144 [(Zt 62),(Zt 63)]) 61 false,Zo 65 (.pick (Zt 61) (Zy true) (Zt 64))] []) [2,3,6,7,8,65] [2,3,6] HC) (.reg [Zm 67 6,Zm 68 8,Zo 69 (.bsl 1 false [(Zt 68)]),Zo 70 (.app 1 8 true (Zt 67) (Zt 69)),Zm 6 70] [.s 6]))))) (.reg [Zm 32 7,Zd 33 .add 32 1,Zm 7 33] [])))
def LI:aw:=(.seq (.reg [Zm 71 6,Zm 4 71,Zo 5 (.mv (Zy true))] [.s 4]) .ret)
def A220:aw:=(.seq (.reg [Zo 2 (.box 2 (Zt 0)),Zo 3 (.box 2 (Zt 1)),Zo 4 (.mv (.c (.lst .u 1 []))),Zo 5 (.mv (Zy false))] [.s 4]) (.seq (.reg [Za 9 0 3,Zl 10 9,Zo 11 (.bsl 1 false [(Zt 10)]),Zm 6 11] [.s 6]) (.seq (.seqr (.reg [Za 12 0 3,Zl 13 12,Za 14 0 2,Zl 15 14,Zk 16 15,Zd 17 .sub 16 1,Zo 18 (.call 178 [(Zt 13),(.c (.i 0)),(Zt 17)]),Zo 19 (.un .not (Zt 18)),Zm 20 19,Zg 21 (.fad 1 (Zt 3)) 20 false,Zg 22 (.load 1 false (Zt 21)) 20 false,Zg 23 (.len (Zt 22)) 20 false,Zg 24 (.bin .eql (Zt 23) (.c (.i 0))) 20 false,Zo 25 (.pick (Zt 20) (Zy true) (Zt 24))] []) [2,3,6,25] [2,3,6] LA) (.seqa (.reg [Zn 7 0] []) (.blk 0 (.loop zl)) [6] [6] LI))))
def mH:List RV:=[.t 4,.t 5]
theorem m220:bb Tryz.prog 220 2 A220 mH=true:=by kernel_rfl
def A191:aw:=(Zs [Zo 2 (.box 2 (Zt 0)),Zo 3 (.box 2 (Zt 1)),Zo 4 (.mv (Zy false))] (.seq (Zs [Zv 7 2 2,Zo 8 (.call 138 [(Zt 7)]),Zo 9 (.un .not (Zt 8))] (.cond (Zt 9) (Zs [Zo 4 (.mv (Zy false))] .ret) .skip)) (.seq (.reg [Zv 11 2 2,Zv 12 2 3,Zo 13 (.call 220 [(Zt 11),(Zt 12)]),Zm 10 13,Ze 14 10 0,Ze 15 10 1,Zm 5 14,Zm 6 15] [.s 5]) (Zs [Zm 16 6,Zm 4 16] .ret))))
theorem m191:bb Tryz.prog 191 2 A191 V85=true:=by kernel_rfl
def A192:aw:=(Zs [Zo 1 (.box 2 (Zt 0)),Zo 2 (.mv (Zy false))] (Zs [Za 3 0 1,Zl 4 3,Zo 5 (.call 178 [(Zt 4),(.c (.i 0)),(.c (.i 23))]),Zm 6 5,Zg 7 (.fad 1 (Zt 1)) 6 true,Zg 8 (.load 1 false (Zt 7)) 6 true,Zg 9 (.fad 0 (Zt 1)) 6 true,Zg 10 (.load 1 false (Zt 9)) 6 true,Zg 11 (.bin .sub (.c (.i 24)) (Zt 10)) 6 true,Zg 12 (.call 178 [(Zt 8),(.c (.i 1)),(Zt 11)]) 6 true,Zo 13 (.pick (Zt 6) (Zt 12) (Zy false)),Zm 2 13] .ret))
theorem m192:bb Tryz.prog 192 1 A192 V91=true:=by kernel_rfl
def A139:aw:=(Zs [Zo 2 (.box 2 (Zt 0)),Zo 3 (.box 5 (Zt 1)),Zo 4 (.mv (Zy false))] (Zs [Za 5 0 3,Zl 6 5,Zo 7 (.call 178 [(Zt 6),(.c (.i 1)),(.c (.i 999))]),Zm 8 7,Zg 9 (.load 2 true (Zt 2)) 8 true,Zg 10 (.fad 1 (Zt 3)) 8 true,Zg 11 (.load 2 true (Zt 10)) 8 true,Zg 12 (.call 191 [(Zt 9),(Zt 11)]) 8 true,Zo 13 (.pick (Zt 8) (Zt 12) (Zy false)),Zm 14 13,Zg 15 (.fad 3 (Zt 3)) 14 true,Zg 16 (.load 2 true (Zt 15)) 14 true,Zg 17 (.call 192 [(Zt 16)]) 14 true,Zo 18 (.pick (Zt 14) (Zt 17) (Zy false)),Zm 4 18] .ret))
theorem m139:bb Tryz.prog 139 2 A139 V85=true:=by kernel_rfl
def zS:aw:=(.seq (Zs [Zm 6 5,Za 7 1 2,Zl 8 7,Zk 9 8,Zb 10 .lss 6 9] (.cond (Zt 10) .skip (.exit 0))) (.seq (.blk 1 (Zs [Zm 13 1,Za 14 1 2,Zl 15 14,Zm 16 5,Zx 17 1 15 16,Zl 18 17,Zo 19 (.call 144 [(Zt 13),(Zt 18)])] (.cond (Zt 19) (Zs [Zo 4 (.mv (Zy true))] .ret) .skip))) (.reg [Zm 11 5,Zd 12 .add 11 1,Zm 5 12] [])))
def Jt:aw:=(Zs [Zo 4 (.mv (Zy false))] .ret)
def A125:aw:=(Zs [Zo 2 (.box 2 (Zt 0)),Zo 4 (.mv (Zy false))] (.seqa (.reg [Zn 5 0] []) (.blk 0 (.loop zS)) [] [] Jt))
theorem m125:bb Tryz.prog 125 2 A125 V85=true:=by kernel_rfl
def A167:aw:=(Zs [Zo 1 (.box 2 (Zt 0)),Zn 2 0] (Zs [Za 3 1 1,Zl 4 3,Zo 5 (.conv .u64 (Zt 4)),Zo 6 (.bin .shl (.c (.i 1)) (Zt 5)),Zd 7 .sub 6 1,Za 8 0 1,Zl 9 8,Zo 10 (.conv .u64 (Zt 9)),Zb 11 .shl 7 10,Zm 2 11] .ret))
theorem m167:bb Tryz.prog 167 1 A167 V91=true:=by kernel_rfl
def A140:aw:=(Zs [Zo 2 (.box 5 (Zt 0)),Zo 3 (.box 5 (Zt 1)),Zo 4 (.mv (Zy false))] (.seq (.drw [Za 5 1 2,Zv 6 2 5,Za 7 1 3,Za 8 1 7,Zl 9 8,Zo 10 (.call 125 [(Zt 6),(Zt 9)]),Zm 11 10,Zg 12 (.fad 3 (Zt 2)) 11 true,Zg 13 (.load 2 true (Zt 12)) 11 true,Zg 14 (.call 167 [(Zt 13)]) 11 true,Zg 15 (.fad 3 (Zt 3)) 11 true,Zg 16 (.load 2 true (Zt 15)) 11 true,Zg 17 (.call 167 [(Zt 16)]) 11 true,Zg 18 (.bin .and (Zt 14) (Zt 17)) 11 true,Zg 19 (.bin .neq (Zt 18) (.c (.i 0))) 11 true,Zo 20 (.pick (Zt 11) (Zt 19) (Zy false)),Zm 4 20] []) .ret))
theorem m140:bb Tryz.prog 140 2 A140 V85=true:=by kernel_rfl
def TD:aw:=(.cond (Zt 14) (Zs [Zo 2 (.mv (Zy false))] .ret) .skip)
def Ul:aw:=(.cond (Zt 50) (Zs [Zo 2 (.mv (Zy false))] .ret) .skip)
def La:aw:=(.seq (Zs [Zm 51 4,Zm 52 3,Zb 53 .lss 51 52] (.cond (Zt 53) .skip (.exit 2))) (.seq (.blk 3 (.seq (.drw [Za 56 2 1,Zl 57 56,Zm 58 4,Zx 59 5 57 58,Zv 60 5 59,Za 61 2 1,Zl 62 61,Zm 63 3,Zx 64 5 62 63,Zv 65 5 64,Zo 66 (.call 140 [(Zt 60),(Zt 65)])] []) (.cond (Zt 66) (Zs [Zo 2 (.mv (Zy false))] .ret) .skip))) (.reg [Zm 54 4,Zd 55 .add 54 1,Zm 4 55] [])))
def Um:aw:=(.reg [Zm 20 3,Zd 21 .add 20 1,Zm 3 21] [])
def JM:aw:=(.seq (Zs [Zm 15 3,Za 16 2 1,Zl 17 16,Zk 18 17,Zb 19 .lss 15 18] (.cond (Zt 19) .skip (.exit 0))) (.seqr (.blk 1 (.seq (.seqr (.drw [Za 22 0 1,Zv 23 2 22,Za 24 2 1,Zl 25 24,Zm 26 3,Zx 27 5 25 26,Zv 28 5 27,Zo 29 (.call 139 [(Zt 23),(Zt 28)]),Zo 30 (.un .not (Zt 29)),Zm 31 30,Zg 32 (.mv (Zt 3)) 31 false,Zg 33 (.bin .gtr (Zt 32) (.c (.i 0))) 31 false,Zg 34 (.mv (Zt 33)) 31 false,Zg 35 (.fad 2 (Zt 1)) 34 true,Zg 36 (.load 1 false (Zt 35)) 34 true,Zg 37 (.mv (Zt 3)) 34 true,Zg 38 (.bin .sub (Zt 37) (.c (.i 1))) 34 true,Zg 39 (.idx 5 (Zt 36) (Zt 38)) 34 true,Zg 40 (.fad 0 (Zt 39)) 34 true,Zg 41 (.load 1 false (Zt 40)) 34 true,Zg 42 (.fad 2 (Zt 1)) 34 true,Zg 43 (.load 1 false (Zt 42)) 34 true,Zg 44 (.mv (Zt 3)) 34 true,Zg 45 (.idx 5 (Zt 43) (Zt 44)) 34 true,Zg 46 (.fad 0 (Zt 45)) 34 true,Zg 47 (.load 1 false (Zt 46)) 34 true,Zg 48 (.bin .geq (Zt 41) (Zt 47)) 34 true,Zg 49 (.pick (Zt 34) (Zt 48) (Zy false)) 31 false,Zo 50 (.pick (Zt 31) (Zy true) (Zt 49))] []) [1,3,50] [1] Ul) (Zs [Zn 4 0] (.blk 2 (.loop La))))) [1,3] [1] Um))
def TU:aw:=(Zs [Zo 2 (.mv (Zy true))] .ret)
def A74:aw:=(Zs [Zo 1 (.box 3 (Zt 0)),Zo 2 (.mv (Zy false))] (.seq (.seqr (.reg [Za 5 0 1,Zv 6 2 5,Zo 7 (.call 138 [(Zt 6)]),Zo 8 (.un .not (Zt 7)),Zm 9 8,Zg 10 (.fad 2 (Zt 1)) 9 false,Zg 11 (.load 1 false (Zt 10)) 9 false,Zg 12 (.len (Zt 11)) 9 false,Zg 13 (.bin .gtr (Zt 12) (.c (.i 12))) 9 false,Zo 14 (.pick (Zt 9) (Zy true) (Zt 13))] []) [1,14] [1] TD) (.seqa (.reg [Zn 3 0] []) (.blk 0 (.loop JM)) [] [] TU)))
theorem m74:bb Tryz.prog 74 1 A74 V91=true:=by kernel_rfl
def Ge:aw:=(.cond (Zt 37) (Zs [Zo 6 (.mv (Zy false))] .ret) .skip)
def zF:aw:=(.seq (Zs [Zm 8 7,Zm 9 0,Zk 10 9,Zb 11 .lss 8 10] (.cond (Zt 11) .skip (.exit 0))) (.seq (.blk 1 (.seqr (.drw [Zm 14 0,Zm 15 7,Zx 16 1 14 15,Zl 17 16,Zm 18 1,Zm 19 2,Zo 20 (.call 178 [(Zt 17),(Zt 18),(Zt 19)]),Zo 21 (.un .not (Zt 20)),Zm 22 21,Zg 23 (.mv (Zt 7)) 22 false,Zg 24 (.bin .gtr (Zt 23) (.c (.i 0))) 22 false,Zg 25 (.mv (Zt 24)) 22 false,Zg 26 (.mv (Zt 0)) 25 true,Zg 27 (.mv (Zt 7)) 25 true,Zg 28 (.bin .sub (Zt 27) (.c (.i 1))) 25 true,Zg 29 (.idx 1 (Zt 26) (Zt 28)) 25 true,Zg 30 (.load 1 false (Zt 29)) 25 true,Zg 31 (.mv (Zt 0)) 25 true,Zg 32 (.mv (Zt 7)) 25 true,Zg 33 (.idx 1 (Zt 31) (Zt 32)) 25 true,Zg 34 (.load 1 false (Zt 33)) 25 true,Zg 35 (.bin .geq (Zt 30) (Zt 34)) 25 true,Zg 36 (.pick (Zt 25) (Zt 35) (Zy false)) 22 false,Zo 37 (.pick (Zt 22) (Zy true) (Zt 36))] []) [0,1,2,7,37] [] Ge)) (.reg [Zm 12 7,Zd 13 .add 12 1,Zm 7 13] [])))
def Kq:aw:=(Zs [Zo 6 (.mv (Zy true))] .ret)
def A121:aw:=(Zs [Zo 6 (.mv (Zy false))] (.seqa (.reg [Zn 7 0] []) (.blk 0 (.loop zF)) [] [] Kq))
theorem m121:bb Tryz.prog 121 3 A121 eJ=true:=by kernel_rfl
def xT:aw:=(.seq (Zs [Zm 6 5,Zm 7 0,Zk 8 7,Zb 9 .lss 6 8] (.cond (Zt 9) .skip (.exit 0))) (.seq (.blk 1 (Zs [Zm 12 0,Zm 13 5,Zx 14 5 12 13,Za 15 0 14,Zl 16 15,Zm 17 1,Zb 18 .eql 16 17] (.cond (Zt 18) (Zs [Zm 19 5,Zm 4 19] .ret) .skip))) (.reg [Zm 10 5,Zd 11 .add 10 1,Zm 5 11] [])))
def LW:aw:=(Zs [Zn 4 (-1)] .ret)
def A115:aw:=(Zs [Zn 4 0] (.seqa (.reg [Zn 5 0] []) (.blk 0 (.loop xT)) [] [] LW))
theorem m115:bb Tryz.prog 115 2 A115 V85=true:=by kernel_rfl
def A179:aw:=(.seq (.reg [Zo 2 (.box 2 (Zt 0)),Zo 3 (.box 2 (Zt 1)),Zo 4 (.mv (.c (.lst .u 1 [])))] [.s 4]) (.seq (.reg [Zv 8 2 2,Zv 9 2 3,Zo 10 (.call 220 [(Zt 8),(Zt 9)]),Zm 7 10,Ze 11 7 0,Ze 12 7 1,Zm 5 11,Zm 6 12] [.s 5]) (.seq (.reg [Zm 13 5,Zm 4 13] [.s 4]) .ret)))
theorem m179:bb Tryz.prog 179 2 A179 V85=true:=by kernel_rfl
def A126:aw:=(Zs [Zo 2 (.box 2 (Zt 0)),Zo 3 (.box 2 (Zt 1)),Zn 4 0] (.seq (.reg [Zv 6 2 2,Zv 7 2 3,Zo 8 (.call 179 [(Zt 6),(Zt 7)]),Zm 5 8] [.s 5]) (Zs [Zm 9 5,Zm 10 5,Zk 11 10,Zd 12 .sub 11 1,Zx 13 1 9 12,Zl 14 13,Zm 4 14] .ret)))
theorem m126:bb Tryz.prog 126 2 A126 V85=true:=by kernel_rfl
def TA:aw:=(.cond (Zt 32) (Zs [Zo 2 (.mv (Zy false))] .ret) .skip)
def TP:aw:=(.cond (Zt 60) (Zs [Zo 2 (.mv (Zy false))] .ret) .skip)
def Tf:aw:=(.cond (Zt 92) (Zs [Zo 2 (.mv (Zy false))] .ret) .skip)
def MJ:aw:=(.seq (Zs [Zm 33 4,Za 34 0 1,Za 35 2 34,Zl 36 35,Zk 37 36,Zb 38 .lss 33 37] (.cond (Zt 38) .skip (.exit 0))) (.seq (.blk 1 (Zs [Za 41 0 1,Za 42 2 41,Zl 43 42,Zm 44 4,Zx 45 5 43 44,Zv 46 5 45,Zo 5 (.alloc (.agg [.i 0,.i 0,.lst .u 1 [],.i 0,.i 0])),Zw (.store 5 (Zt 5) (Zt 46))] (Zs [Za 47 3 1,Zl 48 47,Za 49 0 5,Zl 50 49,Zo 51 (.call 115 [(Zt 48),(Zt 50)]),Zm 6 51] (.seq (.seqr (.reg [Zm 52 6,Zd 53 .lss 52 0,Zm 54 53,Zg 55 (.fad 1 (Zt 5)) 54 false,Zg 56 (.load 2 true (Zt 55)) 54 false,Zg 57 (.fad 4 (Zt 1)) 54 false,Zg 58 (.load 1 false (Zt 57)) 54 false,Zg 59 (.call 125 [(Zt 56),(Zt 58)]) 54 false,Zo 60 (.pick (Zt 54) (Zy true) (Zt 59))] []) [1,3,4,5,6,60] [1,3,5] TP) (Zs [Za 61 3 1,Zl 62 61,Zm 63 6,Zx 64 5 62 63,Zv 65 5 64,Zo 7 (.alloc (.agg [.i 0,.i 0,.lst .u 1 [],.i 0,.i 0])),Zw (.store 5 (Zt 7) (Zt 65))] (.seqr (.drw [Za 66 1 5,Za 67 0 66,Zl 68 67,Za 69 1 7,Za 70 0 69,Zl 71 70,Zb 72 .neq 68 71,Zm 73 72,Zg 74 (.load 2 true (Zt 3)) 73 false,Zg 75 (.fad 1 (Zt 5)) 73 false,Zg 76 (.load 2 true (Zt 75)) 73 false,Zg 77 (.call 126 [(Zt 74),(Zt 76)]) 73 false,Zg 78 (.load 2 true (Zt 3)) 73 false,Zg 79 (.fad 1 (Zt 7)) 73 false,Zg 80 (.load 2 true (Zt 79)) 73 false,Zg 81 (.call 126 [(Zt 78),(Zt 80)]) 73 false,Zg 82 (.bin .neq (Zt 77) (Zt 81)) 73 false,Zo 83 (.pick (Zt 73) (Zy true) (Zt 82)),Zm 84 83,Zg 85 (.fad 3 (Zt 5)) 84 false,Zg 86 (.fad 1 (Zt 85)) 84 false,Zg 87 (.load 1 false (Zt 86)) 84 false,Zg 88 (.fad 3 (Zt 7)) 84 false,Zg 89 (.fad 1 (Zt 88)) 84 false,Zg 90 (.load 1 false (Zt 89)) 84 false,Zg 91 (.bin .neq (Zt 87) (Zt 90)) 84 false,Zo 92 (.pick (Zt 84) (Zy true) (Zt 91))] []) [1,3,4,92] [1,3] Tf)))))) (.reg [Zm 39 4,Zd 40 .add 39 1,Zm 4 40] [])))
def TV:aw:=(Zs [Zo 2 (.mv (Zy true))] .ret)
def A61:aw:=(Zs [Zo 1 (.box 5 (Zt 0)),Zo 2 (.mv (Zy false))] (Zs [Za 8 0 1,Za 9 0 8,Zv 10 2 9,Zo 3 (.alloc (.agg [.lst .u 1 [],.lst .u 4 []])),Zw (.store 2 (Zt 3) (Zt 10))] (.seq (.seqr (.reg [Za 11 0 1,Zv 12 3 11,Zo 13 (.call 74 [(Zt 12)]),Zo 14 (.un .not (Zt 13)),Zm 15 14,Zg 16 (.load 2 true (Zt 3)) 15 false,Zg 17 (.fad 3 (Zt 1)) 15 false,Zg 18 (.load 1 false (Zt 17)) 15 false,Zg 19 (.build [.lst .u 1 [],.lst .u 4 [],.lst .u 5 []] [(0,2,(Zt 16)),(2,1,(Zt 18))]) 15 false,Zg 20 (.call 74 [(Zt 19)]) 15 false,Zg 21 (.un .not (Zt 20)) 15 false,Zo 22 (.pick (Zt 15) (Zy true) (Zt 21)),Zm 23 22,Zg 24 (.fad 4 (Zt 1)) 23 false,Zg 25 (.load 1 false (Zt 24)) 23 false,Zg 26 (.fad 1 (Zt 3)) 23 false,Zg 27 (.load 1 false (Zt 26)) 23 false,Zg 28 (.len (Zt 27)) 23 false,Zg 29 (.bin .sub (Zt 28) (.c (.i 1))) 23 false,Zg 30 (.call 121 [(Zt 25),(.c (.i 0)),(Zt 29)]) 23 false,Zg 31 (.un .not (Zt 30)) 23 false,Zo 32 (.pick (Zt 23) (Zy true) (Zt 31))] []) [1,3,32] [1,3] TA) (.seqa (.reg [Zn 4 0] []) (.blk 0 (.loop MJ)) [] [] TV))))
theorem m61:bb Tryz.prog 61 1 A61 V91=true:=by kernel_rfl
def A89:aw:=(Zs [Zo 1 (.box 2 (Zt 0)),Zo 2 (.alloc (.agg [.lst .u 1 [],.lst .u 4 []]))] (.seq (.drw [Zo 3 (.bsl 1 true []),Za 4 0 1,Zl 5 4,Zo 6 (.app 1 16 false (Zt 3) (Zt 5)),Zo 7 (.bsl 4 true []),Za 8 1 1,Zl 9 8,Zo 10 (.app 4 32 false (Zt 7) (Zt 9)),Zo 11 (.build [.lst .u 1 [],.lst .u 4 []] [(0,1,(Zt 6)),(1,1,(Zt 10))]),Zw (.store 2 (Zt 2) (Zt 11))] []) .ret))
theorem m89:bb Tryz.prog 89 1 A89 V37=true:=by kernel_rfl
def A194:aw:=(.seq (.reg [Zo 2 (.mv (.c (.lst .u 1 [])))] [.s 2]) (.seq (.reg [Zo 3 (.bsl 1 false []),Zm 4 0,Zo 5 (.app 1 8 false (Zt 3) (Zt 4)),Zm 2 5] [.s 2]) .ret))
theorem m194:bb Tryz.prog 194 1 A194 V91=true:=by kernel_rfl
def A193:aw:=(Zs [Zo 1 (.box 2 (Zt 0)),Zo 2 (.alloc (.agg [.i 0,.lst .u 1 []]))] (.seq (.drw [Za 3 0 1,Zl 4 3,Za 5 1 1,Zl 6 5,Zo 7 (.call 194 [(Zt 6)]),Zo 8 (.build [.i 0,.lst .u 1 []] [(0,1,(Zt 4)),(1,1,(Zt 7))]),Zw (.store 2 (Zt 2) (Zt 8))] []) .ret))
theorem m193:bb Tryz.prog 193 1 A193 V37=true:=by kernel_rfl
def A141:aw:=(Zs [Zo 1 (.box 5 (Zt 0)),Zo 2 (.alloc (.agg [.i 0,.i 0,.lst .u 1 [],.i 0,.i 0]))] (.seq (.drw [Za 3 0 1,Zl 4 3,Za 5 1 1,Zv 6 2 5,Zo 7 (.call 193 [(Zt 6)]),Za 8 3 1,Zv 9 2 8,Zo 10 (.build [.i 0,.i 0,.lst .u 1 [],.i 0,.i 0] [(0,1,(Zt 4)),(1,2,(Zt 7)),(3,2,(Zt 9))]),Zw (.store 5 (Zt 2) (Zt 10))] []) .ret))
theorem m141:bb Tryz.prog 141 1 A141 lZ=true:=by kernel_rfl
def Nd:aw:=(.seq (Zs [Zm 9 4,Za 10 2 1,Zl 11 10,Zk 12 11,Zb 13 .lss 9 12] (.cond (Zt 13) .skip (.exit 0))) (.seq (.blk 1 (.drw [Zo 16 (.fdv [] 2 (Zt 3)),Zo 17 (.ldv [] 1 false (Zt 16)),Za 18 2 1,Zl 19 18,Zm 20 4,Zx 21 5 19 20,Zv 22 5 21,Zo 23 (.call 141 [(Zt 22)]),Zo 24 (.bsm 5 [(Zt 23)]),Zo 25 (.app 5 56 true (Zt 17) (Zt 24)),Za 26 2 3,Zw (.store 1 (Zt 26) (Zt 25))] [.f false 500000194 3 2])) (.reg [Zm 14 4,Zd 15 .add 14 1,Zm 4 15] [])))
def Ui:aw:=(.seq (.reg [Zv 27 3 3,Zw (.store 3 (Zt 2) (Zt 27))] [.f false 500000128 2 0,.f false 500000129 2 1,.f false 500000130 2 2]) .ret)
def A75:aw:=(Zs [Zo 1 (.box 3 (Zt 0)),Zo 2 (.alloc (.agg [.lst .u 1 [],.lst .u 4 [],.lst .u 5 []]))] (.seq (.reg [Za 5 0 1,Zv 6 2 5,Zo 7 (.call 89 [(Zt 6)]),Zo 8 (.build [.lst .u 1 [],.lst .u 4 [],.lst .u 5 []] [(0,2,(Zt 7))]),Zo 3 (.alloc (.agg [.lst .u 1 [],.lst .u 4 [],.lst .u 5 []])),Zw (.store 3 (Zt 3) (Zt 8))] [.f false 500000192 3 0,.f false 500000193 3 1,.f false 500000194 3 2]) (.seqa (.reg [Zn 4 0] []) (.blk 0 (.loop Nd)) [2,3] [2,3,500000192,500000193,500000194] Ui)))
theorem m75:bb Tryz.prog 75 1 A75 V26=true:=by kernel_rfl
def LN:aw:=(.seq (Zs [Zm 6 4,Zm 7 0,Zk 8 7,Zb 9 .lss 6 8] (.cond (Zt 9) .skip (.exit 0))) (.seq (.blk 1 (.reg [Zm 12 3,Zm 13 0,Zm 14 4,Zx 15 5 13 14,Zv 16 5 15,Zo 17 (.call 141 [(Zt 16)]),Zo 18 (.bsl 5 false [(Zt 17)]),Zo 19 (.app 5 56 true (Zt 12) (Zt 18)),Zm 3 19] [.s 3])) (.reg [Zm 10 4,Zd 11 .add 10 1,Zm 4 11] [])))
def TK:aw:=(.seq (.reg [Zm 20 3,Zm 2 20] [.s 2]) .ret)
def A76:aw:=(.seq (.reg [Zo 2 (.mv (.c (.lst .u 5 [])))] [.s 2]) (.seq (.reg [Zo 5 (.bsl 5 false []),Zm 3 5] [.s 3]) (.seqa (.reg [Zn 4 0] []) (.blk 0 (.loop LN)) [3] [3] TK)))
theorem m76:bb Tryz.prog 76 1 A76 V91=true:=by kernel_rfl
def A143:aw:=(Zs [Zo 1 (.box 5 (Zt 0)),Zo 2 (.alloc (.agg [.lst .u 1 [],.lst .u 4 [],.lst .u 5 [],.lst .u 5 [],.lst .u 1 []]))] (.seq (.drw [Za 3 0 1,Zv 4 3 3,Zo 5 (.call 75 [(Zt 4)]),Za 6 3 1,Zl 7 6,Zo 8 (.call 76 [(Zt 7)]),Za 9 4 1,Zl 10 9,Zo 11 (.call 194 [(Zt 10)]),Zo 12 (.build [.lst .u 1 [],.lst .u 4 [],.lst .u 5 [],.lst .u 5 [],.lst .u 1 []] [(0,3,(Zt 5)),(3,1,(Zt 8)),(4,1,(Zt 11))]),Zw (.store 5 (Zt 2) (Zt 12))] []) .ret))
theorem m143:bb Tryz.prog 143 1 A143 lZ=true:=by kernel_rfl
def zN:aw:=(.seq (Zs [Zm 6 5,Za 7 2 2,Zl 8 7,Zk 9 8,Zb 10 .lss 6 9] (.cond (Zt 10) .skip (.exit 0))) (.seq (.blk 1 (Zs [Za 13 2 2,Zl 14 13,Zm 15 5,Zx 16 5 14 15,Za 17 0 16,Zl 18 17,Zm 19 1,Zb 20 .eql 18 19] (.cond (Zt 20) (Zs [Zm 21 5,Zm 4 21] .ret) .skip))) (.reg [Zm 11 5,Zd 12 .add 11 1,Zm 5 12] [])))
def Je:aw:=(Zs [Zn 4 (-1)] .ret)
def A116:aw:=(Zs [Zo 2 (.box 3 (Zt 0)),Zn 4 0] (.seqa (.reg [Zn 5 0] []) (.blk 0 (.loop zN)) [] [] Je))
theorem m116:bb Tryz.prog 116 2 A116 V85=true:=by kernel_rfl
def Iu:aw:=(.seq (Zs [Zm 6 4,Za 7 3 1,Zl 8 7,Zk 9 8,Zb 10 .lss 6 9] (.cond (Zt 10) .skip (.exit 0))) (.seq (.blk 1 (.seq (.drw [Za 13 0 1,Zv 14 3 13,Za 15 3 1,Zl 16 15,Zm 17 4,Zx 18 5 16 17,Za 19 0 18,Zl 20 19,Zo 21 (.call 116 [(Zt 14),(Zt 20)]),Zd 22 .lss 21 0] []) (.cond (Zt 22) (.reg [Zm 23 3,Zm 24 4,Zo 25 (.bsl 1 false [(Zt 24)]),Zo 26 (.app 1 8 true (Zt 23) (Zt 25)),Zm 3 26] [.s 3]) .skip))) (.reg [Zm 11 4,Zd 12 .add 11 1,Zm 4 12] [])))
def Uj:aw:=(.seq (.reg [Zm 27 3,Zm 2 27] [.s 2]) .ret)
def A71:aw:=(.seq (.reg [Zo 1 (.box 5 (Zt 0)),Zo 2 (.mv (.c (.lst .u 1 [])))] [.s 2]) (.seq (.reg [Zo 5 (.bsl 1 false []),Zm 3 5] [.s 3]) (.seqa (.reg [Zn 4 0] []) (.blk 0 (.loop Iu)) [3] [3] Uj)))
theorem m71:bb Tryz.prog 71 1 A71 V91=true:=by kernel_rfl
def Ai:aw:=(.seq (Zs [Zm 7 6,Za 8 2 2,Zl 9 8,Zk 10 9,Zb 11 .lss 7 10] (.cond (Zt 11) .skip (.exit 0))) (.seq (.blk 1 (Zs [Za 14 2 2,Zl 15 14,Zm 16 6,Zx 17 5 15 16,Za 18 1 17,Za 19 1 18,Zl 20 19,Zm 21 1,Zo 22 (.call 144 [(Zt 20),(Zt 21)])] (.cond (Zt 22) (.reg [Zm 23 5,Za 24 2 2,Zl 25 24,Zm 26 6,Zx 27 5 25 26,Za 28 3 27,Zv 29 2 28,Zo 30 (.call 167 [(Zt 29)]),Zb 31 .or 23 30,Zm 5 31] []) .skip))) (.reg [Zm 12 6,Zd 13 .add 12 1,Zm 6 13] [])))
def Mj:aw:=(Zs [Zm 32 5,Zm 4 32] .ret)
def A200:aw:=(Zs [Zo 2 (.box 3 (Zt 0)),Zn 4 0] (Zs [Zn 5 0] (.seqa (.reg [Zn 6 0] []) (.blk 0 (.loop Ai)) [5] [] Mj)))
theorem m200:bb Tryz.prog 200 2 A200 V85=true:=by kernel_rfl
def yp:aw:=(.seq (Zs [Zm 7 6,Za 8 1 3,Zl 9 8,Zk 10 9,Zb 11 .lss 7 10] (.cond (Zt 11) .skip (.exit 0))) (.seq (.blk 1 (.drw [Zm 14 5,Zv 15 3 2,Za 16 1 3,Zl 17 16,Zm 18 6,Zx 19 1 17 18,Zl 20 19,Zo 21 (.call 200 [(Zt 15),(Zt 20)]),Zb 22 .or 14 21,Zm 5 22] [])) (.reg [Zm 12 6,Zd 13 .add 12 1,Zm 6 13] [])))
def GL:aw:=(Zs [Zm 23 5,Zm 4 23] .ret)
def A166:aw:=(Zs [Zo 2 (.box 3 (Zt 0)),Zo 3 (.box 2 (Zt 1)),Zn 4 0] (Zs [Zn 5 0] (.seqa (.reg [Zn 6 0] []) (.blk 0 (.loop yp)) [5] [] GL)))
theorem m166:bb Tryz.prog 166 2 A166 V85=true:=by kernel_rfl
def A234:aw:=(Zs [Zo 3 (.box 2 (Zt 0)),Zo 6 (.mv (Zy false))] (Zs [Zv 7 2 3,Zo 8 (.call 138 [(Zt 7)]),Zm 9 8,Zg 10 (.mv (Zt 1)) 9 true,Zg 11 (.fad 0 (Zt 3)) 9 true,Zg 12 (.load 1 false (Zt 11)) 9 true,Zg 13 (.len (Zt 12)) 9 true,Zg 14 (.bin .sub (Zt 13) (.c (.i 1))) 9 true,Zg 15 (.call 178 [(Zt 10),(.c (.i 0)),(Zt 14)]) 9 true,Zo 16 (.pick (Zt 9) (Zt 15) (Zy false)),Zm 17 16,Zg 18 (.mv (Zt 2)) 17 true,Zg 19 (.fad 0 (Zt 3)) 17 true,Zg 20 (.load 1 false (Zt 19)) 17 true,Zg 21 (.len (Zt 20)) 17 true,Zg 22 (.bin .sub (Zt 21) (.c (.i 1))) 17 true,Zg 23 (.call 178 [(Zt 18),(.c (.i 0)),(Zt 22)]) 17 true,Zo 24 (.pick (Zt 17) (Zt 23) (Zy false)),Zm 25 24,Zg 26 (.mv (Zt 1)) 25 true,Zg 27 (.mv (Zt 2)) 25 true,Zg 28 (.bin .neq (Zt 26) (Zt 27)) 25 true,Zo 29 (.pick (Zt 25) (Zt 28) (Zy false)),Zm 6 29] .ret))
theorem m234:bb Tryz.prog 234 3 A234 eJ=true:=by kernel_rfl
def xw:aw:=(.seq (Zs [Zm 7 6,Za 8 1 3,Zl 9 8,Zk 10 9,Zb 11 .lss 7 10] (.cond (Zt 11) .skip (.exit 0))) (.seq (.blk 1 (.drw [Zm 14 5,Za 15 1 2,Zl 16 15,Za 17 1 3,Zl 18 17,Zm 19 6,Zx 20 1 18 19,Zl 21 20,Zx 22 4 16 21,Za 23 2 22,Zl 24 23,Zb 25 .add 14 24,Zm 5 25] [])) (.reg [Zm 12 6,Zd 13 .add 12 1,Zm 6 13] [])))
def Oi:aw:=(Zs [Zm 26 5,Zm 4 26] .ret)
def A271:aw:=(Zs [Zo 2 (.box 2 (Zt 0)),Zo 3 (.box 2 (Zt 1)),Zn 4 0] (Zs [Zn 5 0] (.seqa (.reg [Zn 6 0] []) (.blk 0 (.loop xw)) [5] [] Oi)))
theorem m271:bb Tryz.prog 271 2 A271 V85=true:=by kernel_rfl
def A272:aw:=(Zs [Zn 2 0] (.seq (.blk 0 (Zs [Zm 4 0,Zd 5 .lss 4 0,Zm 3 5] (.cond (Zt 3) (Zs [Zn 2 (-1)] .ret) (Zs [Zm 7 0,Zd 8 .gtr 7 0,Zm 6 8] (.cond (Zt 6) (Zs [Zn 2 1] .ret) .skip))))) (Zs [Zn 2 0] .ret)))
theorem m272:bb Tryz.prog 272 1 A272 V91=true:=by kernel_rfl
def zP:aw:=(.seq (Zs [Zm 32 9,Za 33 1 4,Zl 34 33,Zk 35 34,Zb 36 .lss 32 35] (.cond (Zt 36) .skip (.exit 0))) (.seq (.blk 1 (.seq (.drw [Za 39 1 4,Zl 40 39,Zm 41 9,Zx 42 1 40 41,Zl 43 42,Za 44 1 5,Zl 45 44,Zm 46 9,Zx 47 1 45 46,Zl 48 47,Zb 49 .neq 43 48] []) (.cond (Zt 49) (.seq (.drw [Za 50 1 4,Zl 51 50,Zm 52 9,Zx 53 1 51 52,Zl 54 53,Za 55 1 5,Zl 56 55,Zm 57 9,Zx 58 1 56 57,Zl 59 58,Zb 60 .sub 54 59,Zo 61 (.call 272 [(Zt 60)]),Zm 6 61] []) .ret) .skip))) (.reg [Zm 37 9,Zd 38 .add 37 1,Zm 9 38] [])))
def JS:aw:=(Zs [Za 62 0 4,Zl 63 62,Za 64 0 5,Zl 65 64,Zb 66 .sub 63 65,Zo 67 (.call 272 [(Zt 66)]),Zm 6 67] .ret)
def A267:aw:=(Zs [Zo 3 (.box 2 (Zt 0)),Zo 4 (.box 2 (Zt 1)),Zo 5 (.box 2 (Zt 2)),Zn 6 0] (.seq (.seq (.drw [Zv 10 2 3,Zv 11 2 4,Zo 12 (.call 271 [(Zt 10),(Zt 11)]),Zv 13 2 3,Zv 14 2 5,Zo 15 (.call 271 [(Zt 13),(Zt 14)]),Zb 16 .sub 12 15,Zm 7 16] []) (Zs [Zm 17 7,Zd 18 .neq 17 0] (.cond (Zt 18) (Zs [Zm 19 7,Zo 20 (.call 272 [(Zt 19)]),Zm 6 20] .ret) .skip))) (.seq (Zs [Za 21 1 4,Zl 22 21,Zk 23 22,Za 24 1 5,Zl 25 24,Zk 26 25,Zb 27 .sub 23 26,Zm 8 27] (Zs [Zm 28 8,Zd 29 .neq 28 0] (.cond (Zt 29) (Zs [Zm 30 8,Zo 31 (.call 272 [(Zt 30)]),Zm 6 31] .ret) .skip))) (.seqa (.reg [Zn 9 0] []) (.blk 0 (.loop zP)) [4,5] [4,5] JS))))
theorem m267:bb Tryz.prog 267 3 A267 eJ=true:=by kernel_rfl
def pu:aw:=(.seq (.seq (.drw [Zm 10 4,Zd 11 .gtr 10 0,Zm 12 11,Zg 13 (.mv (Zt 0)) 12 true,Zg 14 (.nilc (Zt 13)) 12 true,Zg 15 (.fad 0 (Zt 14)) 12 true,Zg 16 (.load 2 true (Zt 15)) 12 true,Zg 17 (.load 2 true (Zt 3)) 12 true,Zg 18 (.mv (Zt 0)) 12 true,Zg 19 (.nilc (Zt 18)) 12 true,Zg 20 (.fad 3 (Zt 19)) 12 true,Zg 21 (.load 1 false (Zt 20)) 12 true,Zg 22 (.mv (Zt 4)) 12 true,Zg 23 (.bin .sub (Zt 22) (.c (.i 1))) 12 true,Zg 24 (.idx 2 (Zt 21) (Zt 23)) 12 true,Zg 25 (.load 2 true (Zt 24)) 12 true,Zg 26 (.call 267 [(Zt 16),(Zt 17),(Zt 25)]) 12 true,Zg 27 (.bin .lss (Zt 26) (.c (.i 0))) 12 true,Zo 28 (.pick (Zt 12) (Zt 27) (Zy false))] []) (.cond (Zt 28) .skip (.exit 0))) (.blk 1 (.reg [Zm 29 4,Zd 30 .sub 29 1,Zm 4 30] [])))
def uT:aw:=(.drw [Zm 31 0,Zo 32 (.bsl 2 true []),Zm 33 0,Zo 34 (.nilc (Zt 33)),Za 35 3 34,Zl 36 35,Zm 37 4,Zo 38 (.slc 2 (Zt 36) none (some (Zt 37)) none),Zo 39 (.app 2 32 false (Zt 32) (Zt 38)),Zv 40 2 3,Zo 41 (.bsl 2 true [(Zt 40)]),Zo 42 (.app 2 32 true (Zt 39) (Zt 41)),Zm 43 0,Zo 44 (.nilc (Zt 43)),Za 45 3 44,Zl 46 45,Zm 47 4,Zo 48 (.slc 2 (Zt 46) (some (Zt 47)) none none),Zo 49 (.app 2 32 false (Zt 42) (Zt 48)),Zo 50 (.nilc (Zt 31)),Za 51 3 50,Zw (.store 1 (Zt 51) (Zt 49))] [])
def Gh:aw:=(Zs [Zo 3 (.box 2 (Zt 1))] (Zs [Zm 5 0,Zo 6 (.nilc (Zt 5)),Za 7 3 6,Zl 8 7,Zk 9 8,Zm 4 9] (.seqr (.blk 0 (.loop pu)) [0,3,4] [3,1000000000,1000000001] uT)))
def co:List RV:=[]
theorem Uz:bb Tryz.prog 257 2 Gh co=true:=by kernel_rfl
def pn:aw:=(.seq (.seq (.drw [Zm 10 4,Zd 11 .gtr 10 0,Zm 12 11,Zg 13 (.mv (Zt 0)) 12 true,Zg 14 (.nilc (Zt 13)) 12 true,Zg 15 (.fad 0 (Zt 14)) 12 true,Zg 16 (.load 2 true (Zt 15)) 12 true,Zg 17 (.load 2 true (Zt 3)) 12 true,Zg 18 (.mv (Zt 0)) 12 true,Zg 19 (.nilc (Zt 18)) 12 true,Zg 20 (.fad 3 (Zt 19)) 12 true,Zg 21 (.load 1 false (Zt 20)) 12 true,Zg 22 (.mv (Zt 4)) 12 true,Zg 23 (.bin .sub (Zt 22) (.c (.i 1))) 12 true,Zg 24 (.idx 2 (Zt 21) (Zt 23)) 12 true,Zg 25 (.load 2 true (Zt 24)) 12 true,Zg 26 (.call 267 [(Zt 16),(Zt 17),(Zt 25)]) 12 true,Zg 27 (.bin .lss (Zt 26) (.c (.i 0))) 12 true,Zo 28 (.pick (Zt 12) (Zt 27) (Zy false))] []) (.cond (Zt 28) .skip (.exit 0))) (.blk 1 (.reg [Zm 29 4,Zd 30 .sub 29 1,Zm 4 30] [])))
def xc:aw:=(.drw [Zm 31 0,Zo 32 (.bsl 2 true []),Zm 33 0,Zo 34 (.nilc (Zt 33)),Za 35 3 34,Zl 36 35,Zm 37 4,Zo 38 (.slc 2 (Zt 36) none (some (Zt 37)) none),Zo 39 (.app 2 32 false (Zt 32) (Zt 38)),Zv 40 2 3,Zo 41 (.bsl 2 true [(Zt 40)]),Zo 42 (.app 2 32 true (Zt 39) (Zt 41)),Zm 43 0,Zo 44 (.nilc (Zt 43)),Za 45 3 44,Zl 46 45,Zm 47 4,Zo 48 (.slc 2 (Zt 46) (some (Zt 47)) none none),Zo 49 (.app 2 32 false (Zt 42) (Zt 48)),Zo 50 (.nilc (Zt 31)),Za 51 3 50,Zw (.store 1 (Zt 51) (Zt 49))] [])
def Ny:aw:=(Zs [Zo 3 (.box 2 (Zt 1))] (Zs [Zm 5 0,Zo 6 (.nilc (Zt 5)),Za 7 3 6,Zl 8 7,Zk 9 8,Zm 4 9] (.seqr (.blk 0 (.loop pn)) [0,3,4] [3,1000000000,1000000001] xc)))
theorem UL:bb Tryz.prog 257 2 Ny co=true:=by kernel_rfl
def vE:aw:=(.cond (Zt 39) .skip (.exit 0))
def vS:aw:=(.cond (Zt 56) (.drw [Zm 57 0,Zo 58 (.fdv [65,71,470000003,1000000000] 0 (Zt 4)),Zo 59 (.ldv [65,71,470000003,1000000000] 1 false (Zt 58)),Zo 60 (.fdv [65,71,470000003,1000000000] 1 (Zt 4)),Zo 61 (.ldv [65,71,470000003,1000000000] 1 false (Zt 60)),Zo 62 (.call 194 [(Zt 61)]),Zm 63 7,Zo 64 (.bsl 1 true [(Zt 63)]),Zo 65 (.app 1 8 true (Zt 62) (Zt 64)),Zo 66 (.build [.i 0,.lst .u 1 []] [(0,1,(Zt 59)),(1,1,(Zt 65))]),Zm 67 2,Zo 68 (.call 194 [(Zt 67)]),Zm 69 8,Zo 70 (.bsl 1 true [(Zt 69)]),Zo 71 (.app 1 8 true (Zt 68) (Zt 70)),Zo 72 (.callM 249 [(Zt 57),(Zt 66),(Zt 71)] [1000000000,470000003,65,71])] [.f true 470000003 1000000000 3]) .skip)
def qc:aw:=(.seq (.seqr (.reg [Zm 24 7,Zm 25 0,Zo 26 (.nilc (Zt 25)),Za 27 0 26,Za 28 1 27,Zl 29 28,Zk 30 29,Zb 31 .lss 24 30,Zm 32 31,Zg 33 (.mv (Zt 0)) 32 true,Zg 34 (.nilc (Zt 33)) 32 true,Zg 35 (.fad 3 (Zt 34)) 32 true,Zg 36 (.load 1 false (Zt 35)) 32 true,Zg 37 (.len (Zt 36)) 32 true,Zg 38 (.bin .leq (Zt 37) (.c (.i 200))) 32 true,Zo 39 (.pick (Zt 32) (Zt 38) (Zy false))] []) [0,2,4,6,7,39] [4,470000003,1000000000,1000000003] vE) (.seq (.blk 1 (Zs [Zm 42 0,Zo 43 (.nilc (Zt 42)),Za 44 0 43,Zv 45 2 44,Zm 46 7,Zm 47 6,Zo 48 (.call 246 [(Zt 45),(Zt 46),(Zt 47)]),Zm 8 48] (.seqr (.reg [Zm 49 8,Zd 50 .geq 49 0,Zm 51 50,Zg 52 (.mv (Zt 2)) 51 true,Zg 53 (.mv (Zt 8)) 51 true,Zg 54 (.call 144 [(Zt 52),(Zt 53)]) 51 true,Zg 55 (.un .not (Zt 54)) 51 true,Zo 56 (.pick (Zt 51) (Zt 55) (Zy false))] []) [0,2,4,6,7,8,56] [4,470000003,1000000000,1000000003] vS))) (.reg [Zm 40 7,Zd 41 .add 40 1,Zm 7 41] [])))
def MQ:aw:=(.seq (.reg [Zo 4 (.box 2 (Zt 1))] [.w 4,.f true 470000003 1000000000 3,.f true 500000257 4 1]) (Zs [Zm 9 2,Zm 10 2,Zk 11 10,Zd 12 .sub 11 1,Zx 13 1 9 12,Zl 14 13,Zm 6 14] (.seq (Zs [Zm 15 6,Zm 16 0,Zo 17 (.nilc (Zt 16)),Za 18 2 17,Zl 19 18,Zb 20 .eql 15 19] (.cond (Zt 20) (.seq (.reg [Zm 21 0,Zv 22 2 4,Zo 23 (.callM 257 [(Zt 21),(Zt 22)] [1000000000,470000003])] [.f true 470000003 1000000000 3]) .ret) .skip)) (Zs [Zn 7 0] (.blk 0 (.loop qc))))))
theorem WI:bb Tryz.prog 249 3 MQ co=true:=by kernel_rfl
def vx:aw:=(.cond (Zt 39) .skip (.exit 0))
def wU:aw:=(.cond (Zt 56) (.drw [Zm 57 0,Zo 58 (.fdv [65,71,470000003,1000000000] 0 (Zt 4)),Zo 59 (.ldv [65,71,470000003,1000000000] 1 false (Zt 58)),Zo 60 (.fdv [65,71,470000003,1000000000] 1 (Zt 4)),Zo 61 (.ldv [65,71,470000003,1000000000] 1 false (Zt 60)),Zo 62 (.call 194 [(Zt 61)]),Zm 63 7,Zo 64 (.bsl 1 true [(Zt 63)]),Zo 65 (.app 1 8 true (Zt 62) (Zt 64)),Zo 66 (.build [.i 0,.lst .u 1 []] [(0,1,(Zt 59)),(1,1,(Zt 65))]),Zm 67 2,Zo 68 (.call 194 [(Zt 67)]),Zm 69 8,Zo 70 (.bsl 1 true [(Zt 69)]),Zo 71 (.app 1 8 true (Zt 68) (Zt 70)),Zo 72 (.callM 249 [(Zt 57),(Zt 66),(Zt 71)] [1000000000,470000003,65,71])] [.f true 470000003 1000000000 3]) .skip)
def rj:aw:=(.seq (.seqr (.reg [Zm 24 7,Zm 25 0,Zo 26 (.nilc (Zt 25)),Za 27 0 26,Za 28 1 27,Zl 29 28,Zk 30 29,Zb 31 .lss 24 30,Zm 32 31,Zg 33 (.mv (Zt 0)) 32 true,Zg 34 (.nilc (Zt 33)) 32 true,Zg 35 (.fad 3 (Zt 34)) 32 true,Zg 36 (.load 1 false (Zt 35)) 32 true,Zg 37 (.len (Zt 36)) 32 true,Zg 38 (.bin .leq (Zt 37) (.c (.i 200))) 32 true,Zo 39 (.pick (Zt 32) (Zt 38) (Zy false))] []) [0,2,4,6,7,39] [4,470000003,1000000000,1000000001] vx) (.seq (.blk 1 (Zs [Zm 42 0,Zo 43 (.nilc (Zt 42)),Za 44 0 43,Zv 45 2 44,Zm 46 7,Zm 47 6,Zo 48 (.call 246 [(Zt 45),(Zt 46),(Zt 47)]),Zm 8 48] (.seqr (.reg [Zm 49 8,Zd 50 .geq 49 0,Zm 51 50,Zg 52 (.mv (Zt 2)) 51 true,Zg 53 (.mv (Zt 8)) 51 true,Zg 54 (.call 144 [(Zt 52),(Zt 53)]) 51 true,Zg 55 (.un .not (Zt 54)) 51 true,Zo 56 (.pick (Zt 51) (Zt 55) (Zy false))] []) [0,2,4,6,7,8,56] [4,470000003,1000000000,1000000001] wU))) (.reg [Zm 40 7,Zd 41 .add 40 1,Zm 7 41] [])))
def NN:aw:=(.seq (.reg [Zo 4 (.box 2 (Zt 1))] [.w 4,.f true 470000003 1000000000 3]) (Zs [Zm 9 2,Zm 10 2,Zk 11 10,Zd 12 .sub 11 1,Zx 13 1 9 12,Zl 14 13,Zm 6 14] (.seq (Zs [Zm 15 6,Zm 16 0,Zo 17 (.nilc (Zt 16)),Za 18 2 17,Zl 19 18,Zb 20 .eql 15 19] (.cond (Zt 20) (.seq (.reg [Zm 21 0,Zv 22 2 4,Zo 23 (.callM 257 [(Zt 21),(Zt 22)] [1000000000,470000003])] [.f true 470000003 1000000000 3]) .ret) .skip)) (Zs [Zn 7 0] (.blk 0 (.loop rj))))))
theorem UW:bb Tryz.prog 249 3 NN co=true:=by kernel_rfl
def NI:aw:=(.seq (.reg [Zo 3 (.box 2 (Zt 0)),Zo 6 (.mv (.c (.lst .u 2 []))),Zo 7 (.mv (Zy false))] [.s 6]) (Zs [Zv 9 2 3,Zm 10 2,Zo 11 (.build [.lst .u 1 [],.lst .u 4 [],.i 0,.lst .u 2 []] [(0,2,(Zt 9)),(2,1,(Zt 10))]),Zo 12 (.box 4 (Zt 11)),Zm 8 12] (Zs [Zm 13 8,Zm 14 1,Zo 15 (.build [.i 0,.lst .u 1 []] [(0,1,(Zt 14))]),Zm 16 1,Zo 17 (.bsl 1 false [(Zt 16)]),Zo 18 (.callM 249 [(Zt 13),(Zt 15),(Zt 17)] [12,17])] (.seq (Zs [Zm 19 8,Zo 20 (.nilc (Zt 19)),Za 21 3 20,Zl 22 21,Zk 23 22,Zd 24 .gtr 23 200] (.cond (Zt 24) (.seq (.reg [Zo 25 (.bsl 2 false []),Zm 6 25,Zo 7 (.mv (Zy false))] [.s 6]) .ret) .skip)) (.seq (.reg [Zo 26 (.bsl 2 false []),Zm 27 8,Zo 28 (.nilc (Zt 27)),Za 29 3 28,Zl 30 29,Zo 31 (.app 2 32 false (Zt 26) (Zt 30)),Zm 6 31,Zo 7 (.mv (Zy true))] [.s 6]) .ret)))))
def fQ:List RV:=[.t 6,.t 7]
theorem WP:bb Tryz.prog 235 3 NI fQ=true:=by kernel_rfl
def Mw:aw:=(.seq (.reg [Zo 3 (.box 2 (Zt 0)),Zo 6 (.mv (.c (.lst .u 2 []))),Zo 7 (.mv (Zy false))] [.s 6]) (.seq (Zs [Zv 8 2 3,Zm 9 1,Zm 10 2,Zo 11 (.call 234 [(Zt 8),(Zt 9),(Zt 10)]),Zo 12 (.un .not (Zt 11))] (.cond (Zt 12) (.seq (.reg [Zo 13 (.bsl 2 false []),Zm 6 13,Zo 7 (.mv (Zy false))] [.s 6]) .ret) .skip)) (.seq (.reg [Zv 14 2 3,Zm 15 1,Zm 16 2,Zo 17 (.callM 235 [(Zt 14),(Zt 15),(Zt 16)] []),Ze 18 17 0,Ze 19 17 1,Zm 6 18,Zm 7 19] [.s 6]) .ret)))
theorem Wx:bb Tryz.prog 212 3 Mw fQ=true:=by kernel_rfl
def yz:aw:=(.seq (Zs [Zm 8 6,Zm 9 1,Zb 10 .add 8 9,Zd 11 .leq 10 24] (.cond (Zt 11) .skip (.exit 0))) (.seq (.blk 1 (Zs [Zm 14 0,Zm 15 6,Zm 16 1,Zo 17 (.build [.i 0,.i 0] [(0,1,(Zt 15)),(1,1,(Zt 16))]),Zo 18 (.call 167 [(Zt 17)]),Zb 19 .and 14 18,Zd 20 .eql 19 0] (.cond (Zt 20) (.reg [Zm 21 5,Zm 22 6,Zo 23 (.bsl 1 false [(Zt 22)]),Zo 24 (.app 1 8 true (Zt 21) (Zt 23)),Zm 5 24] [.s 5]) .skip))) (.reg [Zm 12 6,Zd 13 .add 12 1,Zm 6 13] [])))
def IR:aw:=(.seq (.reg [Zm 25 5,Zm 4 25] [.s 4]) .ret)
def A213:aw:=(.seq (.reg [Zo 4 (.mv (.c (.lst .u 1 [])))] [.s 4]) (.seq (.reg [Zo 7 (.bsl 1 false []),Zm 5 7] [.s 5]) (.seqa (.reg [Zn 6 0] []) (.blk 0 (.loop yz)) [5] [5] IR)))
theorem m213:bb Tryz.prog 213 2 A213 V85=true:=by kernel_rfl
def OD:aw:=(.cond (Zt 31) (Zs [Zv 32 5 3,Zo 33 (.call 141 [(Zt 32)]),Zw (.store 5 (Zt 4) (Zt 33)),Zo 5 (.mv (Zy true))] .ret) .skip)
def Ou:aw:=(.cond (Zt 52) .skip (.exit 0))
def yN:aw:=(.seq (.seqr (.reg [Zm 46 9,Zm 47 7,Zk 48 47,Zb 49 .lss 46 48,Zm 50 49,Zg 51 (.mv (Zt 8)) 50 true,Zo 52 (.pick (Zt 50) (Zt 51) (Zy false))] []) [2,3,4,7,8,9,52] [2,3,4,7] Ou) (.seq (.blk 1 (.seq (.seq (.drw [Zm 55 7,Zm 56 9,Zx 57 2 55 56,Zv 58 2 57,Za 59 4 2,Zl 60 59,Zo 61 (.call 125 [(Zt 58),(Zt 60)])] []) (.cond (Zt 61) (.exit 1) .skip)) (.seq (.drw [Za 62 0 2,Zv 63 3 62,Zm 64 7,Zm 65 9,Zx 66 2 64 65,Zv 67 2 66,Zo 68 (.call 166 [(Zt 63),(Zt 67)]),Za 69 3 3,Za 70 1 69,Zl 71 70,Zo 72 (.call 213 [(Zt 68),(Zt 71)]),Zm 10 72] [.s 10]) (Zs [Zm 73 10,Zk 74 73,Zd 75 .gtr 74 0] (.cond (Zt 75) (.seq (.drw [Za 76 0 3,Zl 77 76,Zm 78 7,Zm 79 9,Zx 80 2 78 79,Zv 81 2 80,Zo 82 (.call 193 [(Zt 81)]),Zm 83 10,Zo 84 (.idx 1 (Zt 83) (.c (.i 0))),Zl 85 84,Za 86 3 3,Za 87 1 86,Zl 88 87,Zo 89 (.build [.i 0,.i 0] [(0,1,(Zt 85)),(1,1,(Zt 88))]),Zo 90 (.build [.i 0,.i 0,.lst .u 1 [],.i 0,.i 0] [(0,1,(Zt 77)),(1,2,(Zt 82)),(3,2,(Zt 89))]),Zw (.store 5 (Zt 4) (Zt 90)),Zo 5 (.mv (Zy true))] []) .ret) .skip))))) (.reg [Zm 53 9,Zd 54 .add 53 1,Zm 9 54] [])))
def Ml:aw:=(Zs [Zo 91 (.build [.i 0,.i 0,.lst .u 1 [],.i 0,.i 0] []),Zw (.store 5 (Zt 4) (Zt 91)),Zo 5 (.mv (Zy false))] .ret)
def A173:aw:=(Zs [Zo 2 (.box 5 (Zt 0)),Zo 3 (.box 5 (Zt 1)),Zo 4 (.alloc (.agg [.i 0,.i 0,.lst .u 1 [],.i 0,.i 0])),Zo 5 (.mv (Zy false))] (Zs [Za 11 0 2,Za 12 0 11,Zv 13 2 12,Zo 6 (.alloc (.agg [.lst .u 1 [],.lst .u 4 []])),Zw (.store 2 (Zt 6) (Zt 13))] (.seq (.seqr (.drw [Za 14 1 3,Zv 15 2 14,Za 16 4 2,Zl 17 16,Zo 18 (.call 125 [(Zt 15),(Zt 17)]),Zo 19 (.un .not (Zt 18)),Zm 20 19,Zg 21 (.fad 0 (Zt 2)) 20 true,Zg 22 (.load 3 true (Zt 21)) 20 true,Zg 23 (.fad 1 (Zt 3)) 20 true,Zg 24 (.load 2 true (Zt 23)) 20 true,Zg 25 (.call 166 [(Zt 22),(Zt 24)]) 20 true,Zg 26 (.fad 3 (Zt 3)) 20 true,Zg 27 (.load 2 true (Zt 26)) 20 true,Zg 28 (.call 167 [(Zt 27)]) 20 true,Zg 29 (.bin .and (Zt 25) (Zt 28)) 20 true,Zg 30 (.bin .eql (Zt 29) (.c (.i 0))) 20 true,Zo 31 (.pick (Zt 20) (Zt 30) (Zy false))] []) [2,3,4,6,31] [2,3,4,6] OD) (.seq (.drw [Zv 35 2 6,Za 36 1 3,Za 37 0 36,Zl 38 37,Zv 39 2 6,Za 40 1 3,Zv 41 2 40,Zo 42 (.call 126 [(Zt 39),(Zt 41)]),Zo 43 (.callM 212 [(Zt 35),(Zt 38),(Zt 42)] []),Zm 34 43,Ze 44 34 0,Ze 45 34 1,Zm 7 44,Zm 8 45] [.s 7]) (.seqa (.reg [Zn 9 0] []) (.blk 0 (.loop yN)) [4] [4] Ml)))))
def kH:List RV:=[.c 4 5 true,.t 5]
theorem m173:bb Tryz.prog 173 2 A173 kH=true:=by kernel_rfl
def uj:aw:=(.seq (.seq (.drw [Zm 9 6,Za 10 2 5,Zl 11 10,Zk 12 11,Zb 13 .lss 9 12,Zm 14 13,Zg 15 (.fad 2 (Zt 5)) 14 true,Zg 16 (.load 1 false (Zt 15)) 14 true,Zg 17 (.mv (Zt 6)) 14 true,Zg 18 (.idx 5 (Zt 16) (Zt 17)) 14 true,Zg 19 (.fad 0 (Zt 18)) 14 true,Zg 20 (.load 1 false (Zt 19)) 14 true,Zg 21 (.fad 0 (Zt 3)) 14 true,Zg 22 (.load 1 false (Zt 21)) 14 true,Zg 23 (.bin .lss (Zt 20) (Zt 22)) 14 true,Zo 24 (.pick (Zt 14) (Zt 23) (Zy false))] []) (.cond (Zt 24) .skip (.exit 0))) (.blk 1 (.reg [Zm 25 6,Zd 26 .add 25 1,Zm 6 26] [])))
def BE:aw:=(.seq (.drw [Zo 27 (.bsl 5 true []),Za 28 2 5,Zl 29 28,Zm 30 6,Zo 31 (.slc 5 (Zt 29) none (some (Zt 30)) none),Zo 32 (.app 5 56 false (Zt 27) (Zt 31)),Zv 33 5 3,Zo 34 (.call 141 [(Zt 33)]),Zo 35 (.bsm 5 [(Zt 34)]),Zo 36 (.app 5 56 true (Zt 32) (Zt 35)),Za 37 2 5,Zl 38 37,Zm 39 6,Zo 40 (.slc 5 (Zt 38) (some (Zt 39)) none none),Zo 41 (.app 5 56 false (Zt 36) (Zt 40)),Za 42 2 5,Zw (.store 1 (Zt 42) (Zt 41))] [.w 41]) (Zs [Zv 43 3 5,Zw (.store 3 (Zt 4) (Zt 43))] .ret))
def TG:aw:=(Zs [Zo 2 (.box 3 (Zt 0)),Zo 3 (.box 5 (Zt 1)),Zo 4 (.alloc (.agg [.lst .u 1 [],.lst .u 4 [],.lst .u 5 []]))] (Zs [Zv 7 3 2,Zo 8 (.call 75 [(Zt 7)]),Zo 5 (.alloc (.agg [.lst .u 1 [],.lst .u 4 [],.lst .u 5 []])),Zw (.store 3 (Zt 5) (Zt 8))] (Zs [Zn 6 0] (.seqr (.blk 0 (.loop uj)) [3,4,5,6] [3,4,5,8,1008,2008,1000000000,1000000001,1000000002,1000000003] BE))))
def td:List RV:=[.c 4 3 true]
theorem XB:bb Tryz.prog 90 2 TG td=true:=by kernel_rfl
def Iw:aw:=(.seq (.reg [Zo 2 (.box 5 (Zt 0)),Zo 4 (.alloc (.agg [.lst .u 1 [],.lst .u 4 [],.lst .u 5 [],.lst .u 5 [],.lst .u 1 []])),Zo 5 (.mv (Zy false))] [.f false 500000128 2 0,.f false 500000129 2 1,.f false 500000130 2 2,.f false 500000131 2 3,.f false 500000132 2 4]) (.seq (.drw [Zv 10 5 2,Za 11 3 2,Zl 12 11,Zm 13 1,Zx 14 5 12 13,Zv 15 5 14,Zo 16 (.call 173 [(Zt 10),(Zt 15)]),Zm 9 16,Ze 17 9 0,Ze 18 9 1,Zo 6 (.alloc (.agg [.i 0,.i 0,.lst .u 1 [],.i 0,.i 0])),Zw (.store 5 (Zt 6) (Zt 17)),Zm 7 18] [.f false 500000386 6 2]) (.seq (.reg [Zv 19 5 2,Zo 20 (.call 143 [(Zt 19)]),Zo 8 (.alloc (.agg [.lst .u 1 [],.lst .u 4 [],.lst .u 5 [],.lst .u 5 [],.lst .u 1 []])),Zw (.store 5 (Zt 8) (Zt 20))] [.f false 500000512 8 0,.f false 500000513 8 1,.f false 500000514 8 2,.f false 500000515 8 3,.f false 500000516 8 4]) (.seq (Zs [Zm 21 7] (.cond (Zt 21) (.reg [Za 22 0 8,Zv 23 3 22,Zv 24 5 6,Zo 25 (.callM 90 [(Zt 23),(Zt 24)] [500000512,500000513,500000514,500000386]),Za 26 0 8,Zw (.store 3 (Zt 26) (Zt 25))] [.f false 500000512 8 0,.f false 500000513 8 1,.f false 500000514 8 2]) .skip)) (.seq (.reg [Zv 27 5 8,Zm 28 7,Zw (.store 5 (Zt 4) (Zt 27)),Zm 5 28] [.f false 500000256 4 0,.f false 500000257 4 1,.f false 500000258 4 2,.f false 500000259 4 3,.f false 500000260 4 4,.w 500000258]) .ret)))))
theorem Uu:bb Tryz.prog 117 2 Iw kH=true:=by kernel_rfl
def pz:aw:=(.seq (Zs [Zm 15 7,Zm 16 6,Zk 17 16,Zb 18 .lss 15 17] (.cond (Zt 18) .skip (.exit 0))) (.seq (.blk 1 (.seq (.drw [Zv 22 5 4,Zm 23 6,Zm 24 7,Zx 25 1 23 24,Zl 26 25,Zo 27 (.callM 117 [(Zt 22),(Zt 26)] [500000256,500000257,500000258,500000259,500000260]),Zm 21 27,Ze 28 21 0,Ze 29 21 1,Zo 8 (.alloc (.agg [.lst .u 1 [],.lst .u 4 [],.lst .u 5 [],.lst .u 5 [],.lst .u 1 []])),Zw (.store 5 (Zt 8) (Zt 28)),Zm 9 29] [.f false 500000512 8 0,.f false 500000513 8 1,.f false 500000514 8 2,.f false 500000515 8 3,.f false 500000516 8 4]) (.seq (.reg [Zv 30 5 8,Zw (.store 5 (Zt 4) (Zt 30))] [.f false 500000256 4 0,.f false 500000257 4 1,.f false 500000258 4 2,.f false 500000259 4 3,.f false 500000260 4 4]) (Zs [Zm 31 9] (.cond (Zt 31) (.drw [Zm 32 5,Za 33 3 1,Zl 34 33,Zm 35 6,Zm 36 7,Zx 37 1 35 36,Zl 38 37,Zx 39 5 34 38,Za 40 0 39,Zl 41 40,Zo 42 (.bsl 1 true [(Zt 41)]),Zo 43 (.app 1 8 true (Zt 32) (Zt 42)),Zm 5 43] [.s 5]) .skip))))) (.reg [Zm 19 7,Zd 20 .add 19 1,Zm 7 20] [])))
def vH:aw:=(.seq (.reg [Zv 44 5 4,Zm 45 5,Zw (.store 5 (Zt 2) (Zt 44)),Zm 3 45] [.s 3,.f false 500000128 2 0,.f false 500000129 2 1,.f false 500000130 2 2,.f false 500000131 2 3,.f false 500000132 2 4]) .ret)
def KR:aw:=(.seq (.reg [Zo 1 (.box 5 (Zt 0)),Zo 2 (.alloc (.agg [.lst .u 1 [],.lst .u 4 [],.lst .u 5 [],.lst .u 5 [],.lst .u 1 []])),Zo 3 (.mv (.c (.lst .u 1 [])))] [.s 3,.f false 500000064 1 0,.f false 500000065 1 1,.f false 500000066 1 2,.f false 500000067 1 3,.f false 500000068 1 4]) (.seq (.reg [Zv 10 5 1,Zo 11 (.call 143 [(Zt 10)]),Zo 4 (.alloc (.agg [.lst .u 1 [],.lst .u 4 [],.lst .u 5 [],.lst .u 5 [],.lst .u 1 []])),Zw (.store 5 (Zt 4) (Zt 11))] [.f false 500000256 4 0,.f false 500000257 4 1,.f false 500000258 4 2,.f false 500000259 4 3,.f false 500000260 4 4,.w 500000258]) (.seq (.reg [Zo 12 (.bsl 1 false []),Zm 5 12] [.s 5]) (.seq (.reg [Zv 13 5 1,Zo 14 (.call 71 [(Zt 13)]),Zm 6 14] [.s 6]) (.seqa (.reg [Zn 7 0] []) (.blk 0 (.loop pz)) [2,4,5] [2,4,5,500000256,500000257,500000258,500000259,500000260,1000000000,1000000001,1000000002,1000000003,1000000004] vH)))))
def xy:List RV:=[.c 2 5 true,.t 3]
theorem Ur:bb Tryz.prog 119 1 KR xy=true:=by kernel_rfl
def Ty:aw:=(.seq (.reg [Zo 1 (.box 5 (Zt 0)),Zo 2 (.alloc (.agg [.lst .u 1 [],.lst .u 4 [],.lst .u 5 [],.lst .u 5 [],.lst .u 1 []])),Zo 3 (.mv (.c (.lst .u 1 []))),Zo 4 (.mv (Zy false))] [.s 3,.f false 500000064 1 0,.f false 500000065 1 1,.f false 500000066 1 2,.f false 500000067 1 3,.f false 500000068 1 4]) (.seq (Zs [Zv 7 5 1,Zo 8 (.call 61 [(Zt 7)]),Zo 9 (.un .not (Zt 8))] (.cond (Zt 9) (.seq (.reg [Zo 10 (.build [.lst .u 1 [],.lst .u 4 [],.lst .u 5 [],.lst .u 5 [],.lst .u 1 []] []),Zo 11 (.bsl 1 false []),Zw (.store 5 (Zt 2) (Zt 10)),Zm 3 11,Zo 4 (.mv (Zy false))] [.s 3,.f false 500000128 2 0,.f false 500000129 2 1,.f false 500000130 2 2,.f false 500000131 2 3,.f false 500000132 2 4]) .ret) .skip)) (.seq (.reg [Zv 13 5 1,Zo 14 (.callM 119 [(Zt 13)] [1000000000,1000000001,1000000002,1000000003,1000000004]),Zm 12 14,Ze 15 12 0,Ze 16 12 1,Zo 5 (.alloc (.agg [.lst .u 1 [],.lst .u 4 [],.lst .u 5 [],.lst .u 5 [],.lst .u 1 []])),Zw (.store 5 (Zt 5) (Zt 15)),Zm 6 16] [.s 6,.f false 500000320 5 0,.f false 500000321 5 1,.f false 500000322 5 2,.f false 500000323 5 3,.f false 500000324 5 4]) (.seq (.reg [Zv 17 5 5,Zm 18 6,Zw (.store 5 (Zt 2) (Zt 17)),Zm 3 18,Zo 4 (.mv (Zy true))] [.s 3,.f false 500000128 2 0,.f false 500000129 2 1,.f false 500000130 2 2,.f false 500000131 2 3,.f false 500000132 2 4]) .ret))))
def oa:List RV:=[.c 2 5 true,.t 3,.t 4]
theorem XK:bb Tryz.prog 51 1 Ty oa=true:=by kernel_rfl
def A132:aw:=(Zs [Zo 6 (.mv (Zy false))] (Zs [Zm 7 1,Zm 8 0,Zb 9 .leq 7 8,Zm 10 9,Zg 11 (.mv (Zt 0)) 10 true,Zg 12 (.mv (Zt 2)) 10 true,Zg 13 (.bin .leq (Zt 11) (Zt 12)) 10 true,Zo 14 (.pick (Zt 10) (Zt 13) (Zy false)),Zm 6 14] .ret))
theorem m132:bb Tryz.prog 132 3 A132 eJ=true:=by kernel_rfl
def KE:aw:=(Zs [Zm 31 4,Zo 32 (.un .not (Zt 31)),Zm 33 32,Zg 34 (.mv (Zt 5)) 33 true,Zg 35 (.un .not (Zt 34)) 33 true,Zg 36 (.mv (Zt 35)) 33 true,Zg 37 (.mv (Zt 3)) 36 false,Zg 38 (.bin .eql (Zt 37) (.c (.i 0))) 36 false,Zg 39 (.pick (Zt 36) (Zy true) (Zt 38)) 33 true,Zo 40 (.pick (Zt 33) (Zt 39) (Zy false))] (.cond (Zt 40) (Zs [Zo 2 (.mv (Zy false))] .ret) .skip))
def zL:aw:=(Zs [Zb 9 .lss 8 7] (.seq (.cond (Zt 9) .skip (.exit 0)) (.seq (.blk 1 (Zs [Zm 10 8,Zm 3 10] (.seqr (.drw [Zm 11 0,Zm 12 3,Zo 13 (.stri (Zt 11) (Zt 12)),Zo 14 (.bin .geq (Zt 13) (.c (.sc (.int .u8 97)))),Zm 15 14,Zg 16 (.mv (Zt 0)) 15 true,Zg 17 (.mv (Zt 3)) 15 true,Zg 18 (.stri (Zt 16) (Zt 17)) 15 true,Zg 19 (.bin .leq (Zt 18) (.c (.sc (.int .u8 122)))) 15 true,Zo 20 (.pick (Zt 15) (Zt 19) (Zy false)),Zm 21 0,Zm 22 3,Zo 23 (.stri (Zt 21) (Zt 22)),Zo 24 (.bin .geq (Zt 23) (.c (.sc (.int .u8 48)))),Zm 25 24,Zg 26 (.mv (Zt 0)) 25 true,Zg 27 (.mv (Zt 3)) 25 true,Zg 28 (.stri (Zt 26) (Zt 27)) 25 true,Zg 29 (.bin .leq (Zt 28) (.c (.sc (.int .u8 57)))) 25 true,Zo 30 (.pick (Zt 25) (Zt 29) (Zy false)),Zm 4 20,Zm 5 30] []) [0,3,4,5,7,8] [] KE))) (.reg [Zd 41 .add 8 1,Zm 8 41] []))))
def HI:aw:=(Zs [Zm 42 0,Zo 43 (.lenz (Zt 42)),Zo 44 (.call 132 [(Zt 43),(.c (.i 1)),(.c (.i 8))]),Zm 2 44] .ret)
def A180:aw:=(Zs [Zo 2 (.mv (Zy false))] (.seqa (.reg [Zm 6 0,Zo 7 (.lenz (Zt 6)),Zn 8 0] []) (.blk 0 (.loop zL)) [0] [] HI))
theorem m180:bb Tryz.prog 180 1 A180 V91=true:=by kernel_rfl
def zd:aw:=(Zs [Zb 9 .lss 8 7] (.seq (.cond (Zt 9) .skip (.exit 0)) (.seq (.blk 1 (Zs [Zm 10 8,Zm 5 10] (Zs [Zm 11 1,Zm 12 0,Zm 13 5,Zx 14 1 12 13,Zl 15 14,Zb 16 .eql 11 15] (.cond (Zt 16) (Zs [Zm 17 5,Zm 4 17] .ret) .skip)))) (.reg [Zd 18 .add 8 1,Zm 8 18] []))))
def He:aw:=(Zs [Zn 4 (-1)] .ret)
def A221:aw:=(Zs [Zn 4 0] (.seqa (.reg [Zm 6 0,Zk 7 6,Zn 8 0] []) (.blk 0 (.loop zd)) [] [] He))
theorem m221:bb Tryz.prog 221 2 A221 V85=true:=by kernel_rfl
def A181:aw:=(Zs [Zo 4 (.mv (Zy false))] (Zs [Zm 5 0,Zm 6 1,Zo 7 (.call 221 [(Zt 5),(Zt 6)]),Zd 8 .geq 7 0,Zm 4 8] .ret))
theorem m181:bb Tryz.prog 181 2 A181 V85=true:=by kernel_rfl
def A233:aw:=(Zs [Zo 2 (.mv (Zy false))] (Zs [Zm 3 0,Zm 4 0,Zb 5 .neq 3 4,Zm 2 5] .ret))
theorem m233:bb Tryz.prog 233 1 A233 V91=true:=by kernel_rfl
def A223:aw:=(Zs [Zn 4 0] (Zs [Zm 7 0,Zo 8 (.call 233 [(Zt 7)]),Zm 5 8] (Zs [Zm 9 1,Zo 10 (.call 233 [(Zt 9)]),Zm 6 10] (.seq (Zs [Zm 11 5] (.cond (Zt 11) (.seq (Zs [Zm 12 6] (.cond (Zt 12) (Zs [Zn 4 0] .ret) .skip)) (Zs [Zn 4 (-1)] .ret)) .skip)) (.seq (Zs [Zm 13 6] (.cond (Zt 13) (Zs [Zn 4 1] .ret) .skip)) (.seq (Zs [Zm 14 0,Zm 15 1,Zb 16 .lss 14 15] (.cond (Zt 16) (Zs [Zn 4 (-1)] .ret) .skip)) (.seq (Zs [Zm 17 0,Zm 18 1,Zb 19 .gtr 17 18] (.cond (Zt 19) (Zs [Zn 4 1] .ret) .skip)) (Zs [Zn 4 0] .ret))))))))
theorem m223:bb Tryz.prog 223 2 A223 V85=true:=by kernel_rfl
def xR:aw:=(Zs [Zb 9 .lss 8 7] (.seq (.cond (Zt 9) .skip (.exit 0)) (.seq (.blk 1 (Zs [Zx 10 1 6 8,Zl 11 10,Zm 5 11] (Zs [Zm 12 5,Zm 13 3,Zb 14 .neq 12 13] (.cond (Zt 14) (Zs [Zm 15 5,Zm 2 15] .ret) .skip)))) (.reg [Zd 16 .add 8 1,Zm 8 16] []))))
def Mb:aw:=(Zs [Zm 17 3,Zm 2 17] .ret)
def A222:aw:=(Zs [Zn 2 0] (Zs [Zn 3 0] (.seqa (.reg [Zm 6 0,Zk 7 6,Zn 8 0] []) (.blk 0 (.loop xR)) [3] [] Mb)))
theorem m222:bb Tryz.prog 222 1 A222 V91=true:=by kernel_rfl
def A182:aw:=(Zs [Zo 2 (.box 4 (Zt 0)),Zo 3 (.box 4 (Zt 1)),Zn 4 0] (.seq (.drw [Za 5 0 2,Zl 6 5,Za 7 0 3,Zl 8 7,Zo 9 (.call 223 [(Zt 6),(Zt 8)]),Za 10 1 2,Zl 11 10,Za 12 1 3,Zl 13 12,Zo 14 (.call 223 [(Zt 11),(Zt 13)]),Za 15 2 2,Zl 16 15,Za 17 2 3,Zl 18 17,Zo 19 (.call 223 [(Zt 16),(Zt 18)]),Za 20 3 2,Zl 21 20,Za 22 3 3,Zl 23 22,Zo 24 (.call 223 [(Zt 21),(Zt 23)]),Zo 25 (.bsl 1 true [(Zt 9),(Zt 14),(Zt 19),(Zt 24)]),Zo 26 (.call 222 [(Zt 25)]),Zm 4 26] []) .ret))
theorem m182:bb Tryz.prog 182 2 A182 V85=true:=by kernel_rfl
def xt:aw:=(Zs [Zb 11 .lss 10 9] (.seq (.cond (Zt 11) .skip (.exit 0)) (.seq (.blk 1 (Zs [Zm 12 10,Zx 13 1 8 10,Zl 14 13,Zm 3 12,Zm 4 14] (Zs [Zm 15 4,Zo 16 (.call 180 [(Zt 15)]),Zo 17 (.un .not (Zt 16)),Zm 18 17,Zg 19 (.fad 0 (Zt 1)) 18 false,Zg 20 (.load 1 false (Zt 19)) 18 false,Zg 21 (.mv (Zt 3)) 18 false,Zg 22 (.slc 1 (Zt 20) none (some (Zt 21)) none) 18 false,Zg 23 (.mv (Zt 4)) 18 false,Zg 24 (.call 181 [(Zt 22),(Zt 23)]) 18 false,Zo 25 (.pick (Zt 18) (Zy true) (Zt 24))] (.cond (Zt 25) (Zs [Zo 2 (.mv (Zy false))] .ret) .skip)))) (.reg [Zd 26 .add 10 1,Zm 10 26] []))))
def xI:aw:=(Zs [Zb 31 .lss 30 29] (.seq (.cond (Zt 31) .skip (.exit 2)) (.seq (.blk 3 (Zs [Zm 32 30,Zx 33 4 28 30,Zv 34 4 33,Zo 6 (.alloc (.agg [.i 0,.i 0,.i 0,.i 0])),Zm 5 32,Zw (.store 4 (Zt 6) (Zt 34))] (.seq (.drw [Za 35 0 6,Zl 36 35,Zd 37 .lss 36 0,Zm 38 37,Zg 39 (.fad 0 (Zt 6)) 38 false,Zg 40 (.load 1 false (Zt 39)) 38 false,Zg 41 (.fad 1 (Zt 6)) 38 false,Zg 42 (.load 1 false (Zt 41)) 38 false,Zg 43 (.bin .geq (Zt 40) (Zt 42)) 38 false,Zo 44 (.pick (Zt 38) (Zy true) (Zt 43)),Zm 45 44,Zg 46 (.fad 1 (Zt 6)) 45 false,Zg 47 (.load 1 false (Zt 46)) 45 false,Zg 48 (.fad 0 (Zt 1)) 45 false,Zg 49 (.load 1 false (Zt 48)) 45 false,Zg 50 (.len (Zt 49)) 45 false,Zg 51 (.bin .geq (Zt 47) (Zt 50)) 45 false,Zo 52 (.pick (Zt 45) (Zy true) (Zt 51)),Zm 53 52,Zg 54 (.fad 2 (Zt 6)) 53 false,Zg 55 (.load 1 false (Zt 54)) 53 false,Zg 56 (.call 132 [(Zt 55),(.c (.i 1)),(.c (.i 5000))]) 53 false,Zg 57 (.un .not (Zt 56)) 53 false,Zo 58 (.pick (Zt 53) (Zy true) (Zt 57)),Zm 59 58,Zg 60 (.fad 3 (Zt 6)) 59 false,Zg 61 (.load 1 false (Zt 60)) 59 false,Zg 62 (.call 132 [(Zt 61),(.c (.i 0)),(.c (.i 9))]) 59 false,Zg 63 (.un .not (Zt 62)) 59 false,Zo 64 (.pick (Zt 59) (Zy true) (Zt 63)),Zm 65 64,Zg 66 (.mv (Zt 5)) 65 false,Zg 67 (.bin .gtr (Zt 66) (.c (.i 0))) 65 false,Zg 68 (.mv (Zt 67)) 65 false,Zg 69 (.fad 1 (Zt 1)) 68 true,Zg 70 (.load 1 false (Zt 69)) 68 true,Zg 71 (.mv (Zt 5)) 68 true,Zg 72 (.bin .sub (Zt 71) (.c (.i 1))) 68 true,Zg 73 (.idx 4 (Zt 70) (Zt 72)) 68 true,Zg 74 (.load 4 true (Zt 73)) 68 true,Zg 75 (.load 4 true (Zt 6)) 68 true,Zg 76 (.call 182 [(Zt 74),(Zt 75)]) 68 true,Zg 77 (.bin .gtr (Zt 76) (.c (.i 0))) 68 true,Zg 78 (.pick (Zt 68) (Zt 77) (Zy false)) 65 false,Zo 79 (.pick (Zt 65) (Zy true) (Zt 78))] []) (.cond (Zt 79) (Zs [Zo 2 (.mv (Zy false))] .ret) .skip)))) (.reg [Zd 80 .add 30 1,Zm 30 80] []))))
def KX:aw:=(Zs [Za 81 0 1,Zl 82 81,Zk 83 82,Zo 84 (.call 132 [(Zt 83),(.c (.i 2)),(.c (.i 8))]),Zm 85 84,Zg 86 (.fad 1 (Zt 1)) 85 true,Zg 87 (.load 1 false (Zt 86)) 85 true,Zg 88 (.len (Zt 87)) 85 true,Zg 89 (.bin .leq (Zt 88) (.c (.i 14))) 85 true,Zo 90 (.pick (Zt 85) (Zt 89) (Zy false)),Zm 2 90] .ret)
def Ov:aw:=(.seqa (.reg [Za 27 1 1,Zl 28 27,Zk 29 28,Zn 30 0] []) (.blk 2 (.loop xI)) [1] [1] KX)
def A128:aw:=(Zs [Zo 1 (.box 2 (Zt 0)),Zo 2 (.mv (Zy false))] (.seqa (.reg [Za 7 0 1,Zl 8 7,Zk 9 8,Zn 10 0] []) (.blk 0 (.loop xt)) [1] [1] Ov))
theorem m128:bb Tryz.prog 128 1 A128 V91=true:=by kernel_rfl
def A185:aw:=(Zs [Zo 2 (.box 4 (Zt 0)),Zn 4 0] (.seq (Zs [Zm 5 1] (.blk 0 (Zs [Za 7 0 2,Zl 8 7,Zb 9 .eql 5 8,Zm 6 9] (.cond (Zt 6) (Zs [Za 10 1 2,Zl 11 10,Zm 4 11] .ret) (Zs [Za 13 1 2,Zl 14 13,Zb 15 .eql 5 14,Zm 12 15] (.cond (Zt 12) (Zs [Za 16 0 2,Zl 17 16,Zm 4 17] .ret) .skip)))))) (Zs [Zn 4 (-1)] .ret)))
theorem m185:bb Tryz.prog 185 2 A185 V85=true:=by kernel_rfl
def zG:aw:=(Zs [Zb 9 .lss 8 7] (.seq (.cond (Zt 9) .skip (.exit 0)) (.seq (.blk 1 (Zs [Zm 10 8,Zm 5 10] (Zs [Zm 11 1,Zm 12 0,Zm 13 5,Zx 14 1 12 13,Zl 15 14,Zb 16 .eql 11 15] (.cond (Zt 16) (Zs [Zm 17 5,Zm 4 17] .ret) .skip)))) (.reg [Zd 18 .add 8 1,Zm 8 18] []))))
def Nb:aw:=(Zs [Zn 4 (-1)] .ret)
def A146:aw:=(Zs [Zn 4 0] (.seqa (.reg [Zm 6 0,Zk 7 6,Zn 8 0] []) (.blk 0 (.loop zG)) [] [] Nb))
theorem m146:bb Tryz.prog 146 2 A146 V85=true:=by kernel_rfl
def A84:aw:=(Zs [Zo 4 (.mv (Zy false))] (Zs [Zm 5 0,Zm 6 1,Zo 7 (.call 146 [(Zt 5),(Zt 6)]),Zd 8 .geq 7 0,Zm 4 8] .ret))
theorem m84:bb Tryz.prog 84 2 A84 V85=true:=by kernel_rfl
def IU:aw:=(.cond (Zt 23) (.seq (.reg [Zo 4 (.mv (.c (.lst .u 1 []))),Zo 5 (.mv (Zy false))] [.s 4]) .ret) .skip)
def Hm:aw:=(.cond (Zt 56) (.seq (.reg [Zo 4 (.mv (.c (.lst .u 1 []))),Zo 5 (.mv (Zy false))] [.s 4]) .ret) .skip)
def Ad:aw:=(Zs [Zb 33 .lss 32 31] (.seq (.cond (Zt 33) .skip (.exit 0)) (.seq (.blk 1 (Zs [Zx 34 1 30 32,Zl 35 34,Zm 9 35] (.seq (Zs [Zm 36 9,Za 37 1 2,Zl 38 37,Zk 39 38,Zd 40 .sub 39 1,Zo 41 (.call 132 [(Zt 36),(.c (.i 0)),(Zt 40)]),Zo 42 (.un .not (Zt 41))] (.cond (Zt 42) (.seq (.reg [Zo 4 (.mv (.c (.lst .u 1 []))),Zo 5 (.mv (Zy false))] [.s 4]) .ret) .skip)) (Zs [Za 43 1 2,Zl 44 43,Zm 45 9,Zx 46 4 44 45,Zv 47 4 46,Zm 48 7,Zo 49 (.call 185 [(Zt 47),(Zt 48)]),Zm 7 49] (.seq (.seqr (.reg [Zm 50 7,Zd 51 .lss 50 0,Zm 52 51,Zg 53 (.mv (Zt 6)) 52 false,Zg 54 (.mv (Zt 7)) 52 false,Zg 55 (.call 84 [(Zt 53),(Zt 54)]) 52 false,Zo 56 (.pick (Zt 52) (Zy true) (Zt 55))] []) [2,6,7,30,31,32,56] [2,6] Hm) (.reg [Zm 57 6,Zm 58 7,Zo 59 (.bsl 1 false [(Zt 58)]),Zo 60 (.app 1 8 true (Zt 57) (Zt 59)),Zm 6 60] [.s 6])))))) (.reg [Zd 61 .add 32 1,Zm 32 61] []))))
def MY:aw:=(.seq (.reg [Zm 62 6,Zm 4 62,Zo 5 (.mv (Zy true))] [.s 4]) .ret)
def A135:aw:=(.seq (.reg [Zo 2 (.box 2 (Zt 0)),Zo 3 (.box 2 (Zt 1)),Zo 4 (.mv (.c (.lst .u 1 []))),Zo 5 (.mv (Zy false))] [.s 4]) (.seq (.seqr (.reg [Za 10 0 3,Zl 11 10,Za 12 0 2,Zl 13 12,Zk 14 13,Zd 15 .sub 14 1,Zo 16 (.call 132 [(Zt 11),(.c (.i 0)),(Zt 15)]),Zo 17 (.un .not (Zt 16)),Zm 18 17,Zg 19 (.fad 1 (Zt 3)) 18 false,Zg 20 (.load 1 false (Zt 19)) 18 false,Zg 21 (.len (Zt 20)) 18 false,Zg 22 (.bin .eql (Zt 21) (.c (.i 0))) 18 false,Zo 23 (.pick (Zt 18) (Zy true) (Zt 22))] []) [2,3,23] [2,3] IU) (.seq (.drw [Za 24 0 3,Zl 25 24,Zo 26 (.bsl 1 true [(Zt 25)]),Za 27 0 3,Zl 28 27,Zm 6 26,Zm 7 28] [.s 6]) (.seqa (.reg [Za 29 1 3,Zl 30 29,Zk 31 30,Zn 32 0] []) (.blk 0 (.loop Ad)) [6] [6] MY))))
theorem m135:bb Tryz.prog 135 2 A135 mH=true:=by kernel_rfl
def A183:aw:=(Zs [Zo 1 (.box 2 (Zt 0)),Zo 2 (.mv (Zy false))] (Zs [Za 3 0 1,Zl 4 3,Zd 5 .geq 4 0,Zm 6 5,Zg 7 (.fad 1 (Zt 1)) 6 true,Zg 8 (.load 1 false (Zt 7)) 6 true,Zg 9 (.call 132 [(Zt 8),(.c (.i 1)),(.c (.i 24))]) 6 true,Zo 10 (.pick (Zt 6) (Zt 9) (Zy false)),Zm 11 10,Zg 12 (.fad 0 (Zt 1)) 11 true,Zg 13 (.load 1 false (Zt 12)) 11 true,Zg 14 (.fad 1 (Zt 1)) 11 true,Zg 15 (.load 1 false (Zt 14)) 11 true,Zg 16 (.bin .sub (.c (.i 24)) (Zt 15)) 11 true,Zg 17 (.bin .leq (Zt 13) (Zt 16)) 11 true,Zo 18 (.pick (Zt 11) (Zt 17) (Zy false)),Zm 2 18] .ret))
theorem m183:bb Tryz.prog 183 1 A183 V91=true:=by kernel_rfl
def A129:aw:=(Zs [Zo 2 (.box 2 (Zt 0)),Zo 3 (.box 5 (Zt 1)),Zo 4 (.mv (Zy false))] (.seq (.reg [Zv 8 2 2,Za 9 1 3,Zv 10 2 9,Zo 11 (.call 135 [(Zt 8),(Zt 10)]),Zm 7 11,Ze 12 7 0,Ze 13 7 1,Zm 5 12,Zm 6 13] [.s 5]) (Zs [Zm 14 6,Zm 15 14,Zg 16 (.fad 0 (Zt 3)) 15 true,Zg 17 (.load 1 false (Zt 16)) 15 true,Zg 18 (.call 132 [(Zt 17),(.c (.i 1)),(.c (.i 999))]) 15 true,Zo 19 (.pick (Zt 15) (Zt 18) (Zy false)),Zm 20 19,Zg 21 (.fad 3 (Zt 3)) 20 true,Zg 22 (.load 2 true (Zt 21)) 20 true,Zg 23 (.call 183 [(Zt 22)]) 20 true,Zo 24 (.pick (Zt 20) (Zt 23) (Zy false)),Zm 4 24] .ret)))
theorem m129:bb Tryz.prog 129 2 A129 V85=true:=by kernel_rfl
def A184:aw:=(Zs [Zo 1 (.box 2 (Zt 0)),Zn 2 0] (.seq (.drw [Za 3 1 1,Zl 4 3,Zo 5 (.bin .shl (.c (.i 1)) (Zt 4)),Zd 6 .sub 5 1,Za 7 0 1,Zl 8 7,Zb 9 .shl 6 8,Zm 2 9] []) .ret))
theorem m184:bb Tryz.prog 184 1 A184 V91=true:=by kernel_rfl
def Gt:aw:=(Zs [Zm 19 2,Zm 20 0,Zo 21 (.conv .u8 (Zt 20)),Zo 22 (.stri (.c (.z ⟨#[0,1,2,2,3,3,3,3,4,4,4,4,4,4,4,4,5,5,5,5,5,5,5,5,5,5,5,5,5,5,5,5,6,6,6,6,6,6,6,6,6,6,6,6,6,6,6,6,6,6,6,6,6,6,6,6,6,6,6,6,6,6,6,6,7,7,7,7,7,7,7,7,7,7,7,7,7,7,7,7,7,7,7,7,7,7,7,7,7,7,7,7,7,7,7,7,7,7,7,7,7,7,7,7,7,7,7,7,7,7,7,7,7,7,7,7,7,7,7,7,7,7,7,7,7,7,7,7,8,8,8,8,8,8,8,8,8,8,8,8,8,8,8,8,8,8,8,8,8,8,8,8,8,8,8,8,8,8,8,8,8,8,8,8,8,8,8,8,8,8,8,8,8,8,8,8,8,8,8,8,8,8,8,8,8,8,8,8,8,8,8,8,8,8,8,8,8,8,8,8,8,8,8,8,8,8,8,8,8,8,8,8,8,8,8,8,8,8,8,8,8,8,8,8,8,8,8,8,8,8,8,8,8,8,8,8,8,8,8,8,8,8,8,8,8,8,8,8,8,8,8,8,8,8,8,8]⟩)) (Zt 21)),Zo 23 (.conv .i64 (Zt 22)),Zb 24 .add 19 23,Zm 2 24] .ret)
def NV:aw:=(.seqr (Zs [Zm 13 0,Zo 14 (.bin .geq (Zt 13) (.c (.sc (.int .u64 256))))] (.cond (Zt 14) (Zs [Zm 15 0,Zo 16 (.bin .shr (Zt 15) (.c (.sc (.int .u64 8)))),Zm 0 16] (.reg [Zm 17 2,Zd 18 .add 17 8,Zm 2 18] [])) .skip)) [0,2] [] Gt)
def Hh:aw:=(.seqr (Zs [Zm 7 0,Zo 8 (.bin .geq (Zt 7) (.c (.sc (.int .u64 65536))))] (.cond (Zt 8) (Zs [Zm 9 0,Zo 10 (.bin .shr (Zt 9) (.c (.sc (.int .u64 16)))),Zm 0 10] (.reg [Zm 11 2,Zd 12 .add 11 16,Zm 2 12] [])) .skip)) [0,2] [] NV)
def A211:aw:=(Zs [Zn 2 0] (.seqr (Zs [Zm 3 0,Zo 4 (.bin .geq (Zt 3) (.c (.sc (.int .u64 4294967296))))] (.cond (Zt 4) (Zs [Zm 5 0,Zo 6 (.bin .shr (Zt 5) (.c (.sc (.int .u64 32)))),Zm 0 6] (.reg [Zn 2 32] [])) .skip)) [0,2] [] Hh))
theorem m211:bb Tryz.prog 211 1 A211 V91=true:=by kernel_rfl
def A172:aw:=(Zs [Zn 2 0] (.seq (.cond (Zy false) (Zs [Zm 3 0,Zo 4 (.conv .u32 (Zt 3)),Zo 5 (.call 210 [(Zt 4)]),Zm 2 5] .ret) .skip) (Zs [Zm 6 0,Zo 7 (.call 211 [(Zt 6)]),Zm 2 7] .ret)))
theorem m172:bb Tryz.prog 172 1 A172 V91=true:=by kernel_rfl
def A207:aw:=(Zs [Zo 4 (.mv (Zy false))] (Zs [Zm 5 0,Zo 6 (.call 233 [(Zt 5)]),Zm 7 6,Zg 8 (.mv (Zt 1)) 7 true,Zg 9 (.call 233 [(Zt 8)]) 7 true,Zg 10 (.un .not (Zt 9)) 7 true,Zo 11 (.pick (Zt 7) (Zt 10) (Zy false)),Zm 12 11,Zg 13 (.mv (Zt 0)) 12 false,Zg 14 (.mv (Zt 1)) 12 false,Zg 15 (.bin .lss (Zt 13) (Zt 14)) 12 false,Zo 16 (.pick (Zt 12) (Zy true) (Zt 15)),Zm 4 16] .ret))
theorem m207:bb Tryz.prog 207 2 A207 V85=true:=by kernel_rfl
def uP:aw:=(.cond (Zt 30) .skip (.exit 2))
def qp:aw:=(.seq (.seqr (.drw [Zm 16 7,Zm 17 1,Zb 18 .gtr 16 17,Zm 19 18,Zg 20 (.mv (Zt 0)) 19 true,Zg 21 (.mv (Zt 7)) 19 true,Zg 22 (.idx 1 (Zt 20) (Zt 21)) 19 true,Zg 23 (.load 1 false (Zt 22)) 19 true,Zg 24 (.mv (Zt 0)) 19 true,Zg 25 (.mv (Zt 7)) 19 true,Zg 26 (.bin .sub (Zt 25) (.c (.i 1))) 19 true,Zg 27 (.idx 1 (Zt 24) (Zt 26)) 19 true,Zg 28 (.load 1 false (Zt 27)) 19 true,Zg 29 (.call 207 [(Zt 23),(Zt 28)]) 19 true,Zo 30 (.pick (Zt 19) (Zt 29) (Zy false))] []) [0,1,2,6,7,30] [1000000000] uP) (.seq (.blk 3 (.drw [Zm 33 0,Zm 34 7,Zm 35 0,Zm 36 7,Zd 37 .sub 36 1,Zm 38 0,Zm 39 7,Zd 40 .sub 39 1,Zx 41 1 38 40,Zl 42 41,Zm 43 0,Zm 44 7,Zx 45 1 43 44,Zl 46 45,Zx 47 1 33 34,Zw (.store 1 (Zt 47) (Zt 42)),Zx 48 1 35 37,Zw (.store 1 (Zt 48) (Zt 46))] [])) (.reg [Zm 31 7,Zd 32 .sub 31 1,Zm 7 32] [])))
def vO:aw:=(.reg [Zm 13 6,Zd 14 .add 13 1,Zm 6 14] [])
def pL:aw:=(.seq (Zs [Zm 10 6,Zm 11 2,Zb 12 .lss 10 11] (.cond (Zt 12) .skip (.exit 0))) (.seqr (.blk 1 (Zs [Zm 15 6,Zm 7 15] (.blk 2 (.loop qp)))) [0,1,2,6] [1000000000] vO))
def IK:aw:=(Zs [Zm 8 1,Zd 9 .add 8 1,Zm 6 9] (.blk 0 (.loop pL)))
theorem Wq:bb Tryz.prog 201 3 IK co=true:=by kernel_rfl
def qC:aw:=(.blk 1 (Zs [Zm 19 2,Zm 20 1,Zb 21 .sub 19 20,Zm 10 21] (.seq (Zs [Zm 22 10,Zd 23 .leq 22 12] (.cond (Zt 23) (Zs [Zm 24 0,Zm 25 1,Zm 26 2,Zo 27 (.callM 201 [(Zt 24),(Zt 25),(Zt 26)] [1000000000])] .ret) .skip)) (.seq (Zs [Zm 28 3,Zd 29 .eql 28 0] (.cond (Zt 29) (Zs [Zm 30 0,Zm 31 1,Zm 32 2,Zo 33 (.call 202 [(Zt 30),(Zt 31),(Zt 32)])] .ret) .skip)) (.seq (Zs [Zm 34 8,Zo 35 (.un .not (Zt 34))] (.cond (Zt 35) (Zs [Zm 36 0,Zm 37 1,Zm 38 2,Zo 39 (.call 203 [(Zt 36),(Zt 37),(Zt 38)])] (.reg [Zm 40 3,Zd 41 .sub 40 1,Zm 3 41] [])) .skip)) (Zs [Zm 43 0,Zm 44 1,Zm 45 2,Zo 46 (.call 204 [(Zt 43),(Zt 44),(Zt 45)]),Zm 42 46,Ze 47 42 0,Ze 48 42 1,Zm 11 47,Zm 12 48] (.seq (Zs [Zm 49 12,Zd 50 .eql 49 2] (.cond (Zt 50) (Zs [Zm 51 0,Zm 52 1,Zm 53 2,Zo 54 (.call 205 [(Zt 51),(Zt 52),(Zt 53)])] (Zs [Zm 55 2,Zd 56 .sub 55 1,Zm 57 11,Zm 58 1,Zb 59 .sub 57 58,Zb 60 .sub 56 59,Zm 11 60] (.reg [Zn 12 1] []))) .skip)) (.seq (Zs [Zm 61 8,Zm 62 61,Zg 63 (.mv (Zt 9)) 62 true,Zo 64 (.pick (Zt 62) (Zt 63) (Zy false)),Zm 65 64,Zg 66 (.mv (Zt 12)) 65 true,Zg 67 (.bin .eql (Zt 66) (.c (.i 1))) 65 true,Zo 68 (.pick (Zt 65) (Zt 67) (Zy false))] (.cond (Zt 68) (Zs [Zm 69 0,Zm 70 1,Zm 71 2,Zo 72 (.call 206 [(Zt 69),(Zt 70),(Zt 71)])] (.cond (Zt 72) .ret .skip)) .skip)) (.seq (.seq (.drw [Zm 73 1,Zd 74 .gtr 73 0,Zm 75 74,Zg 76 (.mv (Zt 0)) 75 true,Zg 77 (.mv (Zt 1)) 75 true,Zg 78 (.bin .sub (Zt 77) (.c (.i 1))) 75 true,Zg 79 (.idx 1 (Zt 76) (Zt 78)) 75 true,Zg 80 (.load 1 false (Zt 79)) 75 true,Zg 81 (.mv (Zt 0)) 75 true,Zg 82 (.mv (Zt 11)) 75 true,Zg 83 (.idx 1 (Zt 81) (Zt 82)) 75 true,Zg 84 (.load 1 false (Zt 83)) 75 true,Zg 85 (.call 207 [(Zt 80),(Zt 84)]) 75 true,Zg 86 (.un .not (Zt 85)) 75 true,Zo 87 (.pick (Zt 75) (Zt 86) (Zy false))] []) (.cond (Zt 87) (Zs [Zm 88 0,Zm 89 1,Zm 90 2,Zm 91 11,Zo 92 (.call 208 [(Zt 88),(Zt 89),(Zt 90),(Zt 91)]),Zm 13 92] (Zs [Zm 93 13,Zm 1 93] (.exit 1))) .skip)) (Zs [Zm 95 0,Zm 96 1,Zm 97 2,Zm 98 11,Zo 99 (.call 209 [(Zt 95),(Zt 96),(Zt 97),(Zt 98)]),Zm 94 99,Ze 100 94 0,Ze 101 94 1,Zm 14 100,Zm 15 101] (Zs [Zm 102 15,Zm 9 102] (Zs [Zm 103 14,Zm 104 1,Zb 105 .sub 103 104,Zm 106 2,Zm 107 14,Zb 108 .sub 106 107,Zm 16 105,Zm 17 108] (Zs [Zm 109 10,Zd 110 .quo 109 8,Zm 18 110] (Zs [Zm 111 16,Zm 112 17,Zb 113 .lss 111 112] (.cond (Zt 113) (Zs [Zm 114 16,Zm 115 18,Zb 116 .geq 114 115,Zm 8 116] (Zs [Zm 117 0,Zm 118 1,Zm 119 14,Zm 120 3,Zo 121 (.call 171 [(Zt 117),(Zt 118),(Zt 119),(Zt 120)])] (.reg [Zm 122 14,Zd 123 .add 122 1,Zm 1 123] []))) (Zs [Zm 124 17,Zm 125 18,Zb 126 .geq 124 125,Zm 8 126] (Zs [Zm 127 0,Zm 128 14,Zd 129 .add 128 1,Zm 130 2,Zm 131 3,Zo 132 (.call 171 [(Zt 127),(Zt 129),(Zt 130),(Zt 131)])] (.reg [Zm 133 14,Zm 2 133] []))))))))))))))))))
def MH:aw:=(Zs [Zo 8 (.mv (Zy true))] (Zs [Zo 9 (.mv (Zy true))] (.blk 0 (.loop qC))))
theorem Vk:bb Tryz.prog 171 4 MH co=true:=by kernel_rfl
def Lk:aw:=(Zs [Zm 3 0,Zk 4 3,Zm 2 4] (.reg [Zm 5 0,Zm 6 2,Zm 7 2,Zo 8 (.conv .u64 (Zt 7)),Zo 9 (.call 172 [(Zt 8)]),Zo 10 (.callM 171 [(Zt 5),(.c (.i 0)),(Zt 6),(Zt 9)] [1000000000])] []))
theorem Wt:bb Tryz.prog 111 1 Lk co=true:=by kernel_rfl
def pS:aw:=(.seq (Zs [Zm 29 5,Zm 30 4,Zk 31 30,Zb 32 .lss 29 31] (.cond (Zt 32) .skip (.exit 2))) (.seq (.blk 3 (.seq (.drw [Zm 35 4,Zm 36 5,Zx 37 1 35 36,Zl 38 37,Zm 39 4,Zm 40 5,Zd 41 .sub 40 1,Zx 42 1 39 41,Zl 43 42,Zb 44 .neq 38 43] []) (.cond (Zt 44) (Zs [Zm 45 0,Zm 46 3,Zm 47 4,Zm 48 5,Zx 49 1 47 48,Zl 50 49,Zx 51 1 45 46,Zw (.store 1 (Zt 51) (Zt 50))] (.reg [Zm 52 3,Zd 53 .add 52 1,Zm 3 53] [])) .skip))) (.reg [Zm 33 5,Zd 34 .add 33 1,Zm 5 34] [])))
def vC:aw:=(Zs [Zm 54 0,Zm 55 3,Zo 56 (.slc 1 (Zt 54) (some (Zt 55)) none none),Zw (.clr 1 (.i 0) (Zt 56))] (.seq (.reg [Zm 57 0,Zm 58 3,Zo 59 (.slc 1 (Zt 57) none (some (Zt 58)) none),Zm 2 59] [.s 2]) .ret))
def qr:aw:=(.seq (Zs [Zm 10 3,Zm 11 0,Zk 12 11,Zb 13 .lss 10 12] (.cond (Zt 13) .skip (.exit 0))) (.seq (.blk 1 (.seq (.drw [Zm 16 0,Zm 17 3,Zx 18 1 16 17,Zl 19 18,Zm 20 0,Zm 21 3,Zd 22 .sub 21 1,Zx 23 1 20 22,Zl 24 23,Zb 25 .eql 19 24] []) (.cond (Zt 25) (.seq (.reg [Zm 26 0,Zm 27 3,Zo 28 (.slc 1 (Zt 26) (some (Zt 27)) none none),Zm 4 28] [.s 4]) (.seqa (.reg [Zn 5 1] []) (.blk 2 (.loop pS)) [0,3] [1000000000] vC)) .skip))) (.reg [Zm 14 3,Zd 15 .add 14 1,Zm 3 15] [])))
def xd:aw:=(.seq (.reg [Zm 60 0,Zm 2 60] [.s 2]) .ret)
def NE:aw:=(.seq (.reg [Zo 2 (.mv (.c (.lst .u 1 [])))] [.s 2]) (.seq (Zs [Zm 6 0,Zk 7 6,Zd 8 .lss 7 2] (.cond (Zt 8) (.seq (.reg [Zm 9 0,Zm 2 9] [.s 2]) .ret) .skip)) (.seqa (.reg [Zn 3 1] []) (.blk 0 (.loop qr)) [0] [1000000000] xd)))
theorem Up:bb Tryz.prog 112 1 NE V91=true:=by kernel_rfl
def Mm:aw:=(Zs [Zb 12 .lss 11 10] (.seq (.cond (Zt 12) .skip (.exit 0)) (.seq (.blk 1 (Zs [Zx 13 1 9 11,Zl 14 13,Zm 7 14] (Zs [Zm 15 1,Zm 16 7,Zo 17 (.call 84 [(Zt 15),(Zt 16)])] (.cond (Zt 17) (.reg [Zm 18 5,Zm 19 7,Zo 20 (.bsl 1 false [(Zt 19)]),Zo 21 (.app 1 8 true (Zt 18) (Zt 20)),Zm 5 21] [.s 5]) .skip)))) (.reg [Zd 22 .add 11 1,Zm 11 22] []))))
def Tx:aw:=(Zs [Zm 23 5,Zo 24 (.callM 111 [(Zt 23)] [5])] (.seq (.reg [Zm 25 5,Zo 26 (.callM 112 [(Zt 25)] [5]),Zm 4 26] [.s 4]) .ret))
def A68:aw:=(.seq (.reg [Zo 4 (.mv (.c (.lst .u 1 [])))] [.s 4]) (.seq (.reg [Zo 8 (.bsl 1 false []),Zm 5 8] [.s 5]) (.seqa (.reg [Zm 9 0,Zk 10 9,Zn 11 0] []) (.blk 0 (.loop Mm)) [5] [5] Tx)))
theorem m68:bb Tryz.prog 68 2 A68 V85=true:=by kernel_rfl
def A131:aw:=(Zs [Zo 2 (.box 5 (Zt 0)),Zo 3 (.box 5 (Zt 1)),Zo 4 (.mv (Zy false))] (.seq (.drw [Za 5 3 2,Zv 6 2 5,Zo 7 (.call 184 [(Zt 6)]),Za 8 3 3,Zv 9 2 8,Zo 10 (.call 184 [(Zt 9)]),Zb 11 .and 7 10,Zd 12 .neq 11 0,Zm 13 12,Zg 14 (.fad 1 (Zt 2)) 13 true,Zg 15 (.fad 1 (Zt 14)) 13 true,Zg 16 (.load 1 false (Zt 15)) 13 true,Zg 17 (.fad 1 (Zt 3)) 13 true,Zg 18 (.fad 1 (Zt 17)) 13 true,Zg 19 (.load 1 false (Zt 18)) 13 true,Zg 20 (.call 68 [(Zt 16),(Zt 19)]) 13 true,Zg 21 (.len (Zt 20)) 13 true,Zg 22 (.bin .gtr (Zt 21) (.c (.i 0))) 13 true,Zo 23 (.pick (Zt 13) (Zt 22) (Zy false)),Zm 4 23] []) .ret))
theorem m131:bb Tryz.prog 131 2 A131 V85=true:=by kernel_rfl
def A130:aw:=(Zs [Zo 2 (.box 5 (Zt 0)),Zo 3 (.mv (Zy false))] (Zs [Zv 4 5 2,Zv 5 5 1,Zo 6 (.call 131 [(Zt 4),(Zt 5)]),Zm 3 6] .ret))
def lJ:List RV:=[.t 3]
theorem m130:bb Tryz.prog 130 2 A130 lJ=true:=by kernel_rfl
def xV:aw:=(Zs [Zb 9 .lss 8 7] (.seq (.cond (Zt 9) .skip (.exit 0)) (.seq (.blk 1 (Zs [Zm 10 8,Zm 5 10] (Zs [Zm 11 1,Zm 12 0,Zm 13 5,Zx 14 5 12 13,Zv 15 5 14,Zo 16 (.dyn (Zt 11) [(Zt 15)])] (.cond (Zt 16) (Zs [Zm 17 5,Zm 4 17] .ret) .skip)))) (.reg [Zd 18 .add 8 1,Zm 8 18] []))))
def Ng:aw:=(Zs [Zn 4 (-1)] .ret)
def A133:aw:=(Zs [Zn 4 0] (.seqa (.reg [Zm 6 0,Zk 7 6,Zn 8 0] []) (.blk 0 (.loop xV)) [] [] Ng))
theorem m133:bb Tryz.prog 133 2 A133 V85=true:=by kernel_rfl
def A65:aw:=(Zs [Zo 4 (.mv (Zy false))] (Zs [Zm 5 0,Zm 6 1,Zo 7 (.call 133 [(Zt 5),(Zt 6)]),Zd 8 .geq 7 0,Zm 4 8] .ret))
theorem m65:bb Tryz.prog 65 2 A65 V85=true:=by kernel_rfl
def TR:aw:=(.cond (Zt 14) (Zs [Zo 2 (.mv (Zy false))] .ret) .skip)
def MR:aw:=(Zs [Zb 19 .lss 18 17] (.seq (.cond (Zt 19) .skip (.exit 0)) (.seq (.blk 1 (Zs [Zm 20 18,Zx 21 5 16 18,Zv 22 5 21,Zo 4 (.alloc (.agg [.i 0,.i 0,.lst .u 1 [],.i 0,.i 0])),Zm 3 20,Zw (.store 5 (Zt 4) (Zt 22))] (.seq (.drw [Za 23 0 1,Zv 24 2 23,Zv 25 5 4,Zo 26 (.call 129 [(Zt 24),(Zt 25)]),Zo 27 (.un .not (Zt 26)),Zm 28 27,Zg 29 (.mv (Zt 3)) 28 false,Zg 30 (.bin .gtr (Zt 29) (.c (.i 0))) 28 false,Zg 31 (.mv (Zt 30)) 28 false,Zg 32 (.fad 2 (Zt 1)) 31 true,Zg 33 (.load 1 false (Zt 32)) 31 true,Zg 34 (.mv (Zt 3)) 31 true,Zg 35 (.bin .sub (Zt 34) (.c (.i 1))) 31 true,Zg 36 (.idx 5 (Zt 33) (Zt 35)) 31 true,Zg 37 (.fad 0 (Zt 36)) 31 true,Zg 38 (.load 1 false (Zt 37)) 31 true,Zg 39 (.fad 0 (Zt 4)) 31 true,Zg 40 (.load 1 false (Zt 39)) 31 true,Zg 41 (.bin .geq (Zt 38) (Zt 40)) 31 true,Zg 42 (.pick (Zt 31) (Zt 41) (Zy false)) 28 false,Zo 43 (.pick (Zt 28) (Zy true) (Zt 42)),Zm 44 43,Zg 45 (.fad 2 (Zt 1)) 44 false,Zg 46 (.load 1 false (Zt 45)) 44 false,Zg 47 (.mv (Zt 3)) 44 false,Zg 48 (.slc 5 (Zt 46) none (some (Zt 47)) none) 44 false,Zg 49 (.mkf 130 [(Zt 4)]) 44 false,Zg 50 (.call 65 [(Zt 48),(Zt 49)]) 44 false,Zo 51 (.pick (Zt 44) (Zy true) (Zt 50))] []) (.cond (Zt 51) (Zs [Zo 2 (.mv (Zy false))] .ret) .skip)))) (.reg [Zd 52 .add 18 1,Zm 18 52] []))))
def Th:aw:=(Zs [Zo 2 (.mv (Zy true))] .ret)
def A63:aw:=(Zs [Zo 1 (.box 3 (Zt 0)),Zo 2 (.mv (Zy false))] (.seq (.seqr (.reg [Za 5 0 1,Zv 6 2 5,Zo 7 (.call 128 [(Zt 6)]),Zo 8 (.un .not (Zt 7)),Zm 9 8,Zg 10 (.fad 2 (Zt 1)) 9 false,Zg 11 (.load 1 false (Zt 10)) 9 false,Zg 12 (.len (Zt 11)) 9 false,Zg 13 (.bin .gtr (Zt 12) (.c (.i 12))) 9 false,Zo 14 (.pick (Zt 9) (Zy true) (Zt 13))] []) [1,14] [1] TR) (.seqa (.reg [Za 15 2 1,Zl 16 15,Zk 17 16,Zn 18 0] []) (.blk 0 (.loop MR)) [] [] Th)))
theorem m63:bb Tryz.prog 63 1 A63 V91=true:=by kernel_rfl
def Jf:aw:=(Zs [Zb 10 .lss 9 8] (.seq (.cond (Zt 10) .skip (.exit 0)) (.seq (.blk 1 (Zs [Zm 11 9,Zx 12 1 7 9,Zl 13 12,Zm 5 11,Zm 6 13] (Zs [Zm 14 6,Zm 15 1,Zd 16 .sub 15 1,Zo 17 (.call 132 [(Zt 14),(.c (.i 0)),(Zt 16)]),Zo 18 (.un .not (Zt 17)),Zm 19 18,Zg 20 (.mv (Zt 5)) 19 false,Zg 21 (.bin .gtr (Zt 20) (.c (.i 0))) 19 false,Zg 22 (.mv (Zt 21)) 19 false,Zg 23 (.mv (Zt 0)) 22 true,Zg 24 (.mv (Zt 5)) 22 true,Zg 25 (.bin .sub (Zt 24) (.c (.i 1))) 22 true,Zg 26 (.idx 1 (Zt 23) (Zt 25)) 22 true,Zg 27 (.load 1 false (Zt 26)) 22 true,Zg 28 (.mv (Zt 6)) 22 true,Zg 29 (.bin .geq (Zt 27) (Zt 28)) 22 true,Zg 30 (.pick (Zt 22) (Zt 29) (Zy false)) 19 false,Zo 31 (.pick (Zt 19) (Zy true) (Zt 30))] (.cond (Zt 31) (Zs [Zo 4 (.mv (Zy false))] .ret) .skip)))) (.reg [Zd 32 .add 9 1,Zm 9 32] []))))
def Un:aw:=(Zs [Zo 4 (.mv (Zy true))] .ret)
def A64:aw:=(Zs [Zo 4 (.mv (Zy false))] (.seqa (.reg [Zm 7 0,Zk 8 7,Zn 9 0] []) (.blk 0 (.loop Jf)) [] [] Un))
theorem m64:bb Tryz.prog 64 2 A64 V85=true:=by kernel_rfl
def A134:aw:=(Zs [Zo 2 (.box 5 (Zt 0)),Zo 3 (.mv (Zy false))] (Zs [Za 4 0 2,Zl 5 4,Zl 6 1,Zb 7 .eql 5 6,Zm 3 7] .ret))
theorem m134:bb Tryz.prog 134 2 A134 lJ=true:=by kernel_rfl
def A67:aw:=(Zs [Zo 2 (.box 5 (Zt 0)),Zo 3 (.box 1 (Zt 1)),Zn 4 0] (Zs [Za 5 3 2,Zl 6 5,Zo 7 (.mkf 134 [(Zt 3)]),Zo 8 (.call 133 [(Zt 6),(Zt 7)]),Zm 4 8] .ret))
theorem m67:bb Tryz.prog 67 2 A67 V85=true:=by kernel_rfl
def A69:aw:=(Zs [Zo 2 (.box 2 (Zt 0)),Zo 3 (.box 2 (Zt 1)),Zn 4 0] (.seq (.reg [Zv 8 2 2,Zv 9 2 3,Zo 10 (.call 135 [(Zt 8),(Zt 9)]),Zm 7 10,Ze 11 7 0,Ze 12 7 1,Zm 5 11,Zm 6 12] [.s 5]) (Zs [Zm 13 5,Zm 14 5,Zk 15 14,Zd 16 .sub 15 1,Zx 17 1 13 16,Zl 18 17,Zm 4 18] .ret)))
theorem m69:bb Tryz.prog 69 2 A69 V85=true:=by kernel_rfl
def Tj:aw:=(.cond (Zt 22) (Zs [Zo 4 (.mv (Zy true))] .ret) .skip)
def A66:aw:=(Zs [Zo 3 (.box 5 (Zt 0)),Zo 4 (.mv (Zy false))] (Zs [Zv 7 5 1,Za 8 0 3,Zl 9 8,Zo 10 (.call 67 [(Zt 7),(Zt 9)]),Zm 5 10] (.seq (.seqr (.reg [Zm 11 5,Zd 12 .lss 11 0,Zm 13 12,Zg 14 (.fad 1 (Zt 3)) 13 false,Zg 15 (.fad 1 (Zt 14)) 13 false,Zg 16 (.load 1 false (Zt 15)) 13 false,Zg 17 (.fad 4 (Zt 1)) 13 false,Zg 18 (.load 1 false (Zt 17)) 13 false,Zg 19 (.call 68 [(Zt 16),(Zt 18)]) 13 false,Zg 20 (.len (Zt 19)) 13 false,Zg 21 (.bin .gtr (Zt 20) (.c (.i 0))) 13 false,Zo 22 (.pick (Zt 13) (Zy true) (Zt 21))] []) [1,2,3,5,22] [3] Tj) (Zs [Za 23 3 1,Zl 24 23,Zm 25 5,Zx 26 5 24 25,Zv 27 5 26,Zo 6 (.alloc (.agg [.i 0,.i 0,.lst .u 1 [],.i 0,.i 0])),Zw (.store 5 (Zt 6) (Zt 27))] (.seq (.drw [Za 28 1 6,Za 29 0 28,Zl 30 29,Za 31 1 3,Za 32 0 31,Zl 33 32,Zb 34 .neq 30 33,Zm 35 34,Zg 36 (.load 2 true (Zt 2)) 35 false,Zg 37 (.fad 1 (Zt 6)) 35 false,Zg 38 (.load 2 true (Zt 37)) 35 false,Zg 39 (.call 69 [(Zt 36),(Zt 38)]) 35 false,Zg 40 (.load 2 true (Zt 2)) 35 false,Zg 41 (.fad 1 (Zt 3)) 35 false,Zg 42 (.load 2 true (Zt 41)) 35 false,Zg 43 (.call 69 [(Zt 40),(Zt 42)]) 35 false,Zg 44 (.bin .neq (Zt 39) (Zt 43)) 35 false,Zo 45 (.pick (Zt 35) (Zy true) (Zt 44)),Zm 46 45,Zg 47 (.fad 3 (Zt 6)) 46 false,Zg 48 (.fad 1 (Zt 47)) 46 false,Zg 49 (.load 1 false (Zt 48)) 46 false,Zg 50 (.fad 3 (Zt 3)) 46 false,Zg 51 (.fad 1 (Zt 50)) 46 false,Zg 52 (.load 1 false (Zt 51)) 46 false,Zg 53 (.bin .neq (Zt 49) (Zt 52)) 46 false,Zo 54 (.pick (Zt 46) (Zy true) (Zt 53)),Zm 4 54] []) .ret)))))
theorem m66:bb Tryz.prog 66 3 A66 V85=true:=by kernel_rfl
def TH:aw:=(.cond (Zt 27) (Zs [Zo 2 (.mv (Zy false))] .ret) .skip)
def A16:aw:=(Zs [Zo 1 (.box 5 (Zt 0)),Zo 2 (.mv (Zy false))] (Zs [Za 4 0 1,Za 5 0 4,Zv 6 2 5,Zo 3 (.alloc (.agg [.lst .u 1 [],.lst .u 4 []])),Zw (.store 2 (Zt 3) (Zt 6))] (.seq (.seqr (.reg [Za 7 0 1,Zv 8 3 7,Zo 9 (.call 63 [(Zt 8)]),Zo 10 (.un .not (Zt 9)),Zm 11 10,Zg 12 (.load 2 true (Zt 3)) 11 false,Zg 13 (.fad 3 (Zt 1)) 11 false,Zg 14 (.load 1 false (Zt 13)) 11 false,Zg 15 (.build [.lst .u 1 [],.lst .u 4 [],.lst .u 5 []] [(0,2,(Zt 12)),(2,1,(Zt 14))]) 11 false,Zg 16 (.call 63 [(Zt 15)]) 11 false,Zg 17 (.un .not (Zt 16)) 11 false,Zo 18 (.pick (Zt 11) (Zy true) (Zt 17)),Zm 19 18,Zg 20 (.fad 4 (Zt 1)) 19 false,Zg 21 (.load 1 false (Zt 20)) 19 false,Zg 22 (.fad 1 (Zt 3)) 19 false,Zg 23 (.load 1 false (Zt 22)) 19 false,Zg 24 (.len (Zt 23)) 19 false,Zg 25 (.call 64 [(Zt 21),(Zt 24)]) 19 false,Zg 26 (.un .not (Zt 25)) 19 false,Zo 27 (.pick (Zt 19) (Zy true) (Zt 26))] []) [1,3,27] [1,3] TH) (Zs [Za 28 0 1,Za 29 2 28,Zl 30 29,Zo 31 (.mkf 66 [(Zt 1),(Zt 3)]),Zo 32 (.call 65 [(Zt 30),(Zt 31)]),Zo 33 (.un .not (Zt 32)),Zm 2 33] .ret))))
theorem m16:bb Tryz.prog 16 1 A16 V91=true:=by kernel_rfl
def A157:aw:=(Zs [Zo 1 (.box 2 (Zt 0)),Zo 2 (.alloc (.agg [.lst .u 1 [],.lst .u 4 []]))] (.seq (.drw [Zo 3 (.bsl 1 true []),Za 4 0 1,Zl 5 4,Zo 6 (.app 1 16 false (Zt 3) (Zt 5)),Zo 7 (.bsl 4 true []),Za 8 1 1,Zl 9 8,Zo 10 (.app 4 32 false (Zt 7) (Zt 9)),Zo 11 (.build [.lst .u 1 [],.lst .u 4 []] [(0,1,(Zt 6)),(1,1,(Zt 10))]),Zw (.store 2 (Zt 2) (Zt 11))] []) .ret))
theorem m157:bb Tryz.prog 157 1 A157 V37=true:=by kernel_rfl
def A108:aw:=(Zs [Zo 1 (.box 2 (Zt 0)),Zo 2 (.alloc (.agg [.i 0,.lst .u 1 []]))] (.seq (.drw [Za 3 0 1,Zl 4 3,Zo 5 (.bsl 1 true []),Za 6 1 1,Zl 7 6,Zo 8 (.app 1 8 false (Zt 5) (Zt 7)),Zo 9 (.build [.i 0,.lst .u 1 []] [(0,1,(Zt 4)),(1,1,(Zt 8))]),Zw (.store 2 (Zt 2) (Zt 9))] []) .ret))
theorem m108:bb Tryz.prog 108 1 A108 V37=true:=by kernel_rfl
def Gv:aw:=(Zs [Zb 14 .lss 13 12] (.seq (.cond (Zt 14) .skip (.exit 0)) (.seq (.blk 1 (.seq (.reg [Zx 15 5 11 13,Zv 16 5 15,Zo 5 (.alloc (.agg [.i 0,.i 0,.lst .u 1 [],.i 0,.i 0])),Zw (.store 5 (Zt 5) (Zt 16))] [.f false 500000322 5 2]) (.drw [Zo 17 (.fdv [] 2 (Zt 3)),Zo 18 (.ldv [] 1 false (Zt 17)),Za 19 0 5,Zl 20 19,Za 21 1 5,Zv 22 2 21,Zo 23 (.call 108 [(Zt 22)]),Za 24 3 5,Zv 25 2 24,Zo 26 (.build [.i 0,.i 0,.lst .u 1 [],.i 0,.i 0] [(0,1,(Zt 20)),(1,2,(Zt 23)),(3,2,(Zt 25))]),Zo 27 (.bsm 5 [(Zt 26)]),Zo 28 (.app 5 56 true (Zt 18) (Zt 27)),Za 29 2 3,Zw (.store 1 (Zt 29) (Zt 28))] [.f false 500000194 3 2]))) (.reg [Zd 30 .add 13 1,Zm 13 30] []))))
def TC:aw:=(.seq (.reg [Zv 31 3 3,Zw (.store 3 (Zt 2) (Zt 31))] [.f false 500000128 2 0,.f false 500000129 2 1,.f false 500000130 2 2]) .ret)
def A98:aw:=(Zs [Zo 1 (.box 3 (Zt 0)),Zo 2 (.alloc (.agg [.lst .u 1 [],.lst .u 4 [],.lst .u 5 []]))] (.seq (.reg [Za 6 0 1,Zv 7 2 6,Zo 8 (.call 157 [(Zt 7)]),Zo 9 (.build [.lst .u 1 [],.lst .u 4 [],.lst .u 5 []] [(0,2,(Zt 8))]),Zo 3 (.alloc (.agg [.lst .u 1 [],.lst .u 4 [],.lst .u 5 []])),Zw (.store 3 (Zt 3) (Zt 9))] [.f false 500000192 3 0,.f false 500000193 3 1,.f false 500000194 3 2]) (.seqa (.reg [Za 10 2 1,Zl 11 10,Zk 12 11,Zn 13 0] []) (.blk 0 (.loop Gv)) [2,3] [2,3,500000192,500000193,500000194] TC)))
theorem m98:bb Tryz.prog 98 1 A98 V26=true:=by kernel_rfl
def A142:aw:=(.seq (.reg [Zo 2 (.mv (.c (.lst .u 1 [])))] [.s 2]) (.seq (.reg [Zo 3 (.bsl 1 false []),Zm 4 0,Zo 5 (.app 1 8 false (Zt 3) (Zt 4)),Zm 2 5] [.s 2]) .ret))
theorem m142:bb Tryz.prog 142 1 A142 V91=true:=by kernel_rfl
def A77:aw:=(Zs [Zo 1 (.box 5 (Zt 0)),Zo 2 (.alloc (.agg [.lst .u 1 [],.lst .u 4 [],.lst .u 5 [],.lst .u 5 [],.lst .u 1 []]))] (.seq (.drw [Za 3 0 1,Zv 4 3 3,Zo 5 (.call 98 [(Zt 4)]),Za 6 3 1,Zl 7 6,Zo 8 (.build [.lst .u 1 [],.lst .u 4 [],.lst .u 5 []] [(2,1,(Zt 7))]),Zo 9 (.call 98 [(Zt 8)]),Zo 10 (.fld 2 1 false (Zt 9)),Za 11 4 1,Zl 12 11,Zo 13 (.call 142 [(Zt 12)]),Zo 14 (.build [.lst .u 1 [],.lst .u 4 [],.lst .u 5 [],.lst .u 5 [],.lst .u 1 []] [(0,3,(Zt 5)),(3,1,(Zt 10)),(4,1,(Zt 13))]),Zw (.store 5 (Zt 2) (Zt 14))] []) .ret))
theorem m77:bb Tryz.prog 77 1 A77 lZ=true:=by kernel_rfl
def A186:aw:=(Zs [Zo 2 (.box 5 (Zt 0)),Zo 3 (.mv (Zy false))] (Zs [Za 4 0 2,Zl 5 4,Zl 6 1,Zb 7 .eql 5 6,Zm 3 7] .ret))
theorem m186:bb Tryz.prog 186 2 A186 lJ=true:=by kernel_rfl
def A137:aw:=(Zs [Zo 2 (.box 3 (Zt 0)),Zo 3 (.box 1 (Zt 1)),Zn 4 0] (Zs [Za 5 2 2,Zl 6 5,Zo 7 (.mkf 186 [(Zt 3)]),Zo 8 (.call 133 [(Zt 6),(Zt 7)]),Zm 4 8] .ret))
theorem m137:bb Tryz.prog 137 2 A137 V85=true:=by kernel_rfl
def GO:aw:=(Zs [Zb 11 .lss 10 9] (.seq (.cond (Zt 11) .skip (.exit 0)) (.seq (.blk 1 (Zs [Zx 12 5 8 10,Zv 13 5 12,Zo 5 (.alloc (.agg [.i 0,.i 0,.lst .u 1 [],.i 0,.i 0])),Zw (.store 5 (Zt 5) (Zt 13))] (Zs [Za 14 0 1,Zv 15 3 14,Za 16 0 5,Zl 17 16,Zo 18 (.call 137 [(Zt 15),(Zt 17)]),Zd 19 .lss 18 0] (.cond (Zt 19) (.reg [Zm 20 3,Za 21 0 5,Zl 22 21,Zo 23 (.bsl 1 false [(Zt 22)]),Zo 24 (.app 1 8 true (Zt 20) (Zt 23)),Zm 3 24] [.s 3]) .skip)))) (.reg [Zd 25 .add 10 1,Zm 10 25] []))))
def Ua:aw:=(.seq (.reg [Zm 26 3,Zm 2 26] [.s 2]) .ret)
def A72:aw:=(.seq (.reg [Zo 1 (.box 5 (Zt 0)),Zo 2 (.mv (.c (.lst .u 1 [])))] [.s 2]) (.seq (.reg [Zo 6 (.bsl 1 false []),Zm 3 6] [.s 3]) (.seqa (.reg [Za 7 3 1,Zl 8 7,Zk 9 8,Zn 10 0] []) (.blk 0 (.loop GO)) [3] [3] Ua)))
theorem m72:bb Tryz.prog 72 1 A72 V91=true:=by kernel_rfl
def A168:aw:=(Zs [Zo 2 (.box 5 (Zt 0)),Zo 3 (.mv (Zy false))] (Zs [Za 4 0 2,Zl 5 4,Za 6 0 1,Zl 7 6,Zb 8 .neq 5 7,Zm 9 8,Zg 10 (.load 5 true (Zt 2)) 9 true,Zg 11 (.load 5 true (Zt 1)) 9 true,Zg 12 (.call 131 [(Zt 10),(Zt 11)]) 9 true,Zo 13 (.pick (Zt 9) (Zt 12) (Zy false)),Zm 3 13] .ret))
theorem m168:bb Tryz.prog 168 2 A168 lJ=true:=by kernel_rfl
def A107:aw:=(Zs [Zo 2 (.box 5 (Zt 0)),Zo 3 (.box 5 (Zt 1)),Zo 4 (.mv (Zy false))] (Zs [Za 5 1 3,Za 6 1 5,Zl 7 6,Za 8 4 2,Zl 9 8,Zo 10 (.call 68 [(Zt 7),(Zt 9)]),Zk 11 10,Zd 12 .eql 11 0,Zm 13 12,Zg 14 (.fad 0 (Zt 2)) 13 true,Zg 15 (.fad 2 (Zt 14)) 13 true,Zg 16 (.load 1 false (Zt 15)) 13 true,Zg 17 (.mkf 168 [(Zt 3)]) 13 true,Zg 18 (.call 65 [(Zt 16),(Zt 17)]) 13 true,Zg 19 (.un .not (Zt 18)) 13 true,Zo 20 (.pick (Zt 13) (Zt 19) (Zy false)),Zm 4 20] .ret))
theorem m107:bb Tryz.prog 107 2 A107 V85=true:=by kernel_rfl
def Aj:aw:=(.seq (.seq (.drw [Zm 9 6,Za 10 2 2,Zl 11 10,Zk 12 11,Zb 13 .lss 9 12,Zm 14 13,Zg 15 (.fad 2 (Zt 2)) 14 true,Zg 16 (.load 1 false (Zt 15)) 14 true,Zg 17 (.mv (Zt 6)) 14 true,Zg 18 (.idx 5 (Zt 16) (Zt 17)) 14 true,Zg 19 (.fad 0 (Zt 18)) 14 true,Zg 20 (.load 1 false (Zt 19)) 14 true,Zg 21 (.fad 0 (Zt 3)) 14 true,Zg 22 (.load 1 false (Zt 21)) 14 true,Zg 23 (.bin .lss (Zt 20) (Zt 22)) 14 true,Zo 24 (.pick (Zt 14) (Zt 23) (Zy false))] []) (.cond (Zt 24) .skip (.exit 0))) (.blk 1 (.reg [Zm 25 6,Zd 26 .add 25 1,Zm 6 26] [])))
def Ih:aw:=(Zs [Za 27 1 3,Zv 28 2 27,Zo 29 (.call 108 [(Zt 28)]),Za 30 1 3,Zw (.store 2 (Zt 30) (Zt 29))] (Zs [Za 31 2 5,Zl 32 31,Zm 33 6,Zv 34 5 3,Zo 35 (.bsl 5 false [(Zt 34)]),Zo 36 (.callM 214 [(Zt 32),(Zt 33),(Zt 35)] [2008,35]),Za 37 2 5,Zw (.store 1 (Zt 37) (Zt 36))] (Zs [Zv 38 3 5,Zw (.store 3 (Zt 4) (Zt 38))] .ret)))
def A174:aw:=(Zs [Zo 2 (.box 3 (Zt 0)),Zo 3 (.box 5 (Zt 1)),Zo 4 (.alloc (.agg [.lst .u 1 [],.lst .u 4 [],.lst .u 5 []]))] (Zs [Zv 7 3 2,Zo 8 (.call 98 [(Zt 7)]),Zo 5 (.alloc (.agg [.lst .u 1 [],.lst .u 4 [],.lst .u 5 []])),Zw (.store 3 (Zt 5) (Zt 8)),Zn 6 0] (.seqr (.blk 0 (.loop Aj)) [3,4,5,6] [3,4,5,8,1008,2008] Ih)))
theorem m174:bb Tryz.prog 174 2 A174 td=true:=by kernel_rfl
def A239:aw:=(Zs [Zo 3 (.mv (Zy false))] (Zs [Zm 4 0,Za 5 0 1,Zl 6 5,Zk 7 6,Zd 8 .sub 7 1,Zo 9 (.call 132 [(Zt 4),(.c (.i 0)),(Zt 8)]),Zo 10 (.un .not (Zt 9)),Zm 3 10] .ret))
theorem m239:bb Tryz.prog 239 2 A239 lJ=true:=by kernel_rfl
def xz:aw:=(Zs [Zb 9 .lss 8 7] (.seq (.cond (Zt 9) .skip (.exit 0)) (.seq (.blk 1 (Zs [Zm 10 8,Zm 5 10] (Zs [Zm 11 1,Zm 12 0,Zm 13 5,Zx 14 1 12 13,Zl 15 14,Zo 16 (.dyn (Zt 11) [(Zt 15)])] (.cond (Zt 16) (Zs [Zm 17 5,Zm 4 17] .ret) .skip)))) (.reg [Zd 18 .add 8 1,Zm 8 18] []))))
def MS:aw:=(Zs [Zn 4 (-1)] .ret)
def A145:aw:=(Zs [Zn 4 0] (.seqa (.reg [Zm 6 0,Zk 7 6,Zn 8 0] []) (.blk 0 (.loop xz)) [] [] MS))
theorem m145:bb Tryz.prog 145 2 A145 V85=true:=by kernel_rfl
def A238:aw:=(Zs [Zo 4 (.mv (Zy false))] (Zs [Zm 5 0,Zm 6 1,Zo 7 (.call 145 [(Zt 5),(Zt 6)]),Zd 8 .geq 7 0,Zm 4 8] .ret))
theorem m238:bb Tryz.prog 238 2 A238 V85=true:=by kernel_rfl
def A215:aw:=(Zs [Zo 2 (.box 2 (Zt 0)),Zo 4 (.mv (Zy false))] (Zs [Zv 5 2 2,Zo 6 (.call 128 [(Zt 5)]),Zm 7 6,Zg 8 (.mv (Zt 1)) 7 true,Zg 9 (.mkf 239 [(Zt 2)]) 7 true,Zg 10 (.call 238 [(Zt 8),(Zt 9)]) 7 true,Zg 11 (.un .not (Zt 10)) 7 true,Zo 12 (.pick (Zt 7) (Zt 11) (Zy false)),Zm 4 12] .ret))
theorem m215:bb Tryz.prog 215 2 A215 V85=true:=by kernel_rfl
def A241:aw:=(.seq (.reg [Zo 2 (.mv (.c (.lst .u 1 [])))] [.s 2]) (.seq (Zs [Zm 3 0,Zo 4 (.isn false (Zt 3))] (.cond (Zt 4) (.seq (.reg [Zo 2 (.mv (.c (.lst .u 1 [])))] [.s 2]) .ret) .skip)) (.seq (.reg [Zo 5 (.bsl 1 false []),Zm 6 0,Zo 7 (.app 1 8 false (Zt 5) (Zt 6)),Zm 2 7] [.s 2]) .ret)))
theorem m241:bb Tryz.prog 241 1 A241 V91=true:=by kernel_rfl
def xl:aw:=(.cond (Zt 43) (.drw [Zo 44 (.ldv [] 1 false (Zt 7)),Zm 45 13,Zm 46 1,Zm 47 13,Zo 48 (.bin .shl (.c (.i 1)) (Zt 47)),Zb 49 .or 46 48,Zm 50 2,Zm 51 2,Zk 52 51,Zm 53 2,Zk 54 53,Zo 55 (.slc 1 (Zt 50) none (some (Zt 52)) (some (Zt 54))),Zm 56 11,Zo 57 (.bsl 1 true [(Zt 56)]),Zo 58 (.app 1 8 true (Zt 55) (Zt 57)),Zo 59 (.dynM (Zt 44) [(Zt 45),(Zt 49),(Zt 58)] [58,1000000001,1000000002,470000128,1000000004,1000000005,1000000006])] [.f true 470000128 1000000002 0]) .skip)
def qx:aw:=(Zs [Zb 28 .lss 27 26] (.seq (.cond (Zt 28) .skip (.exit 0)) (.seq (.blk 1 (Zs [Zm 29 27,Zx 30 4 25 27,Zv 31 4 30,Zo 12 (.alloc (.agg [.i 0,.i 0,.i 0,.i 0])),Zm 11 29,Zw (.store 4 (Zt 12) (Zt 31))] (Zs [Zv 32 4 12,Zm 33 0,Zo 34 (.call 185 [(Zt 32),(Zt 33)]),Zm 13 34] (.seqr (.reg [Zm 35 13,Zd 36 .geq 35 0,Zm 37 36,Zg 38 (.mv (Zt 1)) 37 true,Zg 39 (.mv (Zt 13)) 37 true,Zg 40 (.bin .shr (Zt 38) (Zt 39)) 37 true,Zg 41 (.bin .and (Zt 40) (.c (.i 1))) 37 true,Zg 42 (.bin .eql (Zt 41) (.c (.i 0))) 37 true,Zo 43 (.pick (Zt 37) (Zt 42) (Zy false))] []) [0,1,2,7,11,13,25,26,27,43] [470000128,1000000001,1000000002,1000000004,1000000005,1000000006] xl)))) (.reg [Zd 60 .add 27 1,Zm 27 60] []))))
def OK:aw:=(.seq (.seq (.reg [Zm 14 0,Zl 15 3,Zb 16 .eql 14 15] [.z 2,.f true 470000128 1000000002 0]) (.cond (Zt 16) (.seq (.drw [Zo 17 (.ldv [] 1 false (Zt 4)),Zl 18 5,Zm 19 2,Zo 20 (.call 241 [(Zt 19)]),Zo 21 (.build [.i 0,.lst .u 1 []] [(0,1,(Zt 18)),(1,1,(Zt 20))]),Zo 22 (.bsm 2 [(Zt 21)]),Zo 23 (.app 2 32 true (Zt 17) (Zt 22)),Zw (.store 1 (Zt 4) (Zt 23))] [.f true 470000128 1000000002 0]) .ret) .skip)) (Zs [Za 24 1 6,Zl 25 24,Zk 26 25,Zn 27 0] (.blk 0 (.loop qx))))
theorem UV:bb Tryz.prog 240 8 OK co=true:=by kernel_rfl
def wY:aw:=(.cond (Zt 43) (.drw [Zo 44 (.ldv [] 1 false (Zt 7)),Zm 45 13,Zm 46 1,Zm 47 13,Zo 48 (.bin .shl (.c (.i 1)) (Zt 47)),Zb 49 .or 46 48,Zm 50 2,Zm 51 2,Zk 52 51,Zm 53 2,Zk 54 53,Zo 55 (.slc 1 (Zt 50) none (some (Zt 52)) (some (Zt 54))),Zm 56 11,Zo 57 (.bsl 1 true [(Zt 56)]),Zo 58 (.app 1 8 true (Zt 55) (Zt 57)),Zo 59 (.dynM (Zt 44) [(Zt 45),(Zt 49),(Zt 58)] [58,1000000000,1000000001,470000064,1000000003,1000000004,1000000005])] [.f true 470000064 1000000001 0]) .skip)
def pR:aw:=(Zs [Zb 28 .lss 27 26] (.seq (.cond (Zt 28) .skip (.exit 0)) (.seq (.blk 1 (Zs [Zm 29 27,Zx 30 4 25 27,Zv 31 4 30,Zo 12 (.alloc (.agg [.i 0,.i 0,.i 0,.i 0])),Zm 11 29,Zw (.store 4 (Zt 12) (Zt 31))] (Zs [Zv 32 4 12,Zm 33 0,Zo 34 (.call 185 [(Zt 32),(Zt 33)]),Zm 13 34] (.seqr (.reg [Zm 35 13,Zd 36 .geq 35 0,Zm 37 36,Zg 38 (.mv (Zt 1)) 37 true,Zg 39 (.mv (Zt 13)) 37 true,Zg 40 (.bin .shr (Zt 38) (Zt 39)) 37 true,Zg 41 (.bin .and (Zt 40) (.c (.i 1))) 37 true,Zg 42 (.bin .eql (Zt 41) (.c (.i 0))) 37 true,Zo 43 (.pick (Zt 37) (Zt 42) (Zy false))] []) [0,1,2,7,11,13,25,26,27,43] [470000064,1000000000,1000000001,1000000003,1000000004,1000000005] wY)))) (.reg [Zd 60 .add 27 1,Zm 27 60] []))))
def Ja:aw:=(.seq (.seq (.reg [Zm 14 0,Zl 15 3,Zb 16 .eql 14 15] [.z 2,.f true 470000064 1000000001 0]) (.cond (Zt 16) (.seq (.drw [Zo 17 (.ldv [] 1 false (Zt 4)),Zl 18 5,Zm 19 2,Zo 20 (.call 241 [(Zt 19)]),Zo 21 (.build [.i 0,.lst .u 1 []] [(0,1,(Zt 18)),(1,1,(Zt 20))]),Zo 22 (.bsm 2 [(Zt 21)]),Zo 23 (.app 2 32 true (Zt 17) (Zt 22)),Zw (.store 1 (Zt 4) (Zt 23))] [.f true 470000064 1000000001 0]) .ret) .skip)) (Zs [Za 24 1 6,Zl 25 24,Zk 26 25,Zn 27 0] (.blk 0 (.loop pR))))
theorem VE:bb Tryz.prog 240 8 Ja co=true:=by kernel_rfl
def zp:aw:=(Zs [Zb 12 .lss 11 10] (.seq (.cond (Zt 12) .skip (.exit 0)) (.seq (.blk 1 (Zs [Zx 13 1 9 11,Zl 14 13,Zm 7 14] (.reg [Zm 15 5,Za 16 1 2,Zl 17 16,Zm 18 7,Zx 19 4 17 18,Za 20 2 19,Zl 21 20,Zb 22 .add 15 21,Zm 5 22] []))) (.reg [Zd 23 .add 11 1,Zm 11 23] []))))
def HR:aw:=(Zs [Zm 24 5,Zm 4 24] .ret)
def A252:aw:=(Zs [Zo 2 (.box 2 (Zt 0)),Zo 3 (.box 2 (Zt 1)),Zn 4 0] (Zs [Zn 5 0] (.seqa (.reg [Za 8 1 3,Zl 9 8,Zk 10 9,Zn 11 0] []) (.blk 0 (.loop zp)) [5] [] HR)))
theorem m252:bb Tryz.prog 252 2 A252 V85=true:=by kernel_rfl
def yi:aw:=(Zs [Zb 12 .lss 11 10] (.seq (.cond (Zt 12) .skip (.exit 0)) (.seq (.blk 1 (Zs [Zm 13 11,Zx 14 1 9 11,Zl 15 14,Zm 5 13,Zm 6 15] (.seq (Zs [Zm 16 5,Zm 17 1,Zk 18 17,Zb 19 .geq 16 18] (.cond (Zt 19) (Zs [Zn 4 1] .ret) .skip)) (Zs [Zm 20 1,Zm 21 5,Zx 22 1 20 21,Zl 23 22,Zm 7 23] (Zs [Zm 24 6,Zm 25 7,Zo 26 (.call 223 [(Zt 24),(Zt 25)]),Zm 8 26] (Zs [Zm 27 8,Zd 28 .neq 27 0] (.cond (Zt 28) (Zs [Zm 29 8,Zm 4 29] .ret) .skip))))))) (.reg [Zd 30 .add 11 1,Zm 11 30] []))))
def Ko:aw:=(.seq (Zs [Zm 31 0,Zk 32 31,Zm 33 1,Zk 34 33,Zb 35 .lss 32 34] (.cond (Zt 35) (Zs [Zn 4 (-1)] .ret) .skip)) (Zs [Zn 4 0] .ret))
def A253:aw:=(Zs [Zn 4 0] (.seqa (.reg [Zm 9 0,Zk 10 9,Zn 11 0] []) (.blk 0 (.loop yi)) [0,1] [] Ko))
theorem m253:bb Tryz.prog 253 2 A253 V85=true:=by kernel_rfl
def A244:aw:=(Zs [Zo 3 (.box 2 (Zt 0)),Zo 4 (.box 2 (Zt 1)),Zo 5 (.box 2 (Zt 2)),Zn 6 0] (.seq (.drw [Zv 7 2 3,Zv 8 2 4,Zo 9 (.call 252 [(Zt 7),(Zt 8)]),Zv 10 2 3,Zv 11 2 5,Zo 12 (.call 252 [(Zt 10),(Zt 11)]),Zo 13 (.call 223 [(Zt 9),(Zt 12)]),Za 14 1 4,Zl 15 14,Zk 16 15,Za 17 1 5,Zl 18 17,Zk 19 18,Zo 20 (.call 223 [(Zt 16),(Zt 19)]),Za 21 1 4,Zl 22 21,Za 23 1 5,Zl 24 23,Zo 25 (.call 253 [(Zt 22),(Zt 24)]),Za 26 0 4,Zl 27 26,Za 28 0 5,Zl 29 28,Zo 30 (.call 223 [(Zt 27),(Zt 29)]),Zo 31 (.bsl 1 true [(Zt 13),(Zt 20),(Zt 25),(Zt 30)]),Zo 32 (.call 222 [(Zt 31)]),Zm 6 32] []) .ret))
theorem m244:bb Tryz.prog 244 3 A244 eJ=true:=by kernel_rfl
def A243:aw:=(Zs [Zo 3 (.box 2 (Zt 0)),Zo 4 (.box 2 (Zt 1)),Zn 5 0] (Zs [Zv 6 2 2,Zv 7 2 3,Zv 8 2 4,Zo 9 (.call 244 [(Zt 6),(Zt 7),(Zt 8)]),Zm 5 9] .ret))
def WA:List RV:=[.t 5]
theorem m243:bb Tryz.prog 243 3 A243 WA=true:=by kernel_rfl
def KC:aw:=(Zs [Zl 19 7,Zo 20 (.mkf 243 [(Zt 3)]),Zo 21 (.callM 242 [(Zt 19),(Zt 20)] [500000448,3])] (.seq (.reg [Zl 22 7,Zm 6 22] [.s 6]) .ret))
def A216:aw:=(.seq (.reg [Zo 3 (.box 2 (Zt 0)),Zo 4 (.box 1 (Zt 1)),Zo 5 (.box 1 (Zt 2)),Zo 6 (.mv (.c (.lst .u 2 [])))] [.s 6]) (.seq (.reg [Zo 9 (.bsl 2 false []),Zo 7 (.alloc (.lst .u 2 [])),Zw (.store 1 (Zt 7) (Zt 9))] [.f false 500000448 7 0]) (Zs [Zo 8 (.alloc (.sc .nilFunc))] (Zs [Zo 10 (.mkf 240 [(Zt 5),(Zt 7),(Zt 4),(Zt 3),(Zt 8)]),Zw (.store 1 (Zt 8) (Zt 10))] (.seqr (Zs [Zl 11 4,Zl 12 5,Zb 13 .neq 11 12] (.cond (Zt 13) (.drw [Zl 14 8,Zl 15 4,Zl 16 4,Zo 17 (.bin .shl (.c (.i 1)) (Zt 16)),Zo 18 (.dynM (Zt 14) [(Zt 15),(Zt 17),(.c (.lst .u 1 []))] [5,7,500000448,4,3,8])] [.f false 500000448 7 0]) .skip)) [3,7] [3,7,500000448] KC)))))
theorem m216:bb Tryz.prog 216 3 A216 eJ=true:=by kernel_rfl
def OI:aw:=(.cond (Zt 19) (.seq (.reg [Zo 6 (.mv (.c (.lst .u 2 []))),Zo 7 (.mv (Zy false))] [.s 6]) .ret) .skip)
def A175:aw:=(.seq (.reg [Zo 3 (.box 2 (Zt 0)),Zo 6 (.mv (.c (.lst .u 2 []))),Zo 7 (.mv (Zy false))] [.s 6]) (.seq (.seqr (.reg [Zv 9 2 3,Zm 10 1,Zm 11 2,Zo 12 (.bsl 1 false [(Zt 10),(Zt 11)]),Zo 13 (.call 215 [(Zt 9),(Zt 12)]),Zo 14 (.un .not (Zt 13)),Zm 15 14,Zg 16 (.mv (Zt 1)) 15 false,Zg 17 (.mv (Zt 2)) 15 false,Zg 18 (.bin .eql (Zt 16) (Zt 17)) 15 false,Zo 19 (.pick (Zt 15) (Zy true) (Zt 18))] []) [1,2,3,19] [3] OI) (.seq (.reg [Zv 20 2 3,Zm 21 1,Zm 22 2,Zo 23 (.call 216 [(Zt 20),(Zt 21),(Zt 22)]),Zm 8 23] [.s 8]) (.seq (Zs [Zm 24 8,Zk 25 24,Zd 26 .gtr 25 200] (.cond (Zt 26) (.seq (.reg [Zo 6 (.mv (.c (.lst .u 2 []))),Zo 7 (.mv (Zy false))] [.s 6]) .ret) .skip)) (.seq (.reg [Zm 27 8,Zm 6 27,Zo 7 (.mv (Zy true))] [.s 6]) .ret)))))
theorem m175:bb Tryz.prog 175 3 A175 fQ=true:=by kernel_rfl
def zK:aw:=(Zs [Zb 25 .lss 24 23] (.seq (.cond (Zt 25) .skip (.exit 2)) (.seq (.blk 3 (Zs [Zx 26 1 22 24,Zl 27 26,Zm 7 27] (.drw [Zm 28 3,Zm 29 7,Zx 30 1 28 29,Zl 31 30,Za 32 3 5,Zv 33 2 32,Zo 34 (.call 184 [(Zt 33)]),Zb 35 .or 31 34,Zx 36 1 28 29,Zw (.store 1 (Zt 36) (Zt 35))] []))) (.reg [Zd 37 .add 24 1,Zm 24 37] []))))
def Jv:aw:=(.reg [Zd 38 .add 16 1,Zm 16 38] [])
def zU:aw:=(Zs [Zb 17 .lss 16 15] (.seq (.cond (Zt 17) .skip (.exit 0)) (.seqr (.blk 1 (Zs [Zx 18 5 14 16,Zv 19 5 18,Zo 5 (.alloc (.agg [.i 0,.i 0,.lst .u 1 [],.i 0,.i 0])),Zw (.store 5 (Zt 5) (Zt 19))] (Zs [Za 20 1 5,Za 21 1 20,Zl 22 21,Zk 23 22,Zn 24 0] (.blk 2 (.loop zK))))) [3,14,15,16] [3] Jv)))
def Nz:aw:=(.seq (.reg [Zm 39 3,Zm 2 39] [.s 2]) .ret)
def A219:aw:=(.seq (.reg [Zo 1 (.box 3 (Zt 0)),Zo 2 (.mv (.c (.lst .u 1 [])))] [.s 2]) (.seq (.reg [Za 8 0 1,Za 9 1 8,Zl 10 9,Zk 11 10,Zo 12 (.mks 1 (.i 0) 8 (Zt 11) (Zt 11)),Zm 3 12] [.s 3]) (.seqa (.reg [Za 13 2 1,Zl 14 13,Zk 15 14,Zn 16 0] []) (.blk 0 (.loop zU)) [3] [3] Nz)))
theorem m219:bb Tryz.prog 219 1 A219 V91=true:=by kernel_rfl
def zR:aw:=(Zs [Zb 15 .lss 14 13] (.seq (.cond (Zt 15) .skip (.exit 0)) (.seq (.blk 1 (Zs [Zx 16 1 12 14,Zl 17 16,Zm 8 17] (.reg [Zm 18 6,Zm 19 5,Zm 20 8,Zx 21 1 19 20,Zl 22 21,Zb 23 .or 18 22,Zm 6 23] []))) (.reg [Zd 24 .add 14 1,Zm 14 24] []))))
def Ha:aw:=(Zs [Zm 25 6,Zm 4 25] .ret)
def A177:aw:=(Zs [Zo 2 (.box 3 (Zt 0)),Zo 3 (.box 2 (Zt 1)),Zn 4 0] (.seq (.reg [Zv 9 3 2,Zo 10 (.call 219 [(Zt 9)]),Zm 5 10,Zn 6 0] [.s 5]) (.seqa (.reg [Za 11 1 3,Zl 12 11,Zk 13 12,Zn 14 0] []) (.blk 0 (.loop zR)) [6] [] Ha)))
theorem m177:bb Tryz.prog 177 2 A177 V85=true:=by kernel_rfl
def A245:aw:=(Zs [Zo 2 (.mv (Zy false))] (Zs [Zm 3 0,Zo 4 (.call 132 [(Zt 3),(.c (.i 0)),(.c (.i 16777215))]),Zm 2 4] .ret))
theorem m245:bb Tryz.prog 245 1 A245 V91=true:=by kernel_rfl
def A217:aw:=(Zs [Zo 4 (.mv (Zy false))] (Zs [Zm 5 0,Zo 6 (.call 245 [(Zt 5)]),Zm 7 6,Zg 8 (.mv (Zt 1)) 7 true,Zg 9 (.call 132 [(Zt 8),(.c (.i 1)),(.c (.i 24))]) 7 true,Zo 10 (.pick (Zt 7) (Zt 9) (Zy false)),Zm 4 10] .ret))
theorem m217:bb Tryz.prog 217 2 A217 V85=true:=by kernel_rfl
def zX:aw:=(.seq (Zs [Zm 8 6,Zm 9 1,Zb 10 .add 8 9,Zd 11 .leq 10 24] (.cond (Zt 11) .skip (.exit 0))) (.seq (.blk 1 (Zs [Zm 14 0,Zm 15 6,Zm 16 1,Zo 17 (.build [.i 0,.i 0] [(0,1,(Zt 15)),(1,1,(Zt 16))]),Zo 18 (.call 184 [(Zt 17)]),Zb 19 .and 14 18,Zd 20 .eql 19 0] (.cond (Zt 20) (.reg [Zm 21 5,Zm 22 6,Zo 23 (.bsl 1 false [(Zt 22)]),Zo 24 (.app 1 8 true (Zt 21) (Zt 23)),Zm 5 24] [.s 5]) .skip))) (.reg [Zm 12 6,Zd 13 .add 12 1,Zm 6 13] [])))
def LR:aw:=(.seq (.reg [Zm 25 5,Zm 4 25] [.s 4]) .ret)
def A218:aw:=(.seq (.reg [Zo 4 (.mv (.c (.lst .u 1 [])))] [.s 4]) (.seq (.reg [Zo 7 (.bsl 1 false []),Zm 5 7] [.s 5]) (.seqa (.reg [Zn 6 0] []) (.blk 0 (.loop zX)) [5] [5] LR)))
theorem m218:bb Tryz.prog 218 2 A218 V85=true:=by kernel_rfl
def A176:aw:=(Zs [Zo 4 (.alloc (.agg [.i 0,.i 0])),Zo 5 (.mv (Zy false))] (.seq (Zs [Zm 7 0,Zm 8 1,Zo 9 (.call 217 [(Zt 7),(Zt 8)]),Zo 10 (.un .not (Zt 9))] (.cond (Zt 10) (Zs [Zo 11 (.build [.i 0,.i 0] []),Zw (.store 2 (Zt 4) (Zt 11)),Zo 5 (.mv (Zy false))] .ret) .skip)) (.seq (.reg [Zm 12 0,Zm 13 1,Zo 14 (.call 218 [(Zt 12),(Zt 13)]),Zm 6 14] [.s 6]) (.seq (Zs [Zm 15 6,Zk 16 15,Zd 17 .eql 16 0] (.cond (Zt 17) (Zs [Zo 18 (.build [.i 0,.i 0] []),Zw (.store 2 (Zt 4) (Zt 18)),Zo 5 (.mv (Zy false))] .ret) .skip)) (Zs [Zm 19 6,Zo 20 (.idx 1 (Zt 19) (.c (.i 0))),Zl 21 20,Zm 22 1,Zo 23 (.build [.i 0,.i 0] [(0,1,(Zt 21)),(1,1,(Zt 22))]),Zw (.store 2 (Zt 4) (Zt 23)),Zo 5 (.mv (Zy true))] .ret)))))
def OO:List RV:=[.c 4 2 true,.t 5]
theorem m176:bb Tryz.prog 176 2 A176 OO=true:=by kernel_rfl
def xK:aw:=(Zs [Zb 54 .lss 53 52] (.seq (.cond (Zt 54) .skip (.exit 0)) (.seq (.blk 1 (Zs [Zx 55 2 51 53,Zv 56 2 55,Zo 12 (.alloc (.agg [.i 0,.lst .u 1 []])),Zw (.store 2 (Zt 12) (Zt 56))] (.seq (Zs [Za 57 1 12,Zl 58 57,Za 59 4 2,Zl 60 59,Zo 61 (.call 68 [(Zt 58),(Zt 60)]),Zk 62 61,Zd 63 .gtr 62 0] (.cond (Zt 63) (.exit 1) .skip)) (.seq (.drw [Za 65 0 2,Zv 66 3 65,Zv 67 2 12,Zo 68 (.call 177 [(Zt 66),(Zt 67)]),Za 69 3 7,Za 70 1 69,Zl 71 70,Zo 72 (.call 176 [(Zt 68),(Zt 71)]),Zm 64 72,Ze 73 64 0,Ze 74 64 1,Zo 13 (.alloc (.agg [.i 0,.i 0])),Zw (.store 2 (Zt 13) (Zt 73)),Zm 14 74] []) (Zs [Zm 75 14] (.cond (Zt 75) (Zs [Za 76 0 2,Zv 77 3 76,Zm 78 1,Zv 79 2 12,Zv 80 2 13,Zo 81 (.build [.i 0,.i 0,.lst .u 1 [],.i 0,.i 0] [(0,1,(Zt 78)),(1,2,(Zt 79)),(3,2,(Zt 80))]),Zo 82 (.call 174 [(Zt 77),(Zt 81)]),Za 83 0 6,Zw (.store 3 (Zt 83) (Zt 82))] (Zs [Zv 84 5 6,Zw (.store 5 (Zt 4) (Zt 84)),Zo 5 (.mv (Zy true))] .ret)) .skip)))))) (.reg [Zd 85 .add 53 1,Zm 53 85] []))))
def Gy:aw:=(Zs [Zv 86 5 6,Zw (.store 5 (Zt 4) (Zt 86)),Zo 5 (.mv (Zy false))] .ret)
def A118:aw:=(Zs [Zo 2 (.box 5 (Zt 0)),Zo 4 (.alloc (.agg [.lst .u 1 [],.lst .u 4 [],.lst .u 5 [],.lst .u 5 [],.lst .u 1 []])),Zo 5 (.mv (Zy false))] (.seq (.drw [Zv 15 5 2,Zo 16 (.call 77 [(Zt 15)]),Zo 17 (.fdv [6,7] 3 (Zt 2)),Zo 18 (.ldv [6,7] 1 false (Zt 17)),Zv 19 5 2,Zm 20 1,Zo 21 (.call 67 [(Zt 19),(Zt 20)]),Zo 22 (.idv [6,7] 5 (Zt 18) (Zt 21)),Zo 23 (.lde [6,7] 5 true (Zt 22)),Zo 24 (.fdv [6,7] 0 (Zt 2)),Zo 25 (.fdv [6,7] 0 (Zt 24)),Zo 26 (.ldv [6,7] 2 true (Zt 25)),Zo 6 (.alloc (.agg [.lst .u 1 [],.lst .u 4 [],.lst .u 5 [],.lst .u 5 [],.lst .u 1 []])),Zo 7 (.alloc (.agg [.i 0,.i 0,.lst .u 1 [],.i 0,.i 0])),Zo 8 (.alloc (.agg [.lst .u 1 [],.lst .u 4 []])),Zw (.stw 6 5 (Zt 6) (Zt 16)),Zw (.stw 7 5 (Zt 7) (Zt 23)),Zw (.store 2 (Zt 8) (Zt 26))] []) (.seq (Zs [Zv 27 5 2,Zv 28 5 7,Zo 29 (.call 107 [(Zt 27),(Zt 28)])] (.cond (Zt 29) (Zs [Za 30 0 2,Zv 31 3 30,Zv 32 5 7,Zo 33 (.call 174 [(Zt 31),(Zt 32)]),Za 34 0 6,Zw (.store 3 (Zt 34) (Zt 33))] (Zs [Zv 35 5 6,Zw (.store 5 (Zt 4) (Zt 35)),Zo 5 (.mv (Zy true))] .ret)) .skip)) (.seq (.drw [Zv 37 2 8,Za 38 1 7,Za 39 0 38,Zl 40 39,Zv 41 2 8,Za 42 1 7,Zv 43 2 42,Zo 44 (.call 69 [(Zt 41),(Zt 43)]),Zo 45 (.call 175 [(Zt 37),(Zt 40),(Zt 44)]),Zm 36 45,Ze 46 36 0,Ze 47 36 1,Zm 9 46,Zm 10 47] [.s 9]) (.seq (Zs [Zm 48 10,Zo 49 (.un .not (Zt 48))] (.cond (Zt 49) (Zs [Zv 50 5 6,Zw (.store 5 (Zt 4) (Zt 50)),Zo 5 (.mv (Zy false))] .ret) .skip)) (.seqa (.reg [Zm 51 9,Zk 52 51,Zn 53 0] []) (.blk 0 (.loop xK)) [4,6] [4,6,16,1016,2016,3016,4016] Gy))))))
theorem m118:bb Tryz.prog 118 2 A118 kH=true:=by kernel_rfl
def Gi:aw:=(Zs [Zb 22 .lss 21 20] (.seq (.cond (Zt 22) .skip (.exit 0)) (.seq (.blk 1 (Zs [Zx 23 1 19 21,Zl 24 23,Zm 8 24] (.seq (.reg [Zv 26 5 5,Zm 27 8,Zo 28 (.call 118 [(Zt 26),(Zt 27)]),Zm 25 28,Ze 29 25 0,Ze 30 25 1,Zo 9 (.alloc (.agg [.lst .u 1 [],.lst .u 4 [],.lst .u 5 [],.lst .u 5 [],.lst .u 1 []])),Zw (.store 5 (Zt 9) (Zt 29)),Zm 10 30] [.f false 500000576 9 0,.f false 500000577 9 1,.f false 500000578 9 2,.f false 500000579 9 3,.f false 500000580 9 4]) (.seq (Zs [Zm 31 10] (.cond (Zt 31) (.reg [Zm 32 6,Zm 33 8,Zo 34 (.bsl 1 false [(Zt 33)]),Zo 35 (.app 1 8 true (Zt 32) (Zt 34)),Zm 6 35] [.s 6]) .skip)) (.reg [Zv 36 5 9,Zw (.store 5 (Zt 5) (Zt 36))] [.f false 500000320 5 0,.f false 500000321 5 1,.f false 500000322 5 2,.f false 500000323 5 3,.f false 500000324 5 4]))))) (.reg [Zd 37 .add 21 1,Zm 21 37] []))))
def TW:aw:=(.seq (.reg [Zv 38 5 5,Zm 39 6,Zw (.store 5 (Zt 2) (Zt 38)),Zm 3 39,Zo 4 (.mv (Zy true))] [.s 3,.f false 500000128 2 0,.f false 500000129 2 1,.f false 500000130 2 2,.f false 500000131 2 3,.f false 500000132 2 4]) .ret)
def A52:aw:=(.seq (.reg [Zo 1 (.box 5 (Zt 0)),Zo 2 (.alloc (.agg [.lst .u 1 [],.lst .u 4 [],.lst .u 5 [],.lst .u 5 [],.lst .u 1 []])),Zo 3 (.mv (.c (.lst .u 1 []))),Zo 4 (.mv (Zy false))] [.s 3]) (.seq (Zs [Zv 11 5 1,Zo 12 (.call 16 [(Zt 11)]),Zo 13 (.un .not (Zt 12))] (.cond (Zt 13) (.seq (.reg [Zo 14 (.build [.lst .u 1 [],.lst .u 4 [],.lst .u 5 [],.lst .u 5 [],.lst .u 1 []] []),Zw (.store 5 (Zt 2) (Zt 14)),Zo 3 (.mv (.c (.lst .u 1 []))),Zo 4 (.mv (Zy false))] [.s 3,.f false 500000128 2 0,.f false 500000129 2 1,.f false 500000130 2 2,.f false 500000131 2 3,.f false 500000132 2 4]) .ret) .skip)) (.seq (.reg [Zv 15 5 1,Zo 16 (.call 77 [(Zt 15)]),Zo 17 (.bsl 1 false []),Zo 5 (.alloc (.agg [.lst .u 1 [],.lst .u 4 [],.lst .u 5 [],.lst .u 5 [],.lst .u 1 []])),Zw (.store 5 (Zt 5) (Zt 16)),Zm 6 17] [.s 6,.f false 500000320 5 0,.f false 500000321 5 1,.f false 500000322 5 2,.f false 500000323 5 3,.f false 500000324 5 4]) (.seqa (.reg [Zv 18 5 1,Zo 19 (.call 72 [(Zt 18)]),Zk 20 19,Zn 21 0] []) (.blk 0 (.loop Gi)) [2,5,6] [2,5,6,500000320,500000321,500000322,500000323,500000324] TW))))
theorem m52:bb Tryz.prog 52 1 A52 oa=true:=by kernel_rfl
def HE:aw:=(.seq (Zs [Zm 11 5,Zm 12 0,Zk 13 12,Zb 14 .lss 11 13] (.cond (Zt 14) .skip (.exit 0))) (.seq (.blk 1 (.seq (.drw [Zm 17 0,Zm 18 5,Zx 19 1 17 18,Zl 20 19,Zm 21 1,Zm 22 5,Zx 23 1 21 22,Zl 24 23,Zb 25 .neq 20 24] []) (.cond (Zt 25) (Zs [Zo 4 (.mv (Zy false))] .ret) .skip))) (.reg [Zm 15 5,Zd 16 .add 15 1,Zm 5 16] [])))
def Ti:aw:=(Zs [Zo 4 (.mv (Zy true))] .ret)
def A99:aw:=(Zs [Zo 4 (.mv (Zy false))] (.seq (Zs [Zm 6 0,Zk 7 6,Zm 8 1,Zk 9 8,Zb 10 .neq 7 9] (.cond (Zt 10) (Zs [Zo 4 (.mv (Zy false))] .ret) .skip)) (.seqa (.reg [Zn 5 0] []) (.blk 0 (.loop HE)) [] [] Ti)))
theorem m99:bb Tryz.prog 99 2 A99 V85=true:=by kernel_rfl
def A158:aw:=(Zs [Zo 2 (.box 4 (Zt 0)),Zo 3 (.box 4 (Zt 1)),Zo 4 (.mv (Zy false))] (.seq (Zs [Za 5 0 2,Zl 6 5,Za 7 0 3,Zl 8 7,Zb 9 .neq 6 8] (.cond (Zt 9) (Zs [Zo 4 (.mv (Zy false))] .ret) .skip)) (.seq (Zs [Za 10 1 2,Zl 11 10,Za 12 1 3,Zl 13 12,Zb 14 .neq 11 13] (.cond (Zt 14) (Zs [Zo 4 (.mv (Zy false))] .ret) .skip)) (.seq (Zs [Za 15 2 2,Zl 16 15,Za 17 2 3,Zl 18 17,Zb 19 .neq 16 18] (.cond (Zt 19) (Zs [Zo 4 (.mv (Zy false))] .ret) .skip)) (.seq (Zs [Za 20 3 2,Zl 21 20,Za 22 3 3,Zl 23 22,Zb 24 .neq 21 23] (.cond (Zt 24) (Zs [Zo 4 (.mv (Zy false))] .ret) .skip)) (Zs [Zo 4 (.mv (Zy true))] .ret))))))
theorem m158:bb Tryz.prog 158 2 A158 V85=true:=by kernel_rfl
def xU:aw:=(.seq (Zs [Zm 11 5,Zm 12 0,Zk 13 12,Zb 14 .lss 11 13] (.cond (Zt 14) .skip (.exit 0))) (.seq (.blk 1 (.seq (.drw [Zm 17 0,Zm 18 5,Zx 19 4 17 18,Zv 20 4 19,Zm 21 1,Zm 22 5,Zx 23 4 21 22,Zv 24 4 23,Zo 25 (.call 158 [(Zt 20),(Zt 24)]),Zo 26 (.un .not (Zt 25))] []) (.cond (Zt 26) (Zs [Zo 4 (.mv (Zy false))] .ret) .skip))) (.reg [Zm 15 5,Zd 16 .add 15 1,Zm 5 16] [])))
def Hd:aw:=(Zs [Zo 4 (.mv (Zy true))] .ret)
def A100:aw:=(Zs [Zo 4 (.mv (Zy false))] (.seq (Zs [Zm 6 0,Zk 7 6,Zm 8 1,Zk 9 8,Zb 10 .neq 7 9] (.cond (Zt 10) (Zs [Zo 4 (.mv (Zy false))] .ret) .skip)) (.seqa (.reg [Zn 5 0] []) (.blk 0 (.loop xU)) [] [] Hd)))
theorem m100:bb Tryz.prog 100 2 A100 V85=true:=by kernel_rfl
def A40:aw:=(Zs [Zo 2 (.box 2 (Zt 0)),Zo 3 (.box 2 (Zt 1)),Zo 4 (.mv (Zy false))] (.seq (Zs [Za 5 0 2,Zl 6 5,Za 7 0 3,Zl 8 7,Zo 9 (.call 99 [(Zt 6),(Zt 8)]),Zo 10 (.un .not (Zt 9))] (.cond (Zt 10) (Zs [Zo 4 (.mv (Zy false))] .ret) .skip)) (.seq (Zs [Za 11 1 2,Zl 12 11,Za 13 1 3,Zl 14 13,Zo 15 (.call 100 [(Zt 12),(Zt 14)]),Zo 16 (.un .not (Zt 15))] (.cond (Zt 16) (Zs [Zo 4 (.mv (Zy false))] .ret) .skip)) (Zs [Zo 4 (.mv (Zy true))] .ret))))
theorem m40:bb Tryz.prog 40 2 A40 V85=true:=by kernel_rfl
def JE:aw:=(.seq (Zs [Zm 11 5,Zm 12 0,Zk 13 12,Zb 14 .lss 11 13] (.cond (Zt 14) .skip (.exit 0))) (.seq (.blk 1 (.seq (.drw [Zm 17 0,Zm 18 5,Zx 19 1 17 18,Zl 20 19,Zm 21 1,Zm 22 5,Zx 23 1 21 22,Zl 24 23,Zb 25 .neq 20 24] []) (.cond (Zt 25) (Zs [Zo 4 (.mv (Zy false))] .ret) .skip))) (.reg [Zm 15 5,Zd 16 .add 15 1,Zm 5 16] [])))
def Tp:aw:=(Zs [Zo 4 (.mv (Zy true))] .ret)
def A20:aw:=(Zs [Zo 4 (.mv (Zy false))] (.seq (Zs [Zm 6 0,Zk 7 6,Zm 8 1,Zk 9 8,Zb 10 .neq 7 9] (.cond (Zt 10) (Zs [Zo 4 (.mv (Zy false))] .ret) .skip)) (.seqa (.reg [Zn 5 0] []) (.blk 0 (.loop JE)) [] [] Tp)))
theorem m20:bb Tryz.prog 20 2 A20 V85=true:=by kernel_rfl
def A159:aw:=(Zs [Zo 2 (.box 2 (Zt 0)),Zo 3 (.box 2 (Zt 1)),Zo 4 (.mv (Zy false))] (.seq (Zs [Za 5 0 2,Zl 6 5,Za 7 0 3,Zl 8 7,Zb 9 .neq 6 8] (.cond (Zt 9) (Zs [Zo 4 (.mv (Zy false))] .ret) .skip)) (.seq (Zs [Za 10 1 2,Zl 11 10,Za 12 1 3,Zl 13 12,Zo 14 (.call 20 [(Zt 11),(Zt 13)]),Zo 15 (.un .not (Zt 14))] (.cond (Zt 15) (Zs [Zo 4 (.mv (Zy false))] .ret) .skip)) (Zs [Zo 4 (.mv (Zy true))] .ret))))
theorem m159:bb Tryz.prog 159 2 A159 V85=true:=by kernel_rfl
def A160:aw:=(Zs [Zo 2 (.box 2 (Zt 0)),Zo 3 (.box 2 (Zt 1)),Zo 4 (.mv (Zy false))] (.seq (Zs [Za 5 0 2,Zl 6 5,Za 7 0 3,Zl 8 7,Zb 9 .neq 6 8] (.cond (Zt 9) (Zs [Zo 4 (.mv (Zy false))] .ret) .skip)) (.seq (Zs [Za 10 1 2,Zl 11 10,Za 12 1 3,Zl 13 12,Zb 14 .neq 11 13] (.cond (Zt 14) (Zs [Zo 4 (.mv (Zy false))] .ret) .skip)) (Zs [Zo 4 (.mv (Zy true))] .ret))))
theorem m160:bb Tryz.prog 160 2 A160 V85=true:=by kernel_rfl
def A136:aw:=(Zs [Zo 2 (.box 5 (Zt 0)),Zo 3 (.box 5 (Zt 1)),Zo 4 (.mv (Zy false))] (.seq (Zs [Za 5 0 2,Zl 6 5,Za 7 0 3,Zl 8 7,Zb 9 .neq 6 8] (.cond (Zt 9) (Zs [Zo 4 (.mv (Zy false))] .ret) .skip)) (.seq (Zs [Za 10 1 2,Zv 11 2 10,Za 12 1 3,Zv 13 2 12,Zo 14 (.call 159 [(Zt 11),(Zt 13)]),Zo 15 (.un .not (Zt 14))] (.cond (Zt 15) (Zs [Zo 4 (.mv (Zy false))] .ret) .skip)) (.seq (Zs [Za 16 3 2,Zv 17 2 16,Za 18 3 3,Zv 19 2 18,Zo 20 (.call 160 [(Zt 17),(Zt 19)]),Zo 21 (.un .not (Zt 20))] (.cond (Zt 21) (Zs [Zo 4 (.mv (Zy false))] .ret) .skip)) (Zs [Zo 4 (.mv (Zy true))] .ret)))))
theorem m136:bb Tryz.prog 136 2 A136 V85=true:=by kernel_rfl
def Ia:aw:=(.seq (Zs [Zm 11 5,Zm 12 0,Zk 13 12,Zb 14 .lss 11 13] (.cond (Zt 14) .skip (.exit 0))) (.seq (.blk 1 (.seq (.drw [Zm 17 0,Zm 18 5,Zx 19 5 17 18,Zv 20 5 19,Zm 21 1,Zm 22 5,Zx 23 5 21 22,Zv 24 5 23,Zo 25 (.call 136 [(Zt 20),(Zt 24)]),Zo 26 (.un .not (Zt 25))] []) (.cond (Zt 26) (Zs [Zo 4 (.mv (Zy false))] .ret) .skip))) (.reg [Zm 15 5,Zd 16 .add 15 1,Zm 5 16] [])))
def TI:aw:=(Zs [Zo 4 (.mv (Zy true))] .ret)
def A70:aw:=(Zs [Zo 4 (.mv (Zy false))] (.seq (Zs [Zm 6 0,Zk 7 6,Zm 8 1,Zk 9 8,Zb 10 .neq 7 9] (.cond (Zt 10) (Zs [Zo 4 (.mv (Zy false))] .ret) .skip)) (.seqa (.reg [Zn 5 0] []) (.blk 0 (.loop Ia)) [] [] TI)))
theorem m70:bb Tryz.prog 70 2 A70 V85=true:=by kernel_rfl
def A28:aw:=(Zs [Zo 2 (.box 3 (Zt 0)),Zo 3 (.box 3 (Zt 1)),Zo 4 (.mv (Zy false))] (.seq (Zs [Za 5 0 2,Zv 6 2 5,Za 7 0 3,Zv 8 2 7,Zo 9 (.call 40 [(Zt 6),(Zt 8)]),Zo 10 (.un .not (Zt 9))] (.cond (Zt 10) (Zs [Zo 4 (.mv (Zy false))] .ret) .skip)) (.seq (Zs [Za 11 2 2,Zl 12 11,Za 13 2 3,Zl 14 13,Zo 15 (.call 70 [(Zt 12),(Zt 14)]),Zo 16 (.un .not (Zt 15))] (.cond (Zt 16) (Zs [Zo 4 (.mv (Zy false))] .ret) .skip)) (Zs [Zo 4 (.mv (Zy true))] .ret))))
theorem m28:bb Tryz.prog 28 2 A28 V85=true:=by kernel_rfl
def A17:aw:=(Zs [Zo 2 (.box 5 (Zt 0)),Zo 3 (.box 5 (Zt 1)),Zo 4 (.mv (Zy false))] (.seq (Zs [Za 5 0 2,Zv 6 3 5,Za 7 0 3,Zv 8 3 7,Zo 9 (.call 28 [(Zt 6),(Zt 8)]),Zo 10 (.un .not (Zt 9))] (.cond (Zt 10) (Zs [Zo 4 (.mv (Zy false))] .ret) .skip)) (.seq (Zs [Za 11 3 2,Zl 12 11,Za 13 3 3,Zl 14 13,Zo 15 (.call 70 [(Zt 12),(Zt 14)]),Zo 16 (.un .not (Zt 15))] (.cond (Zt 16) (Zs [Zo 4 (.mv (Zy false))] .ret) .skip)) (.seq (Zs [Za 17 4 2,Zl 18 17,Za 19 4 3,Zl 20 19,Zo 21 (.call 20 [(Zt 18),(Zt 20)]),Zo 22 (.un .not (Zt 21))] (.cond (Zt 22) (Zs [Zo 4 (.mv (Zy false))] .ret) .skip)) (Zs [Zo 4 (.mv (Zy true))] .ret)))))
theorem m17:bb Tryz.prog 17 2 A17 V85=true:=by kernel_rfl
def yw:aw:=(.seq (Zs [Zm 6 0,Zd 7 .gtr 6 0] (.cond (Zt 7) .skip (.exit 0))) (.blk 1 (Zs [Zm 8 0,Zd 9 .rem 8 10,Zo 10 (.bin .add (.c (.i 48)) (Zt 9)),Zo 11 (.conv .u8 (Zt 10)),Zo 12 (.bsl 1 false [(Zt 11)]),Zo 13 (.b2s (Zt 12)),Zm 14 3,Zb 15 .add 13 14,Zm 3 15] (.reg [Zm 16 0,Zd 17 .quo 16 10,Zm 0 17] []))))
def Gx:aw:=(Zs [Zm 18 3,Zo 19 (.bin .add (.c (.z ⟨#[109]⟩)) (Zt 18)),Zm 2 19] .ret)
def A161:aw:=(Zs [Zo 2 (.mv (.c (.z ⟨#[]⟩)))] (.seq (Zs [Zm 4 0,Zd 5 .leq 4 0] (.cond (Zt 5) (Zs [Zo 2 (.mv (.c (.z ⟨#[109,48]⟩)))] .ret) .skip)) (Zs [Zo 3 (.mv (.c (.z ⟨#[]⟩)))] (.seqr (.blk 0 (.loop yw)) [3] [] Gx))))
theorem m161:bb Tryz.prog 161 1 A161 V91=true:=by kernel_rfl
def pg:aw:=(.seq (Zs [Zm 6 5,Zm 7 0,Zk 8 7,Zb 9 .lss 6 8] (.cond (Zt 9) .skip (.exit 0))) (.seq (.blk 1 (Zs [Zm 12 0,Zm 13 5,Zm 14 1,Zo 15 (.call 161 [(Zt 14)]),Zx 16 1 12 13,Zw (.store 1 (Zt 16) (Zt 15))] (.reg [Zm 17 1,Zd 18 .add 17 1,Zm 1 18] []))) (.reg [Zm 10 5,Zd 11 .add 10 1,Zm 5 11] [])))
def uS:aw:=(Zs [Zm 19 1,Zm 4 19] .ret)
def MU:aw:=(Zs [Zn 4 0] (.seqa (.reg [Zn 5 0] []) (.blk 0 (.loop pg)) [1] [1000000000] uS))
theorem Xh:bb Tryz.prog 102 2 MU V85=true:=by kernel_rfl
def pk:aw:=(.seq (Zs [Zm 6 5,Zm 7 0,Zk 8 7,Zb 9 .lss 6 8] (.cond (Zt 9) .skip (.exit 0))) (.seq (.blk 1 (Zs [Zm 12 0,Zm 13 5,Zm 14 1,Zx 15 4 12 13,Za 16 0 15,Zw (.store 1 (Zt 16) (Zt 14))] (Zs [Zm 17 1,Zd 18 .add 17 1,Zm 1 18] (Zs [Zm 19 0,Zm 20 5,Zm 21 1,Zx 22 4 19 20,Za 23 1 22,Zw (.store 1 (Zt 23) (Zt 21))] (Zs [Zm 24 1,Zd 25 .add 24 1,Zm 1 25] (Zs [Zm 26 0,Zm 27 5,Zm 28 1,Zx 29 4 26 27,Za 30 2 29,Zw (.store 1 (Zt 30) (Zt 28))] (Zs [Zm 31 1,Zd 32 .add 31 1,Zm 1 32] (Zs [Zm 33 0,Zm 34 5,Zm 35 1,Zx 36 4 33 34,Za 37 3 36,Zw (.store 1 (Zt 37) (Zt 35))] (.reg [Zm 38 1,Zd 39 .add 38 1,Zm 1 39] []))))))))) (.reg [Zm 10 5,Zd 11 .add 10 1,Zm 5 11] [])))
def vW:aw:=(Zs [Zm 40 1,Zm 4 40] .ret)
def Gs:aw:=(Zs [Zn 4 0] (.seqa (.reg [Zn 5 0] []) (.blk 0 (.loop pk)) [1] [1000000000] vW))
theorem UO:bb Tryz.prog 103 2 Gs V85=true:=by kernel_rfl
def Ue:aw:=(Zs [Zo 2 (.box 2 (Zt 0)),Zn 4 0] (Zs [Za 5 0 2,Zl 6 5,Zm 7 1,Zo 8 (.callM 102 [(Zt 6),(Zt 7)] [1000000000]),Zm 1 8] (Zs [Za 9 1 2,Zl 10 9,Zm 11 1,Zo 12 (.callM 103 [(Zt 10),(Zt 11)] [1000000001]),Zm 1 12] (Zs [Zm 13 1,Zm 4 13] .ret))))
theorem Xx:bb Tryz.prog 42 2 Ue V85=true:=by kernel_rfl
def tJ:aw:=(.seq (Zs [Zm 6 5,Zm 7 0,Zk 8 7,Zb 9 .lss 6 8] (.cond (Zt 9) .skip (.exit 0))) (.seq (.blk 1 (Zs [Zm 12 0,Zm 13 5,Zm 14 1,Zx 15 1 12 13,Zw (.store 1 (Zt 15) (Zt 14))] (.reg [Zm 16 1,Zd 17 .add 16 1,Zm 1 17] []))) (.reg [Zm 10 5,Zd 11 .add 10 1,Zm 5 11] [])))
def BH:aw:=(Zs [Zm 18 1,Zm 4 18] .ret)
def Tw:aw:=(Zs [Zn 4 0] (.seqa (.reg [Zn 5 0] []) (.blk 0 (.loop tJ)) [1] [1000000000] BH))
theorem Xi:bb Tryz.prog 22 2 Tw V85=true:=by kernel_rfl
def tK:aw:=(.seq (Zs [Zm 6 5,Zm 7 0,Zk 8 7,Zb 9 .lss 6 8] (.cond (Zt 9) .skip (.exit 0))) (.seq (.blk 1 (Zs [Zm 12 0,Zm 13 5,Zm 14 1,Zx 15 5 12 13,Za 16 0 15,Zw (.store 1 (Zt 16) (Zt 14))] (Zs [Zm 17 1,Zd 18 .add 17 1,Zm 1 18] (Zs [Zm 19 0,Zm 20 5,Zm 21 1,Zx 22 5 19 20,Za 23 1 22,Za 24 0 23,Zw (.store 1 (Zt 24) (Zt 21))] (Zs [Zm 25 1,Zd 26 .add 25 1,Zm 1 26] (.seq (.regh [Zm 27 0,Zm 28 5,Zx 29 5 27 28,Za 30 1 29,Za 31 1 30] (.inn 32 5 1 (Zt 31) [(33,(Zt 1))] 34 22 [(Zt 32),(Zt 33)]) [Zm 1 34] []) (Zs [Zm 35 0,Zm 36 5,Zm 37 1,Zx 38 5 35 36,Za 39 3 38,Za 40 0 39,Zw (.store 1 (Zt 40) (Zt 37))] (Zs [Zm 41 1,Zd 42 .add 41 1,Zm 1 42] (Zs [Zm 43 0,Zm 44 5,Zm 45 1,Zx 46 5 43 44,Za 47 3 46,Za 48 1 47,Zw (.store 1 (Zt 48) (Zt 45))] (.reg [Zm 49 1,Zd 50 .add 49 1,Zm 1 50] [])))))))))) (.reg [Zm 10 5,Zd 11 .add 10 1,Zm 5 11] [])))
def AR:aw:=(Zs [Zm 51 1,Zm 4 51] .ret)
def TY:aw:=(Zs [Zn 4 0] (.seqa (.reg [Zn 5 0] []) (.blk 0 (.loop tK)) [1] [1000000000] AR))
theorem Xp:bb Tryz.prog 73 2 TY V85=true:=by kernel_rfl
def Uc:aw:=(Zs [Zo 2 (.box 3 (Zt 0)),Zn 4 0] (Zs [Za 5 0 2,Zv 6 2 5,Zm 7 1,Zo 8 (.callM 42 [(Zt 6),(Zt 7)] [1000000000,1000000001]),Zm 1 8] (.seq (.regh [Za 9 2 2,Zl 10 9,Zm 11 1] (.har 12 73 [(Zt 10),(Zt 11)] [1000000002]) [Zm 1 12] []) (Zs [Zm 13 1,Zm 4 13] .ret))))
theorem Xq:bb Tryz.prog 29 2 Uc V85=true:=by kernel_rfl
def TM:aw:=(Zs [Zo 2 (.box 5 (Zt 0)),Zn 4 0] (.seq (.regh [Za 5 0 2,Zv 6 3 5,Zm 7 1] (.har 8 29 [(Zt 6),(Zt 7)] [1000000000,1000000001,1000000002]) [Zm 1 8] []) (.seq (.regh [Za 9 3 2,Zl 10 9,Zm 11 1] (.har 12 73 [(Zt 10),(Zt 11)] [1000000003]) [Zm 1 12] []) (Zs [Za 13 4 2,Zl 14 13,Zm 15 1,Zo 16 (.callM 22 [(Zt 14),(Zt 15)] [1000000004]),Zm 1 16] (Zs [Zm 17 1,Zm 4 17] .ret)))))
theorem XD:bb Tryz.prog 21 2 TM V85=true:=by kernel_rfl
def zk:aw:=(.seq (Zs [Zm 6 5,Zm 7 0,Zk 8 7,Zb 9 .lss 6 8] (.cond (Zt 9) .skip (.exit 0))) (.seq (.blk 1 (.seq (.seq (.drw [Zm 12 0,Zm 13 5,Zx 14 1 12 13,Zl 15 14,Zm 16 1,Zo 17 (.call 161 [(Zt 16)]),Zb 18 .neq 15 17] []) (.cond (Zt 18) (Zs [Zn 4 (-1)] .ret) .skip)) (.reg [Zm 19 1,Zd 20 .add 19 1,Zm 1 20] []))) (.reg [Zm 10 5,Zd 11 .add 10 1,Zm 5 11] [])))
def LY:aw:=(Zs [Zm 21 1,Zm 4 21] .ret)
def A162:aw:=(Zs [Zn 4 0] (.seqa (.reg [Zn 5 0] []) (.blk 0 (.loop zk)) [1] [] LY))
theorem m162:bb Tryz.prog 162 2 A162 V85=true:=by kernel_rfl
def zA:aw:=(.seq (Zs [Zm 6 5,Zm 7 0,Zk 8 7,Zb 9 .lss 6 8] (.cond (Zt 9) .skip (.exit 0))) (.seq (.blk 1 (.seq (Zs [Zm 12 0,Zm 13 5,Zx 14 4 12 13,Za 15 0 14,Zl 16 15,Zm 17 1,Zb 18 .neq 16 17] (.cond (Zt 18) (Zs [Zn 4 (-1)] .ret) .skip)) (Zs [Zm 19 1,Zd 20 .add 19 1,Zm 1 20] (.seq (Zs [Zm 21 0,Zm 22 5,Zx 23 4 21 22,Za 24 1 23,Zl 25 24,Zm 26 1,Zb 27 .neq 25 26] (.cond (Zt 27) (Zs [Zn 4 (-1)] .ret) .skip)) (Zs [Zm 28 1,Zd 29 .add 28 1,Zm 1 29] (.seq (Zs [Zm 30 0,Zm 31 5,Zx 32 4 30 31,Za 33 2 32,Zl 34 33,Zm 35 1,Zb 36 .neq 34 35] (.cond (Zt 36) (Zs [Zn 4 (-1)] .ret) .skip)) (Zs [Zm 37 1,Zd 38 .add 37 1,Zm 1 38] (.seq (Zs [Zm 39 0,Zm 40 5,Zx 41 4 39 40,Za 42 3 41,Zl 43 42,Zm 44 1,Zb 45 .neq 43 44] (.cond (Zt 45) (Zs [Zn 4 (-1)] .ret) .skip)) (.reg [Zm 46 1,Zd 47 .add 46 1,Zm 1 47] []))))))))) (.reg [Zm 10 5,Zd 11 .add 10 1,Zm 5 11] [])))
def IC:aw:=(Zs [Zm 48 1,Zm 4 48] .ret)
def A163:aw:=(Zs [Zn 4 0] (.seqa (.reg [Zn 5 0] []) (.blk 0 (.loop zA)) [1] [] IC))
theorem m163:bb Tryz.prog 163 2 A163 V85=true:=by kernel_rfl
def A104:aw:=(Zs [Zo 2 (.box 2 (Zt 0)),Zn 4 0] (Zs [Za 5 0 2,Zl 6 5,Zm 7 1,Zo 8 (.call 162 [(Zt 6),(Zt 7)]),Zm 1 8] (.seq (Zs [Zm 9 1,Zd 10 .lss 9 0] (.cond (Zt 10) (Zs [Zn 4 (-1)] .ret) .skip)) (Zs [Za 11 1 2,Zl 12 11,Zm 13 1,Zo 14 (.call 163 [(Zt 12),(Zt 13)]),Zm 1 14] (.seq (Zs [Zm 15 1,Zd 16 .lss 15 0] (.cond (Zt 16) (Zs [Zn 4 (-1)] .ret) .skip)) (Zs [Zm 17 1,Zm 4 17] .ret))))))
theorem m104:bb Tryz.prog 104 2 A104 V85=true:=by kernel_rfl
def JI:aw:=(.seq (Zs [Zm 6 5,Zm 7 0,Zk 8 7,Zb 9 .lss 6 8] (.cond (Zt 9) .skip (.exit 0))) (.seq (.blk 1 (.seq (Zs [Zm 12 0,Zm 13 5,Zx 14 1 12 13,Zl 15 14,Zm 16 1,Zb 17 .neq 15 16] (.cond (Zt 17) (Zs [Zn 4 (-1)] .ret) .skip)) (.reg [Zm 18 1,Zd 19 .add 18 1,Zm 1 19] []))) (.reg [Zm 10 5,Zd 11 .add 10 1,Zm 5 11] [])))
def TF:aw:=(Zs [Zm 20 1,Zm 4 20] .ret)
def A23:aw:=(Zs [Zn 4 0] (.seqa (.reg [Zn 5 0] []) (.blk 0 (.loop JI)) [1] [] TF))
theorem m23:bb Tryz.prog 23 2 A23 V85=true:=by kernel_rfl
def Nh:aw:=(.seq (Zs [Zm 6 5,Zm 7 0,Zk 8 7,Zb 9 .lss 6 8] (.cond (Zt 9) .skip (.exit 0))) (.seq (.blk 1 (.seq (Zs [Zm 12 0,Zm 13 5,Zx 14 5 12 13,Za 15 0 14,Zl 16 15,Zm 17 1,Zb 18 .neq 16 17] (.cond (Zt 18) (Zs [Zn 4 (-1)] .ret) .skip)) (Zs [Zm 19 1,Zd 20 .add 19 1,Zm 1 20] (.seq (Zs [Zm 21 0,Zm 22 5,Zx 23 5 21 22,Za 24 1 23,Za 25 0 24,Zl 26 25,Zm 27 1,Zb 28 .neq 26 27] (.cond (Zt 28) (Zs [Zn 4 (-1)] .ret) .skip)) (Zs [Zm 29 1,Zd 30 .add 29 1,Zm 1 30] (Zs [Zm 31 0,Zm 32 5,Zx 33 5 31 32,Za 34 1 33,Za 35 1 34,Zl 36 35,Zm 37 1,Zo 38 (.call 23 [(Zt 36),(Zt 37)]),Zm 1 38] (.seq (Zs [Zm 39 1,Zd 40 .lss 39 0] (.cond (Zt 40) (Zs [Zn 4 (-1)] .ret) .skip)) (.seq (Zs [Zm 41 0,Zm 42 5,Zx 43 5 41 42,Za 44 3 43,Za 45 0 44,Zl 46 45,Zm 47 1,Zb 48 .neq 46 47] (.cond (Zt 48) (Zs [Zn 4 (-1)] .ret) .skip)) (Zs [Zm 49 1,Zd 50 .add 49 1,Zm 1 50] (.seq (Zs [Zm 51 0,Zm 52 5,Zx 53 5 51 52,Za 54 3 53,Za 55 1 54,Zl 56 55,Zm 57 1,Zb 58 .neq 56 57] (.cond (Zt 58) (Zs [Zn 4 (-1)] .ret) .skip)) (.reg [Zm 59 1,Zd 60 .add 59 1,Zm 1 60] []))))))))))) (.reg [Zm 10 5,Zd 11 .add 10 1,Zm 5 11] [])))
def Tu:aw:=(Zs [Zm 61 1,Zm 4 61] .ret)
def A78:aw:=(Zs [Zn 4 0] (.seqa (.reg [Zn 5 0] []) (.blk 0 (.loop Nh)) [1] [] Tu))
theorem m78:bb Tryz.prog 78 2 A78 V85=true:=by kernel_rfl
def A44:aw:=(Zs [Zo 2 (.box 3 (Zt 0)),Zn 4 0] (Zs [Za 5 0 2,Zv 6 2 5,Zm 7 1,Zo 8 (.call 104 [(Zt 6),(Zt 7)]),Zm 1 8] (.seq (Zs [Zm 9 1,Zd 10 .lss 9 0] (.cond (Zt 10) (Zs [Zn 4 (-1)] .ret) .skip)) (Zs [Za 11 2 2,Zl 12 11,Zm 13 1,Zo 14 (.call 78 [(Zt 12),(Zt 13)]),Zm 1 14] (.seq (Zs [Zm 15 1,Zd 16 .lss 15 0] (.cond (Zt 16) (Zs [Zn 4 (-1)] .ret) .skip)) (Zs [Zm 17 1,Zm 4 17] .ret))))))
theorem m44:bb Tryz.prog 44 2 A44 V85=true:=by kernel_rfl
def A30:aw:=(Zs [Zo 2 (.box 5 (Zt 0)),Zn 4 0] (Zs [Za 5 0 2,Zv 6 3 5,Zm 7 1,Zo 8 (.call 44 [(Zt 6),(Zt 7)]),Zm 1 8] (.seq (Zs [Zm 9 1,Zd 10 .lss 9 0] (.cond (Zt 10) (Zs [Zn 4 (-1)] .ret) .skip)) (Zs [Za 11 3 2,Zl 12 11,Zm 13 1,Zo 14 (.call 78 [(Zt 12),(Zt 13)]),Zm 1 14] (.seq (Zs [Zm 15 1,Zd 16 .lss 15 0] (.cond (Zt 16) (Zs [Zn 4 (-1)] .ret) .skip)) (Zs [Za 17 4 2,Zl 18 17,Zm 19 1,Zo 20 (.call 23 [(Zt 18),(Zt 19)]),Zm 1 20] (.seq (Zs [Zm 21 1,Zd 22 .lss 21 0] (.cond (Zt 22) (Zs [Zn 4 (-1)] .ret) .skip)) (Zs [Zm 23 1,Zm 4 23] .ret))))))))
theorem m30:bb Tryz.prog 30 2 A30 V85=true:=by kernel_rfl
def Uk:aw:=(.cond (Zt 51) (Zs [Zo 2 (.mv (Zy false))] .ret) .skip)
def Ug:aw:=(.cond (Zt 78) (Zs [Zo 2 (.mv (Zy false))] .ret) .skip)
def Tv:aw:=(.cond (Zt 119) (Zs [Zo 2 (.mv (Zy false))] .ret) .skip)
def A11:aw:=(Zs [Zo 1 (.box 5 (Zt 0)),Zo 2 (.mv (Zy false))] (Zs [Zn 3 1048576] (Zs [Zv 17 5 1,Zm 18 3,Zo 19 (.call 13 [(Zt 17),(Zt 18)]),Zm 3 19] (.seq (Zs [Zm 20 3,Zd 21 .lss 20 0] (.cond (Zt 21) (Zs [Zo 2 (.mv (Zy true))] .ret) .skip)) (.seqb (.reg [Zv 23 5 1,Zo 24 (.call 15 [(Zt 23)]),Zo 25 (.callM 51 [(Zt 24)] [24,1024,2024,3024,4024]),Zm 22 25,Ze 26 22 0,Ze 27 22 1,Ze 28 22 2,Zo 4 (.alloc (.agg [.lst .u 1 [],.lst .u 4 [],.lst .u 5 [],.lst .u 5 [],.lst .u 1 []])),Zw (.store 5 (Zt 4) (Zt 26)),Zm 5 27,Zm 6 28] [.s 5]) [1,4,5,6] (Zs [Zv 29 5 1,Zo 30 (.call 15 [(Zt 29)]),Zo 7 (.alloc (.agg [.lst .u 1 [],.lst .u 4 [],.lst .u 5 [],.lst .u 5 [],.lst .u 1 []])),Zw (.store 5 (Zt 7) (Zt 30))] (.seq (.reg [Zv 32 5 7,Zo 33 (.call 52 [(Zt 32)]),Zm 31 33,Ze 34 31 0,Ze 35 31 1,Ze 36 31 2,Zo 8 (.alloc (.agg [.lst .u 1 [],.lst .u 4 [],.lst .u 5 [],.lst .u 5 [],.lst .u 1 []])),Zw (.store 5 (Zt 8) (Zt 34)),Zm 9 35,Zm 10 36] [.s 9]) (.seq (.seqr (.reg [Zv 37 5 8,Zv 38 5 4,Zo 39 (.call 17 [(Zt 37),(Zt 38)]),Zo 40 (.un .not (Zt 39)),Zm 41 40,Zg 42 (.mv (Zt 9)) 41 false,Zg 43 (.mv (Zt 5)) 41 false,Zg 44 (.call 20 [(Zt 42),(Zt 43)]) 41 false,Zg 45 (.un .not (Zt 44)) 41 false,Zo 46 (.pick (Zt 41) (Zy true) (Zt 45)),Zm 47 46,Zg 48 (.mv (Zt 10)) 47 false,Zg 49 (.mv (Zt 6)) 47 false,Zg 50 (.beq true (Zt 48) (Zt 49)) 47 false,Zo 51 (.pick (Zt 47) (Zy true) (Zt 50))] []) [1,4,5,6,7,8,9,10,51] [7,8,9,30,33,1030,1033,2030,2033,3030,3033,4030,4033] Uk) (.seq (.seq (.drw [Zv 52 5 7,Zv 53 5 1,Zo 54 (.call 15 [(Zt 53)]),Zo 55 (.call 17 [(Zt 52),(Zt 54)]),Zo 56 (.un .not (Zt 55))] []) (.cond (Zt 56) (Zs [Zo 2 (.mv (Zy false))] .ret) .skip)) (Zs [Zn 11 1] (.seq (.regh [Zv 57 5 7,Zm 58 11] (.har 59 21 [(Zt 57),(Zt 58)] [30,1030,2030,3030,4030]) [Zm 11 59] []) (.seq (.seqr (.reg [Zm 60 11,Zd 61 .lss 60 0,Zm 62 61,Zg 63 (.load 5 true (Zt 8)) 62 false,Zg 64 (.load 5 true (Zt 4)) 62 false,Zg 65 (.call 17 [(Zt 63),(Zt 64)]) 62 false,Zg 66 (.un .not (Zt 65)) 62 false,Zo 67 (.pick (Zt 62) (Zy true) (Zt 66)),Zm 68 67,Zg 69 (.mv (Zt 9)) 68 false,Zg 70 (.mv (Zt 5)) 68 false,Zg 71 (.call 20 [(Zt 69),(Zt 70)]) 68 false,Zg 72 (.un .not (Zt 71)) 68 false,Zo 73 (.pick (Zt 68) (Zy true) (Zt 72)),Zm 74 73,Zg 75 (.mv (Zt 10)) 74 false,Zg 76 (.mv (Zt 6)) 74 false,Zg 77 (.beq true (Zt 75) (Zt 76)) 74 false,Zo 78 (.pick (Zt 74) (Zy true) (Zt 77))] []) [1,4,5,6,8,9,78] [8,9,33,1033,2033,3033,4033] Ug) (Zs [Zn 12 1] (.seq (.regh [Zv 79 5 8,Zm 80 12] (.har 81 21 [(Zt 79),(Zt 80)] [33,1033,2033,3033,4033]) [Zm 12 81] []) (Zs [Zm 82 9,Zm 83 12,Zo 84 (.callM 22 [(Zt 82),(Zt 83)] [9]),Zm 12 84] (Zs [Zn 13 1] (Zs [Zv 85 5 8,Zm 86 13,Zo 87 (.call 30 [(Zt 85),(Zt 86)]),Zm 13 87] (.seq (Zs [Zm 88 13,Zd 89 .lss 88 0] (.cond (Zt 89) (Zs [Zo 2 (.mv (Zy false))] .ret) .skip)) (Zs [Zm 90 9,Zm 91 13,Zo 92 (.call 23 [(Zt 90),(Zt 91)]),Zm 13 92] (.seq (Zs [Zm 93 13,Zd 94 .lss 93 0] (.cond (Zt 94) (Zs [Zo 2 (.mv (Zy false))] .ret) .skip)) (.seq (Zs [Zm 95 13,Zm 96 12,Zb 97 .neq 95 96] (.cond (Zt 97) (Zs [Zo 2 (.mv (Zy false))] .ret) .skip)) (.seq (.reg [Zv 99 5 1,Zo 100 (.call 15 [(Zt 99)]),Zo 101 (.call 52 [(Zt 100)]),Zm 98 101,Ze 102 98 0,Ze 103 98 1,Ze 104 98 2,Zo 14 (.alloc (.agg [.lst .u 1 [],.lst .u 4 [],.lst .u 5 [],.lst .u 5 [],.lst .u 1 []])),Zw (.store 5 (Zt 14) (Zt 102)),Zm 15 103,Zm 16 104] [.s 15]) (.seq (.seqr (.reg [Zv 105 5 14,Zv 106 5 4,Zo 107 (.call 17 [(Zt 105),(Zt 106)]),Zo 108 (.un .not (Zt 107)),Zm 109 108,Zg 110 (.mv (Zt 15)) 109 false,Zg 111 (.mv (Zt 5)) 109 false,Zg 112 (.call 20 [(Zt 110),(Zt 111)]) 109 false,Zg 113 (.un .not (Zt 112)) 109 false,Zo 114 (.pick (Zt 109) (Zy true) (Zt 113)),Zm 115 114,Zg 116 (.mv (Zt 16)) 115 false,Zg 117 (.mv (Zt 6)) 115 false,Zg 118 (.beq true (Zt 116) (Zt 117)) 115 false,Zo 119 (.pick (Zt 115) (Zy true) (Zt 118))] []) [8,9,12,119] [8,9,33,1033,2033,3033,4033] Tv) (Zs [Zn 13 1] (Zs [Zv 120 5 8,Zm 121 13,Zo 122 (.call 30 [(Zt 120),(Zt 121)]),Zm 13 122] (.seq (Zs [Zm 123 13,Zd 124 .lss 123 0] (.cond (Zt 124) (Zs [Zo 2 (.mv (Zy false))] .ret) .skip)) (Zs [Zm 125 9,Zm 126 13,Zo 127 (.call 23 [(Zt 125),(Zt 126)]),Zm 13 127] (.seq (Zs [Zm 128 13,Zd 129 .lss 128 0] (.cond (Zt 129) (Zs [Zo 2 (.mv (Zy false))] .ret) .skip)) (.seq (Zs [Zm 130 13,Zm 131 12,Zb 132 .neq 130 131] (.cond (Zt 132) (Zs [Zo 2 (.mv (Zy false))] .ret) .skip)) (Zs [Zo 2 (.mv (Zy true))] .ret))))))))))))))))))))))))))))))
theorem m11:bb Tryz.prog 11 1 A11 V91=true:=by kernel_rfl
end Vs

