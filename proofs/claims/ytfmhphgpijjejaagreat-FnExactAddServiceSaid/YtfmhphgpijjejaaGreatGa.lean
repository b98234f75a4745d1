/-
  Part of the proof that FnExactAddService returns true at every input.
-/
import Derived.Test.YtfmhphgpijjejaaGreatVe
import Derived.Test.YtfmhphgpijjejaaGreatChecked
import Derived.KernelRfl
import Derived.WalkKit
import Derived.Lib.Walk
import Derived.Lib.SliceRun
import Derived.Lib.JoinLaws
import Derived.Lib.AppendZeros
import Derived.Lib.Overlaps
import Derived.Laws.Externs
import Derived.Laws.IdiomCopy
import Derived.Shelf.RegionOpenPlain
import Derived.Lib.AppendZerosOnto
import Derived.Laws.NewBlocks
import Derived.Deep.AppendSrc
import Derived.Deep.MidRow
import Derived.Shelf.SlSortCmp.NoneTotal
set_option linter.defProp false
set_option linter.unusedSimpArgs false
set_option linter.unusedVariables false
open Go.IntKind renaming wrap -> A0, bits -> A3, wrap_i64 -> B2, i64 -> F0
open Go.Proofs.Tryz renaming prog -> A1, checked -> A8, func87 -> B0, ntmps87 -> B3, underlying114 -> B7, underlying202 -> B8, underlying116 -> B9, underlying260 -> C0, underlying261 -> C1, underlying272 -> C2, underlying276 -> C3, underlying281 -> C4, underlying162 -> C5, zeroValue114 -> C8, zeroValue202 -> C9, zeroValue116 -> D0, underlying61 -> D3, zeroValue260 -> D4, zeroValue261 -> D5, zeroValue272 -> D6, zeroValue276 -> D7, zeroValue281 -> D8, zeroValue162 -> D9, underlying0 -> E4, underlying3 -> E5, underlying4 -> E6, underlying5 -> E7, underlying9 -> E8, zeroValue61 -> E9, zeroValue0 -> F3, zeroValue3 -> F4, zeroValue4 -> F5, zeroValue5 -> F6, zeroValue9 -> F7, sizeOf114 -> F8, sizeOf202 -> F9, sizeOf116 -> G0, sizeOf260 -> G1, sizeOf261 -> G2, sizeOf272 -> G3, sizeOf276 -> G4, sizeOf281 -> G5, sizeOf162 -> G6, isAgg114 -> G7, isAgg202 -> G8, isAgg116 -> G9, sizeOf61 -> H0, isAgg260 -> H1, isAgg261 -> H2, isAgg272 -> H3, isAgg276 -> H4, isAgg281 -> H5, isAgg162 -> H6, func232 -> H7, func258 -> H8, func259 -> H9, func203 -> I0, func268 -> I1, func269 -> I2, sizeOf0 -> I3, sizeOf3 -> I4, sizeOf4 -> I5, sizeOf5 -> I6, sizeOf9 -> I7, isAgg61 -> I8, func265 -> I9, isAgg0 -> J0, isAgg3 -> J1, isAgg4 -> J2, isAgg5 -> J3, isAgg9 -> J4
open Int renaming toNat -> A2, fdiv -> A4, tdiv -> C6
open List renaming replicate -> A5, getElem?_eq_getElem -> B1, mem_of_mem_drop -> B5, getElem?_drop -> B6, length_drop -> E0, length_take -> E3
open Nat renaming add_assoc -> A6, min_def -> B4, min -> C7
open Option renaming map_eq_some_iff -> A7
namespace Vs
open Go
def eqm{α:Type}{g h:α->AV}{k:AV->AV}(e:∀x,k (g x)=h x)(xs:List α):(xs.map g).map k=xs.map h:=by simp[e]
def eqc{α:Type}{g h:α->AV}{k:AV->AV}(e:∀x,k (g x)=h x):k∘g=h:=funext e
structure aG where
 A:Int
 B:Int
 N:Int
 F:Int
 deriving DecidableEq
def aF(f:Fl)(x:aG):AV:=.agg [.i x.A,.i x.B,.i x.N,.i x.F]
theorem gG(f:Fl)(x:aG):(aF f x).nrm=aF .o x:=by simp[aF,cM,fu,fw,cM]
def tJ(f:Fl):=eqm (gG f)
theorem fX(f:Fl)(x:aG):(aF f x).als=aF f.als x:=by simp[aF,eb,fj,fl,cM]
def tq(f:Fl):=eqm (fX f)
def sP(f:Fl):=eqc (fX f)
theorem fQ(f:Fl)(x:aG):(aF f x).fix=aF f.fix x:=by simp[aF,eJ,eV,eW,cM]
def lJ(f:Fl):=eqm (fQ f)
def oM(x:aG):(aF .o x).fz=true:=by simp[aF,AV.i,AV.b,AV.z,dZ,cx,cZ,cz,bU,dd,da,db,cW,cw,de,cu,ea,cv,cY,cA,bS,df,cV,cX]
def fS:=ia oM
def oJ(x:aG):(aF .u x).ouB=true:=by simp[aF,AV.i,AV.b,AV.z,dZ,cx,cZ,cz,bU,dd,da,db,cW,cw,de,cu,ea,cv,cY,cA,bS,df,cV,cX]
def fV:=gV oJ
structure ae where
 N:List ByteArray
 F:List aG
def au(f:Fl)(x:ae):AV:=.agg [.lst f 1 (x.N.map AV.z),.lst f 4 (x.F.map (aF f))]
def ke(f:Fl)(x:ae):(au f x).nrm=au .o x:=by simp[au,cM,fu,fw,gG,fK,ol]
def pn(f:Fl):=eqm (ke f)
def il(f:Fl)(x:ae):(au f x).als=au f.als x:=by simp[au,eb,fj,fl,fX,fJ,nS]
def pq(f:Fl):=eqm (il f)
def oX(f:Fl):=eqc (il f)
def ib(f:Fl)(x:ae):(au f x).fix=au f.fix x:=by simp[au,eJ,eV,eW,fQ,eX,kN]
def jS(f:Fl):=eqm (ib f)
def lE(x:ae):(au .o x).fz=true:=by simp[au,AV.i,AV.b,AV.z,dZ,cx,cZ,cz,bU,dd,da,db,cW,cw,de,cu,ea,cv,cY,cA,bS,df,cV,cX,fS,fV]
def qP:=ia lE
def lC(x:ae):(au .u x).ouB=true:=by simp[au,AV.i,AV.b,AV.z,dZ,cx,cZ,cz,bU,dd,da,db,cW,cw,de,cu,ea,cv,cY,cA,bS,df,cV,cX,fS,fV]
def sa:=gV lC
structure az where
 N:Int
 F:Int
 deriving DecidableEq
def aB(f:Fl)(x:az):AV:=.agg [.i x.N,.i x.F]
def lD(f:Fl)(x:az):(aB f x).nrm=aB .o x:=by simp[aB,cM,fu,fw,cM]
def sJ(f:Fl):=eqm (lD f)
def iJ(f:Fl)(x:az):(aB f x).als=aB f.als x:=by simp[aB,eb,fj,fl,cM]
def qE(f:Fl):=eqm (iJ f)
def pX(f:Fl):=eqc (iJ f)
def iH(f:Fl)(x:az):(aB f x).fix=aB f.fix x:=by simp[aB,eJ,eV,eW,cM]
def kf(f:Fl):=eqm (iH f)
def nw(x:az):(aB .o x).fz=true:=by simp[aB,AV.i,AV.b,AV.z,dZ,cx,cZ,cz,bU,dd,da,db,cW,cw,de,cu,ea,cv,cY,cA,bS,df,cV,cX]
def sY:=ia nw
def mr(x:az):(aB .u x).ouB=true:=by simp[aB,AV.i,AV.b,AV.z,dZ,cx,cZ,cz,bU,dd,da,db,cW,cw,de,cu,ea,cv,cY,cA,bS,df,cV,cX]
def tK:=gV mr
structure ai where
 N:Int
 F:List Int
 deriving DecidableEq
def ax(f:Fl)(x:ai):AV:=.agg [.i x.N,.lst f 1 (x.F.map AV.i)]
theorem gH(f:Fl)(x:ai):(ax f x).nrm=ax .o x:=by simp[ax,cM,fu,fw,fK]
def tc(f:Fl):=eqm (gH f)
theorem gI(f:Fl)(x:ai):(ax f x).als=ax f.als x:=by simp[ax,eb,fj,fl,fJ]
def tH(f:Fl):=eqm (gI f)
def sS(f:Fl):=eqc (gI f)
theorem gF(f:Fl)(x:ai):(ax f x).fix=ax f.fix x:=by simp[ax,eJ,eV,eW,eX]
def lN(f:Fl):=eqm (gF f)
def oz(x:ai):(ax .o x).fz=true:=by simp[ax,AV.i,AV.b,AV.z,dZ,cx,cZ,cz,bU,dd,da,db,cW,cw,de,cu,ea,cv,cY,cA,bS,df,cV,cX]
def ju:=ia oz
def oH(x:ai):(ax .u x).ouB=true:=by simp[ax,AV.i,AV.b,AV.z,dZ,cx,cZ,cz,bU,dd,da,db,cW,cw,de,cu,ea,cv,cY,cA,bS,df,cV,cX]
def jH:=gV oH
structure aH where
 N:Int
 F:Int
 deriving DecidableEq
def bD(f:Fl)(x:aH):AV:=.agg [.i x.N,.i x.F]
def mD(f:Fl)(x:aH):(bD f x).nrm=bD .o x:=by simp[bD,cM,fu,fw,cM]
def tm(f:Fl):=eqm (mD f)
def js(f:Fl)(x:aH):(bD f x).als=bD f.als x:=by simp[bD,eb,fj,fl,cM]
def tk(f:Fl):=eqm (js f)
def tv(f:Fl):=eqc (js f)
def jx(f:Fl)(x:aH):(bD f x).fix=bD f.fix x:=by simp[bD,eJ,eV,eW,cM]
def lG(f:Fl):=eqm (jx f)
def oC(x:aH):(bD .o x).fz=true:=by simp[bD,AV.i,AV.b,AV.z,dZ,cx,cZ,cz,bU,dd,da,db,cW,cw,de,cu,ea,cv,cY,cA,bS,df,cV,cX]
def vj:=ia oC
def oG(x:aH):(bD .u x).ouB=true:=by simp[bD,AV.i,AV.b,AV.z,dZ,cx,cZ,cz,bU,dd,da,db,cW,cw,de,cu,ea,cv,cY,cA,bS,df,cV,cX]
def uV:=gV oG
structure af where
 Id:Int
 W:Int
 N:ai
 P:aH
 F:ai
 L:aH
 deriving DecidableEq
def aj(f:Fl)(x:af):AV:=.agg [.i x.Id,.i x.W,.i x.N.N,.lst f 1 (x.N.F.map AV.i),.i x.P.N,.i x.P.F,.i x.F.N,.lst f 1 (x.F.F.map AV.i),.i x.L.N,.i x.L.F]
def kr(f:Fl)(x:af):(aj f x).nrm=aj .o x:=by simp[aj,cM,fu,fw,fK]
def pw(f:Fl):=eqm (kr f)
def gY(f:Fl)(x:af):(aj f x).als=aj f.als x:=by simp[aj,eb,fj,fl,fJ]
def pc(f:Fl):=eqm (gY f)
def pb(f:Fl):=eqc (gY f)
def gZ(f:Fl)(x:af):(aj f x).fix=aj f.fix x:=by simp[aj,eJ,eV,eW,eX]
def jW(f:Fl):=eqm (gZ f)
def lI(x:af):(aj .o x).fz=true:=by simp[aj,AV.i,AV.b,AV.z,dZ,cx,cZ,cz,bU,dd,da,db,cW,cw,de,cu,ea,cv,cY,cA,bS,df,cV,cX]
def qY:=ia lI
def lO(x:af):(aj .u x).ouB=true:=by simp[aj,AV.i,AV.b,AV.z,dZ,cx,cZ,cz,bU,dd,da,db,cW,cw,de,cu,ea,cv,cY,cA,bS,df,cV,cX]
def qW:=gV lO
structure aM where
 N:Int
 L:Int
 F:Int
 W:Int
 deriving DecidableEq
def aQ(f:Fl)(x:aM):AV:=.agg [.i x.N,.i x.L,.i x.F,.i x.W]
def ly(f:Fl)(x:aM):(aQ f x).nrm=aQ .o x:=by simp[aQ,cM,fu,fw,cM]
def qz(f:Fl):=eqm (ly f)
def iI(f:Fl)(x:aM):(aQ f x).als=aQ f.als x:=by simp[aQ,eb,fj,fl,cM]
def qZ(f:Fl):=eqm (iI f)
def sj(f:Fl):=eqc (iI f)
def iM(f:Fl)(x:aM):(aQ f x).fix=aQ f.fix x:=by simp[aQ,eJ,eV,eW,cM]
def km(f:Fl):=eqm (iM f)
def nu(x:aM):(aQ .o x).fz=true:=by simp[aQ,AV.i,AV.b,AV.z,dZ,cx,cZ,cz,bU,dd,da,db,cW,cw,de,cu,ea,cv,cY,cA,bS,df,cV,cX]
def tp:=ia nu
def mM(x:aM):(aQ .u x).ouB=true:=by simp[aQ,AV.i,AV.b,AV.z,dZ,cx,cZ,cz,bU,dd,da,db,cW,cw,de,cu,ea,cv,cY,cA,bS,df,cV,cX]
def ta:=gV mM
structure gP where
 n:ae
 N:Int
 F:List ai
def cy(f:Fl)(x:gP):AV:=.agg [.lst f 1 (x.n.N.map AV.z),.lst f 4 (x.n.F.map (aF f)),.i x.N,.lst f 2 (x.F.map (ax f))]
def jU(f:Fl)(x:gP):(cy f x).nrm=cy .o x:=by simp[cy,cM,fu,fw,gG,gH,fK,ol]
def nM(f:Fl):=eqm (jU f)
def gu(f:Fl)(x:gP):(cy f x).als=cy f.als x:=by simp[cy,eb,fj,fl,fX,gI,fJ,nS]
def nT(f:Fl):=eqm (gu f)
def oa(f:Fl):=eqc (gu f)
def gA(f:Fl)(x:gP):(cy f x).fix=cy f.fix x:=by simp[cy,eJ,eV,eW,fQ,gF,eX,kN]
def jc(f:Fl):=eqm (gA f)
def kh(x:gP):(cy .o x).fz=true:=by simp[cy,AV.i,AV.b,AV.z,dZ,cx,cZ,cz,bU,dd,da,db,cW,cw,de,cu,ea,cv,cY,cA,bS,df,cV,cX,fS,fV,ju,jH]
def pi:=ia kh
def ki(x:gP):(cy .u x).ouB=true:=by simp[cy,AV.i,AV.b,AV.z,dZ,cx,cZ,cz,bU,dd,da,db,cW,cw,de,cu,ea,cv,cY,cA,bS,df,cV,cX,fS,fV,ju,jH]
def ph:=gV ki
def fy(f:Fl)(xs:List Int):AV:=.lst f 1 (xs.map AV.i)
def yE(f:Fl)(x:List Int):(fy f x).nrm=fy .o x:=by simp[fy,cM,fu,fw,fK]
def GE(f:Fl):=eqm (yE f)
def sf(f:Fl)(x:List Int):(fy f x).als=fy f.als x:=by simp[fy,eb,fj,fl,fJ]
def Jq(f:Fl):=eqm (sf f)
def HZ(f:Fl):=eqc (sf f)
def qn(f:Fl)(x:List Int):(fy f x).fix=fy f.fix x:=by simp[fy,eJ,eV,eW,eX]
def uN(f:Fl):=eqm (qn f)
def EM(x:List Int):(fy .o x).fz=true:=by simp[fy,AV.i,AV.b,AV.z,dZ,cx,cZ,cz,bU,dd,da,db,cW,cw,de,cu,ea,cv,cY,cA,bS,df,cV,cX]
def QB:=ia EM
def DE(x:List Int):(fy .u x).ouB=true:=by simp[fy,AV.i,AV.b,AV.z,dZ,cx,cZ,cz,bU,dd,da,db,cW,cw,de,cu,ea,cv,cY,cA,bS,df,cV,cX]
def LR:=gV DE
structure gD where
 Id:Int
 N:ai
 F:aH
 deriving DecidableEq
def dl(f:Fl)(x:gD):AV:=.agg [.i x.Id,.i x.N.N,.lst f 1 (x.N.F.map AV.i),.i x.F.N,.i x.F.F]
def mG(f:Fl)(x:gD):(dl f x).nrm=dl .o x:=by simp[dl,cM,fu,fw,fK]
def tL(f:Fl):=eqm (mG f)
def jB(f:Fl)(x:gD):(dl f x).als=dl f.als x:=by simp[dl,eb,fj,fl,fJ]
def ti(f:Fl):=eqm (jB f)
def tr(f:Fl):=eqc (jB f)
def jF(f:Fl)(x:gD):(dl f x).fix=dl f.fix x:=by simp[dl,eJ,eV,eW,eX]
def lz(f:Fl):=eqm (jF f)
def oP(x:gD):(dl .o x).fz=true:=by simp[dl,AV.i,AV.b,AV.z,dZ,cx,cZ,cz,bU,dd,da,db,cW,cw,de,cu,ea,cv,cY,cA,bS,df,cV,cX]
def vh:=ia oP
def oy(x:gD):(dl .u x).ouB=true:=by simp[dl,AV.i,AV.b,AV.z,dZ,cx,cZ,cz,bU,dd,da,db,cW,cw,de,cu,ea,cv,cY,cA,bS,df,cV,cX]
def vH:=gV oy
structure aq where
 F:ai
 N:Int
 deriving DecidableEq
def ay(f:Fl)(x:aq):AV:=.agg [.i x.F.N,.lst f 1 (x.F.F.map AV.i),.i x.N]
def lL(f:Fl)(x:aq):(ay f x).nrm=ay .o x:=by simp[ay,cM,fu,fw,fK]
def sC(f:Fl):=eqm (lL f)
def iK(f:Fl)(x:aq):(ay f x).als=ay f.als x:=by simp[ay,eb,fj,fl,fJ]
def sH(f:Fl):=eqm (iK f)
def qT(f:Fl):=eqc (iK f)
def iG(f:Fl)(x:aq):(ay f x).fix=ay f.fix x:=by simp[ay,eJ,eV,eW,eX]
def kz(f:Fl):=eqm (iG f)
def mO(x:aq):(ay .o x).fz=true:=by simp[ay,AV.i,AV.b,AV.z,dZ,cx,cZ,cz,bU,dd,da,db,cW,cw,de,cu,ea,cv,cY,cA,bS,df,cV,cX]
def tC:=ia mO
def nv(x:aq):(ay .u x).ouB=true:=by simp[ay,AV.i,AV.b,AV.z,dZ,cx,cZ,cz,bU,dd,da,db,cW,cw,de,cu,ea,cv,cY,cA,bS,df,cV,cX]
def sU:=gV nv
def M_c(b:List ByteArray)(a:Int×Int):Option ((Int×Int)⊕(Int⊕Int)):=
 cond (decide (a.2<(b.length:Int))) ((bE b a.2).bind fun c=>cond (decide ((A0 .i64 (a.1-(c.size:Int)))<0)) (some (.inr (.inr (-1)))) (some (.inl (A0 .i64 (a.1-(c.size:Int)),A0 .i64 (a.2+1))))) (some (.inr (.inl a.1)))
def Ry(a:List ByteArray)(b:Int):Option Int:=
 cond (decide ((A0 .i64 (b-(a.length:Int)))<0)) (some (-1)) ((aW (M_c a) N0 (A0 .i64 (b-(a.length:Int)),0)).bind fun c=>(match c with| .inl d=>some d| .inr g=>some g))
def Qn(a:List aG)(b:Int):Option Int:=
 cond (decide ((A0 .i64 (b-(a.length:Int)))<0)) (some (-1)) (some (A0 .i64 (b-(a.length:Int))))
def KK(a:ae)(d:Int):Option Int:=
 (Ry a.N d).bind fun b=>cond (decide (b<0)) (some (-1)) ((Qn a.F b).bind fun c=>cond (decide (c<0)) (some (-1)) (some c))
def NR(a:List az)(b:Int):Option Int:=
 cond (decide ((A0 .i64 (b-(a.length:Int)))<0)) (some (-1)) (some (A0 .i64 (b-(a.length:Int))))
def Pp(a:List Int)(b:Int):Option Int:=
 cond (decide ((A0 .i64 (b-(a.length:Int)))<0)) (some (-1)) (some (A0 .i64 (b-(a.length:Int))))
def IL(b:ai)(c:Int):Option Int:=
 (Pp b.F c).bind fun a=>cond (decide (a<0)) (some (-1)) (some a)
def PP(a:af)(d:Int):Option Int:=
 (IL a.N d).bind fun b=>cond (decide (b<0)) (some (-1)) ((IL a.F b).bind fun c=>cond (decide (c<0)) (some (-1)) (some c))
def JM(b:List af)(a:Int×Int):Option ((Int×Int)⊕(Int⊕Int)):=
 cond (decide (a.2<(b.length:Int))) ((bE b a.2).bind fun d=>(PP d a.1).bind fun c=>cond (decide (c<0)) (some (.inr (.inr (-1)))) (some (.inl (c,A0 .i64 (a.2+1))))) (some (.inr (.inl a.1)))
def OU(a:List af)(b:Int):Option Int:=
 cond (decide ((A0 .i64 (b-(a.length:Int)))<0)) (some (-1)) ((aW (JM a) N0 (A0 .i64 (b-(a.length:Int)),0)).bind fun c=>(match c with| .inl d=>some d| .inr g=>some g))
def Ih(b:List ByteArray)(a:Int×List ByteArray):Option ((Int×List ByteArray)⊕(List ByteArray)):=
 cond (decide (a.1<(b.length:Int))) ((bE b a.1).bind fun c=>(grd (0<=a.1/\a.1<(a.2.length:Int))).bind fun g=>(a.2[(A2 a.1)]?).bind fun i=>bnd (a.2.set (A2 a.1) c) fun d=>some (.inl (A0 .i64 (a.1+1),d))) (some (.inr a.2))
def RO(a:List ByteArray):Option (List ByteArray):=
 (grd (0<=(a.length:Int)/\(a.length:Int)<=(a.length:Int)/\(a.length:Int)*((16:Nat):Int)<=140737488355328/\(a.length:Int)<=9223372036854775807)).bind fun d=>bnd (A5 (A2 (a.length:Int)) (⟨#[]⟩:ByteArray)) fun b=>(aW (Ih a) N0 (0,b)).bind fun c=>some c
def Jt(a:aG):Option aG:=
 some (⟨a.A,a.B,a.N,a.F⟩:aG)
def Hc(b:List aG)(a:Int×List aG):Option ((Int×List aG)⊕(List aG)):=
 cond (decide (a.1<(b.length:Int))) ((bE b a.1).bind fun c=>(Jt c).bind fun d=>(grd (0<=a.1/\a.1<(a.2.length:Int))).bind fun i=>(a.2[(A2 a.1)]?).bind fun j=>bnd (a.2.set (A2 a.1) d) fun g=>some (.inl (A0 .i64 (a.1+1),g))) (some (.inr a.2))
def Ot(a:List aG):Option (List aG):=
 (grd (0<=(a.length:Int)/\(a.length:Int)<=(a.length:Int)/\(a.length:Int)*((32:Nat):Int)<=140737488355328/\(a.length:Int)<=9223372036854775807)).bind fun d=>bnd (A5 (A2 (a.length:Int)) (⟨0,0,0,0⟩:aG)) fun b=>(aW (Hc a) N0 (0,b)).bind fun c=>some c
def xM(a:ae):Option ae:=
 (RO a.N).bind fun b=>(Ot a.F).bind fun c=>some (⟨b,c⟩:ae)
def HA(a:az):Option az:=
 some (⟨a.N,a.F⟩:az)
def FI(b:List az)(a:Int×List az):Option ((Int×List az)⊕(List az)):=
 cond (decide (a.1<(b.length:Int))) ((bE b a.1).bind fun c=>(HA c).bind fun d=>(grd (0<=a.1/\a.1<(a.2.length:Int))).bind fun i=>(a.2[(A2 a.1)]?).bind fun j=>bnd (a.2.set (A2 a.1) d) fun g=>some (.inl (A0 .i64 (a.1+1),g))) (some (.inr a.2))
def zG(a:List az):Option (List az):=
 (grd (0<=(a.length:Int)/\(a.length:Int)<=(a.length:Int)/\(a.length:Int)*((16:Nat):Int)<=140737488355328/\(a.length:Int)<=9223372036854775807)).bind fun d=>bnd (A5 (A2 (a.length:Int)) (⟨0,0⟩:az)) fun b=>(aW (FI a) N0 (0,b)).bind fun c=>some c
def Hp(b:List Int)(a:Int×List Int):Option ((Int×List Int)⊕(List Int)):=
 cond (decide (a.1<(b.length:Int))) ((bE b a.1).bind fun c=>(grd (0<=a.1/\a.1<(a.2.length:Int))).bind fun g=>(a.2[(A2 a.1)]?).bind fun i=>bnd (a.2.set (A2 a.1) c) fun d=>some (.inl (A0 .i64 (a.1+1),d))) (some (.inr a.2))
def Qa(a:List Int):Option (List Int):=
 (grd (0<=(a.length:Int)/\(a.length:Int)<=(a.length:Int)/\(a.length:Int)*((8:Nat):Int)<=140737488355328/\(a.length:Int)<=9223372036854775807)).bind fun d=>bnd (A5 (A2 (a.length:Int)) 0) fun b=>(aW (Hp a) N0 (0,b)).bind fun c=>some c
def Ht(a:ai):Option ai:=
 (Qa a.F).bind fun b=>some (⟨a.N,b⟩:ai)
def GU(a:aH):Option aH:=
 some (⟨a.N,a.F⟩:aH)
def GV(a:af):Option af:=
 (Ht a.N).bind fun b=>(GU a.P).bind fun c=>(Ht a.F).bind fun d=>(GU a.L).bind fun g=>some (⟨a.Id,a.W,(⟨b.N,b.F⟩:ai),(⟨c.N,c.F⟩:aH),(⟨d.N,d.F⟩:ai),(⟨g.N,g.F⟩:aH)⟩:af)
def M_o(c:List af)(a:Int×List af):Option ((Int×List af)⊕(List af)):=
 cond (decide (a.1<(c.length:Int))) ((bE c a.1).bind fun d=>(GV d).bind fun b=>(grd (0<=a.1/\a.1<(a.2.length:Int))).bind fun i=>(a.2[(A2 a.1)]?).bind fun j=>bnd (a.2.set (A2 a.1) (⟨b.Id,b.W,(⟨b.N.N,b.N.F⟩:ai),(⟨b.P.N,b.P.F⟩:aH),(⟨b.F.N,b.F.F⟩:ai),(⟨b.L.N,b.L.F⟩:aH)⟩:af)) fun g=>some (.inl (A0 .i64 (a.1+1),g))) (some (.inr a.2))
def AE(a:List af):Option (List af):=
 (grd (0<=(a.length:Int)/\(a.length:Int)<=(a.length:Int)/\(a.length:Int)*((112:Nat):Int)<=140737488355328/\(a.length:Int)<=9223372036854775807)).bind fun d=>bnd (A5 (A2 (a.length:Int)) (⟨0,0,(⟨0,[]⟩:ai),(⟨0,0⟩:aH),(⟨0,[]⟩:ai),(⟨0,0⟩:aH)⟩:af)) fun b=>(aW (M_o a) N0 (0,b)).bind fun c=>some c
def AR(a:aM):Option aM:=
 some (⟨a.N,a.L,a.F,a.W⟩:aM)
def M_f(a:Int)(b:Int)(c:Int):Option Bool:=
 cond (decide (b<=a)) (some (decide (a<=c))) (some false)
def Qg(a:Int):Option Bool:=
 cond (decide (97<=a)) (cond (decide (a<=122)) (some true) (cond (decide (48<=a)) (some (decide (a<=57))) (some false))) (cond (decide (48<=a)) (some (decide (a<=57))) (some false))
def M_a(b:ByteArray)(a:Int):Option (Int⊕(Unit⊕Bool)):=
 cond (decide (a<(b.size:Int))) ((wn b a).bind fun c=>(Qg (c.toNat:Int)).bind fun d=>cond (!d) (some (.inr (.inr false))) (some (.inl (A0 .i64 (a+1))))) (some (.inr (.inl ())))
def QV(a:ByteArray):Option Bool:=
 ((M_f (a.size:Int) 1 8).bind fun c=>cond (!c) (some true) ((wn a 0).bind fun b=>cond (decide ((b.toNat:Int)<97)) (some true) (some (decide (122<(b.toNat:Int))))):Option Bool).bind fun d=>cond (d) (some false) ((aW (M_a a) N0 0).bind fun g=>(match g with| .inl j=>some true| .inr i=>some i))
def GN(b:List ByteArray)(c:ByteArray)(a:Int):Option (Int⊕(Unit⊕Int)):=
 cond (decide (a<(b.length:Int))) ((bE b a).bind fun d=>cond (d.toList==c.toList) (some (.inr (.inr a))) (some (.inl (A0 .i64 (a+1))))) (some (.inr (.inl ())))
def RN(a:List ByteArray)(b:ByteArray):Option Int:=
 (aW (GN a b) N0 0).bind fun c=>(match c with| .inl g=>some (-1)| .inr d=>some d)
def MY(a:aG)(b:Int):Option Bool:=
 (M_f a.A 0 (A0 .i64 (b-1))).bind fun c=>cond (c) ((M_f a.B (A0 .i64 (a.A+1)) (A0 .i64 (b-1))).bind fun d=>cond (d) ((M_f a.N 1 5000).bind fun g=>cond (g) ((M_f a.F 0 9).bind fun i=>some i) (some false)) (some false)) (some false)
def NL(a:aG)(b:aG):Option Int:=
 cond (a.A !=b.A) (some (A0 .i64 (a.A-b.A))) (cond (a.B !=b.B) (some (A0 .i64 (a.B-b.B))) (cond (a.N !=b.N) (some (A0 .i64 (a.N-b.N))) (some (A0 .i64 (a.F-b.F)))))
def M_q(b:ae)(a:Int):Option (Int⊕(Unit⊕Bool)):=
 cond (decide (a<(b.N.length:Int))) (((bE b.N a).bind fun c=>(QV c).bind fun d=>cond (!d) (some true) ((RN b.N c).bind fun g=>some (g !=a)):Option Bool).bind fun i=>cond (i) (some (.inr (.inr false))) (some (.inl (A0 .i64 (a+1))))) (some (.inr (.inl ())))
def GY(b:ae)(a:Int):Option (Int⊕(Unit⊕Bool)):=
 cond (decide (a<(b.F.length:Int))) (((bE b.F a).bind fun c=>(MY c (b.N.length:Int)).bind fun d=>cond (!d) (some true) (cond (decide (0<a)) ((bE b.F (A0 .i64 (a-1))).bind fun g=>(NL g c).bind fun i=>some (decide (0<i))) (some false)):Option Bool).bind fun j=>cond (j) (some (.inr (.inr false))) (some (.inl (A0 .i64 (a+1))))) (some (.inr (.inl ())))
def yx(a:ae):Option Bool:=
 ((M_f (a.N.length:Int) 2 8).bind fun b=>cond (!b) (some true) (some (decide (14<(a.F.length:Int)))):Option Bool).bind fun c=>cond (c) (some false) ((aW (M_q a) N0 0).bind fun d=>(match d with| .inl k=>(aW (GY a) N0 0).bind fun g=>(match g with| .inl l=>some true| .inr i=>some i)| .inr j=>some j))
def Bo(c:ae)(d:Int)(b:Int):Option Int:=
 (bE c.F d).bind fun a=>cond (b==a.A) (some a.B) (cond (b==a.B) (some a.A) (some (-1)))
def GH(b:List Int)(c:Int)(a:Int):Option (Int⊕(Unit⊕Bool)):=
 cond (decide (a<(b.length:Int))) ((bE b a).bind fun d=>cond (d==c) (some (.inr (.inr true))) (some (.inl (A0 .i64 (a+1))))) (some (.inr (.inl ())))
def wO(a:List Int)(b:Int):Option Bool:=
 (aW (GH a b) N0 0).bind fun c=>(match c with| .inl g=>some false| .inr d=>some d)
def M_z(c:ae)(d:ai)(a:Int×List Int):Option ((Int×List Int)⊕((List Int)⊕(List Int×Bool))):=
 cond (decide (a.1<(d.F.length:Int))) ((bE d.F a.1).bind fun g=>(M_f g 0 (A0 .i64 ((c.F.length:Int)-1))).bind fun i=>cond (!i) (some (.inr (.inr (a.2,false)))) ((grd (0<=(A0 .i64 ((a.2.length:Int)-1))/\(A0 .i64 ((a.2.length:Int)-1))<(a.2.length:Int))).bind fun q=>(a.2[(A2 (A0 .i64 ((a.2.length:Int)-1)))]?).bind fun j=>(Bo c g j).bind fun b=>(cond (decide (b<0)) (some true) ((wO a.2 b).bind fun k=>some k):Option Bool).bind fun l=>cond (l) (some (.inr (.inr (a.2,false)))) (bnd ([b]) fun m=>(grd ((a.2.length+1)*8<=140737488355328)).bind fun s=>bnd (a.2++m) fun p=>some (.inl (A0 .i64 (a.1+1),p))))) (some (.inr (.inl a.2)))
def JK(b:ae)(a:ai):Option (List Int×Bool):=
 bnd ([a.N]) fun c=>((M_f a.N 0 (A0 .i64 ((b.N.length:Int)-1))).bind fun d=>cond (!d) (some true) (some ((a.F.length:Int)==0)):Option Bool).bind fun g=>cond (g) (some (c,false)) ((aW (M_z b a) N0 (0,c)).bind fun i=>(match i with| .inl j=>some (j,true)| .inr k=>some k))
def CB(a:ae)(b:ai):Option Bool:=
 (yx a).bind fun c=>cond (!c) (some false) ((JK a b).bind fun d=>some d.2)
def FW(a:aH):Option Bool:=
 (M_f a.N 0 23).bind fun b=>cond (b) ((M_f a.F 1 (A0 .i64 (24-a.N))).bind fun c=>some c) (some false)
def VB(a:ae)(b:ai):Option (List Int):=
 (JK a b).bind fun c=>some c.1
def FD(b:ae)(c:ai):Option Int:=
 (VB b c).bind fun a=>(grd (0<=(A0 .i64 ((a.length:Int)-1))/\(A0 .i64 ((a.length:Int)-1))<(a.length:Int))).bind fun g=>(a[(A2 (A0 .i64 ((a.length:Int)-1)))]?).bind fun d=>some d
def M_e(b:ae)(c:Int)(a:Int×List Int):Option ((Int×List Int)⊕(List Int)):=
 cond (decide (a.1<(b.F.length:Int))) ((bE b.F a.1).bind fun d=>(bE b.F c).bind fun g=>cond (d.F==g.F) (bnd ([a.1]) fun i=>(grd ((a.2.length+1)*8<=140737488355328)).bind fun k=>bnd (a.2++i) fun j=>some (.inl (A0 .i64 (a.1+1),j))) (some (.inl (A0 .i64 (a.1+1),a.2)))) (some (.inr a.2))
def Be(b:ae)(a:Int):Option (List Int):=
 (bE b.F a).bind fun c=>cond (c.F==0) (bnd ([a]) fun d=>some d) ((aW (M_e b a) N0 (0,[])).bind fun g=>some g)
def M_r(b:ai)(c:List Int)(a:Int):Option (Int⊕(Unit⊕Bool)):=
 cond (decide (a<(b.F.length:Int))) ((bE b.F a).bind fun d=>(wO c d).bind fun g=>cond (g) (some (.inr (.inr false))) (some (.inl (A0 .i64 (a+1))))) (some (.inr (.inl ())))
def JB(c:ae)(b:ai)(d:ai)(a:Int):Option (Int⊕(Unit⊕Bool)):=
 cond (decide (a<(b.F.length:Int))) (((bE b.F a).bind fun g=>(Be c g).bind fun i=>(aW (M_r d i) N0 0).bind fun j=>(match j with| .inl p=>some (.inl ())| .inr k=>some (.inr k)):Option (Unit⊕Bool)).bind fun l=>(match l with| .inl q=>some (.inl (A0 .i64 (a+1)))| .inr m=>some (.inr (.inr m)))) (some (.inr (.inl ())))
def Aj(a:ae)(b:ai)(c:ai):Option Bool:=
 (aW (JB a b c) N0 0).bind fun d=>(match d with| .inl i=>some true| .inr g=>some g)
def Mz(b:ae)(a:af):Option Bool:=
 ((M_f a.Id 1 999).bind fun c=>cond (!c) (some true) ((M_f a.W 0 2).bind fun d=>cond (!d) (some true) ((CB b a.N).bind fun g=>cond (!g) (some true) ((FW a.P).bind fun i=>some (!i)))):Option Bool).bind fun j=>cond (j) (some false) (cond (a.W==0) ((cond (a.F.N==0) (cond ((a.F.F.length:Int)==0) (some (a.L.N==0&&a.L.F==0)) (some false)) (some false):Option Bool).bind fun k=>some k) ((CB b a.F).bind fun l=>cond (l) ((FW a.L).bind fun m=>cond (m) (cond (a.F.N==a.N.N) ((FD b a.F).bind fun p=>(FD b a.N).bind fun q=>cond (p==q) ((Aj b a.N a.F).bind fun s=>some s) (some false)) (some false)) (some false)) (some false)))
def Ge(b:ai)(c:List Int)(a:Int):Option (Int⊕(Unit⊕Bool)):=
 cond (decide (a<(b.F.length:Int))) ((bE b.F a).bind fun d=>(wO c d).bind fun g=>cond (g) (some (.inr (.inr true))) (some (.inl (A0 .i64 (a+1))))) (some (.inr (.inl ())))
def LN(a:ai)(b:List Int):Option Bool:=
 (aW (Ge a b) N0 0).bind fun c=>(match c with| .inl g=>some false| .inr d=>some d)
def Jm(a:aH):Option Int:=
 (grd (0<=(A0 .u64 a.F))).bind fun b=>(grd (0<=(A0 .u64 a.N))).bind fun c=>some (A0 .i64 ((A0 .i64 ((A0 .i64 (1*2^(min (A2 (A0 .u64 a.F)) (A3 .i64))))-1))*2^(min (A2 (A0 .u64 a.N)) (A3 .i64))))
def xG(c:ai)(a:aH)(d:ai)(b:aH):Option Bool:=
 (LN c d.F).bind fun g=>cond (g) (cond (decide (0<a.F)) (cond (decide (0<b.F)) ((Jm a).bind fun i=>(Jm b).bind fun j=>some ((bits .and .i64 i j) !=0)) (some false)) (some false)) (some false)
def HX(c:ae)(a:af)(b:af):Option Bool:=
 ((xG a.N a.P b.N b.P).bind fun d=>cond (d) (some true) ((xG a.N a.P b.F b.L).bind fun g=>cond (g) (some true) ((xG a.F a.L b.N b.P).bind fun i=>some i)):Option Bool).bind fun j=>cond (j) (some false) ((cond (a.W==2) (cond (b.W==2) ((Aj c a.N b.N).bind fun k=>some k) (some false)) (some false):Option Bool).bind fun l=>cond (l) (some true) ((xG a.F a.L b.F b.L).bind fun m=>some (!m)))
def CQ(d:ae)(b:List af)(c:Int)(a:Int):Option (Int⊕(Unit⊕Bool)):=
 cond (decide (a<c)) ((bE b a).bind fun g=>(bE b c).bind fun i=>(HX d g i).bind fun j=>cond (!j) (some (.inr (.inr false))) (some (.inl (A0 .i64 (a+1))))) (some (.inr (.inl ())))
def Jk(c:ae)(b:List af)(a:Int):Option (Int⊕(Unit⊕Bool)):=
 cond (decide (a<(b.length:Int))) ((((bE b a).bind fun d=>(Mz c d).bind fun g=>cond (!g) (some true) (cond (decide (0<a)) ((bE b (A0 .i64 (a-1))).bind fun i=>some (decide (d.Id<=i.Id))) (some false)):Option Bool).bind fun j=>cond (j) (some (.inr false)) ((aW (CQ c b a) N0 0).bind fun k=>(match k with| .inl q=>some (.inl ())| .inr l=>some (.inr l))):Option (Unit⊕Bool)).bind fun m=>(match m with| .inl s=>some (.inl (A0 .i64 (a+1)))| .inr p=>some (.inr (.inr p)))) (some (.inr (.inl ())))
def HK(a:ae)(b:List af):Option Bool:=
 ((yx a).bind fun c=>cond (!c) (some true) (some (decide (8<(b.length:Int)))):Option Bool).bind fun d=>cond (d) (some false) ((aW (Jk a b) N0 0).bind fun g=>(match g with| .inl j=>some true| .inr i=>some i))
def M_i(c:List az)(a:Int):Option (Int⊕(Unit⊕Bool)):=
 (cond (decide (a<(c.length:Int))) (some (decide (a<=6))) (some false):Option Bool).bind fun g=>cond (g) (((bE c a).bind fun b=>(M_f b.N 1 20000).bind fun i=>cond (!i) (some true) ((M_f b.F 1 1000).bind fun j=>cond (!j) (some true) (cond (decide (0<a)) ((bE c (A0 .i64 (a-1))).bind fun d=>cond (decide (d.N<=b.N)) (some true) (some (decide (b.F<=d.F)))) (some false))):Option Bool).bind fun k=>cond (k) (some (.inr (.inr false))) (some (.inl (A0 .i64 (a+1))))) (some (.inr (.inl ())))
def Gr(a:List az):Option Bool:=
 (aW (M_i a) N0 0).bind fun b=>(match b with| .inl g=>(M_f (a.length:Int) 1 6).bind fun c=>some c| .inr d=>some d)
def GK(b:ae)(a:aM):Option Bool:=
 (M_f a.N 0 (A0 .i64 ((b.N.length:Int)-1))).bind fun c=>cond (c) ((M_f a.L 0 (A0 .i64 ((b.N.length:Int)-1))).bind fun d=>cond (d) (cond (a.N !=a.L) ((M_f a.F 1 1000).bind fun g=>cond (g) ((M_f a.W 0 2).bind fun i=>some i) (some false)) (some false)) (some false)) (some false)
def M_d(c:ae)(b:ai)(a:Int×Int):Option ((Int×Int)⊕Int):=
 cond (decide (a.2<(b.F.length:Int))) ((bE b.F a.2).bind fun d=>(bE c.F d).bind fun g=>some (.inl (A0 .i64 (a.1+g.N),A0 .i64 (a.2+1)))) (some (.inr a.1))
def oi(a:ae)(b:ai):Option Int:=
 (aW (M_d a b) N0 (0,0)).bind fun c=>some c
def yR(a:Int):Option Int:=
 cond (decide (a<0)) (some (-1)) (cond (decide (0<a)) (some 1) (some 0))
def Hl(b:ai)(g:ai)(a:Int):Option (Int⊕(Unit⊕Int)):=
 cond (decide (a<(b.F.length:Int))) ((bE b.F a).bind fun c=>(bE g.F a).bind fun d=>cond (c !=d) ((yR (A0 .i64 (c-d))).bind fun i=>some (.inr (.inr i))) (some (.inl (A0 .i64 (a+1))))) (some (.inr (.inl ())))
def HN(c:ae)(a:ai)(b:ai):Option Int:=
 (oi c a).bind fun d=>(oi c b).bind fun g=>cond ((A0 .i64 (d-g)) !=0) ((yR (A0 .i64 (d-g))).bind fun i=>some i) (cond ((A0 .i64 ((a.F.length:Int)-(b.F.length:Int))) !=0) ((yR (A0 .i64 ((a.F.length:Int)-(b.F.length:Int)))).bind fun j=>some j) ((aW (Hl a b) N0 0).bind fun k=>(match k with| .inl p=>(yR (A0 .i64 (a.N-b.N))).bind fun l=>some l| .inr m=>some m)))
def pf(a:List Int):Option (List Int):=
 (grd (a.length*8<=140737488355328)).bind fun b=>some a
def Nl(b:List az)(c:Int)(a:Int×Int):Option ((Int×Int)⊕Int):=
 cond (decide (a.2<(b.length:Int))) ((bE b a.2).bind fun d=>cond (decide (c<=d.N)) (some (.inl (a.2,A0 .i64 (a.2+1)))) (some (.inl (a.1,A0 .i64 (a.2+1))))) (some (.inr a.1))
def QK(a:List az)(b:Int):Option Int:=
 (aW (Nl a b) N0 ((-1),0)).bind fun c=>some c
def xe(b:List az)(g:Int)(c:Int):Option Int:=
 (QK b g).bind fun d=>cond (decide (d<0)) (some 0) ((bE b d).bind fun a=>(grd (a.F≠0)).bind fun i=>cond (decide (24<(A0 .i64 (C6 (A0 .i64 ((A0 .i64 (c+a.F))-1)) a.F)))) (some 0) (some (A0 .i64 (C6 (A0 .i64 ((A0 .i64 (c+a.F))-1)) a.F))))
def Mc(b:List ai)(c:List Int)(a:Int×Int):Option ((Int×Int)⊕Int):=
 cond (decide (a.2<(b.length:Int))) ((cond (decide (a.1<0)) (some true) ((bE c a.2).bind fun d=>(bE b a.2).bind fun g=>(bE c a.1).bind fun i=>(bE b a.1).bind fun j=>some (decide ((A0 .i64 (d*(g.F.length:Int)))<(A0 .i64 (i*(j.F.length:Int)))))):Option Bool).bind fun k=>cond (k) (some (.inl (a.2,A0 .i64 (a.2+1)))) (some (.inl (a.1,A0 .i64 (a.2+1))))) (some (.inr a.1))
def Qu(a:List ai)(b:List Int):Option Int:=
 (aW (Mc a b) N0 ((-1),0)).bind fun c=>some c
def IC(k:ae)(j:List ai)(l:List Int)(d:Int×Int×Int×Int)(a:Int×Int×Int×Int):Option ((Int×Int×Int×Int)⊕(Int×Int×Int)):=
 cond (decide (a.2.2.2<(j.length:Int))) ((bE l d.2.2.2).bind fun g=>(bE j d.2.2.2).bind fun b=>(bE l a.2.2.2).bind fun i=>(bE j a.2.2.2).bind fun c=>(cond (d.2.2.2==a.2.2.2) (some true) (cond (decide ((A0 .i64 (i*(c.F.length:Int)))<(A0 .i64 (g*(b.F.length:Int))))) (some true) (cond ((A0 .i64 (g*(b.F.length:Int)))==(A0 .i64 (i*(c.F.length:Int)))) (cond (decide (a.2.2.2<d.2.2.2)) (some true) ((Aj k b c).bind fun m=>some (!m))) ((Aj k b c).bind fun p=>some (!p)))):Option Bool).bind fun q=>cond (q) (some (.inl (a.1,a.2.1,a.2.2.1,A0 .i64 (a.2.2.2+1)))) ((cond (decide (a.1<0)) (some true) (some (decide ((A0 .i64 ((A0 .i64 (g*(b.F.length:Int)))+(A0 .i64 (i*(c.F.length:Int)))))<a.2.2.1))):Option Bool).bind fun s=>cond (s) (some (.inl (d.2.2.2,a.2.2.2,A0 .i64 ((A0 .i64 (g*(b.F.length:Int)))+(A0 .i64 (i*(c.F.length:Int)))),A0 .i64 (a.2.2.2+1)))) (some (.inl (a.1,a.2.1,a.2.2.1,A0 .i64 (a.2.2.2+1)))))) (some (.inr (a.1,a.2.1,a.2.2.1)))
def JW(g:ae)(d:List ai)(i:List Int)(a:Int×Int×Int×Int):Option ((Int×Int×Int×Int)⊕(Int×Int)):=
 cond (decide (a.2.2.2<(d.length:Int))) (((aW (IC g d i a) N0 (a.1,a.2.1,a.2.2.1,0)).bind fun b=>some (b.1,b.2.1,b.2.2):Option (Int×Int×Int)).bind fun c=>some (.inl (c.1,c.2.1,c.2.2,A0 .i64 (a.2.2.2+1)))) (some (.inr (a.1,a.2.1)))
def Nh(b:ae)(c:List ai)(d:List Int):Option (Int×Int):=
 (aW (JW b c d) N0 ((-1),(-1),0,0)).bind fun a=>some (a.1,a.2)
def He(c:ae)(b:List af)(d:af)(a:Int):Option (Int⊕(Unit⊕Bool)):=
 cond (decide (a<(b.length:Int))) ((bE b a).bind fun g=>(HX c g d).bind fun i=>cond (!i) (some (.inr (.inr false))) (some (.inl (A0 .i64 (a+1))))) (some (.inr (.inl ())))
def tD(a:ae)(b:List af)(c:af):Option Bool:=
 (aW (He a b c) N0 0).bind fun d=>(match d with| .inl i=>some true| .inr g=>some g)
def act(c:ai)(d:List ByteArray)(g:List aG)(b:List ai)(a:Int):Option (Int⊕Int):=
 cond (decide (0<a)) ((grd (0<=(A0 .i64 (a-1))/\(A0 .i64 (a-1))<(b.length:Int))).bind fun k=>(b[(A2 (A0 .i64 (a-1)))]?).bind fun i=>(HN (⟨d,g⟩:ae) c i).bind fun j=>cond (decide (j<0)) (some (.inl (A0 .i64 (a-1)))) (some (.inr a))) (some (.inr a))
def ado(d:ai)(g:List ByteArray)(i:List aG)(l:Int)(a:List ai):Option (List ByteArray×List aG×Int×List ai×List ai):=
 (aW (act d g i a) N0 (a.length:Int)).bind fun b=>(grd (True/\0<=b/\True/\A2 b<=a.length)).bind fun q=>bnd (gw a 0 (A2 b)) fun c=>(grd (c.length*32<=140737488355328)).bind fun s=>bnd ([d]) fun m=>(grd ((c.length+1)*32<=140737488355328)).bind fun t=>bnd (c++m) fun j=>(grd (0<=b/\True/\A2 b<=a.length/\True)).bind fun u=>bnd (gw a (A2 b) (a.length-(A2 b))) fun k=>(grd ((j.length+k.length)*32<=140737488355328)).bind fun v=>bnd (j++k) fun p=>some (g,i,l,p,a)
def Jc(c:ai)(d:List ByteArray)(g:List aG)(b:List ai)(a:Int):Option (Int⊕Int):=
 cond (decide (0<a)) ((grd (0<=(A0 .i64 (a-1))/\(A0 .i64 (a-1))<(b.length:Int))).bind fun k=>(b[(A2 (A0 .i64 (a-1)))]?).bind fun i=>(HN (⟨d,g⟩:ae) c i).bind fun j=>cond (decide (j<0)) (some (.inl (A0 .i64 (a-1)))) (some (.inr a))) (some (.inr a))
def RF(d:ai)(g:List ByteArray)(i:List aG)(l:Int)(a:List ai):Option (List ByteArray×List aG×Int×List ai×List ai):=
 (aW (Jc d g i a) N0 (a.length:Int)).bind fun b=>(grd (True/\0<=b/\True/\A2 b<=a.length)).bind fun q=>bnd (gw a 0 (A2 b)) fun c=>(grd (c.length*32<=140737488355328)).bind fun s=>bnd ([d]) fun m=>(grd ((c.length+1)*32<=140737488355328)).bind fun t=>bnd (c++m) fun j=>(grd (0<=b/\True/\A2 b<=a.length/\True)).bind fun u=>bnd (gw a (A2 b) (a.length-(A2 b))) fun k=>(grd ((j.length+k.length)*32<=140737488355328)).bind fun v=>bnd (j++k) fun p=>some (g,i,l,p,a)
def M_w(j:Int)(k:List Int)(d:List Int)(l:Int->List ByteArray->List aG->Int->List ai->List Int->List Int->Option (List ByteArray×List aG×Int×List ai×List Int))(m:Int)(a:Int×List ByteArray×List aG×Int×List ai):Option ((Int×List ByteArray×List aG×Int×List ai)⊕(List ByteArray×List aG×Int×List ai)):=
 (cond (decide (a.1<(a.2.2.1.length:Int))) (some (decide ((a.2.2.2.2.length:Int)<=200))) (some false):Option Bool).bind fun p=>cond (p) ((Bo (⟨a.2.1,a.2.2.1⟩:ae) a.1 m).bind fun c=>(cond (decide (0<=c)) ((wO d c).bind fun q=>some (!q)) (some false):Option Bool).bind fun s=>cond (s) ((pf k).bind fun g=>bnd ([a.1]) fun t=>(grd ((g.length+1)*8<=140737488355328)).bind fun x=>bnd (g++t) fun u=>(pf d).bind fun i=>bnd ([c]) fun v=>(grd ((i.length+1)*8<=140737488355328)).bind fun y=>bnd (i++v) fun w=>(l j a.2.1 a.2.2.1 a.2.2.2.1 a.2.2.2.2 u w).bind fun b=>some (.inl (A0 .i64 (a.1+1),b.1,b.2.1,b.2.2.1,b.2.2.2.1))) (some (.inl (A0 .i64 (a.1+1),a.2.1,a.2.2.1,a.2.2.2.1,a.2.2.2.2)))) (some (.inr (a.2.1,a.2.2.1,a.2.2.2.1,a.2.2.2.2)))
def IQ(p:Int->List ByteArray->List aG->Int->List ai->List Int->List Int->Option (List ByteArray×List aG×Int×List ai×List Int))(g:Int)(i:List ByteArray)(j:List aG)(d:Int)(k:List ai)(l:List Int)(a:List Int):Option (List ByteArray×List aG×Int×List ai×List Int):=
 (grd (0<=(A0 .i64 ((a.length:Int)-1))/\(A0 .i64 ((a.length:Int)-1))<(a.length:Int))).bind fun q=>(a[(A2 (A0 .i64 ((a.length:Int)-1)))]?).bind fun m=>cond (m==d) ((RF (⟨g,l⟩:ai) i j d k).bind fun b=>some (b.1,b.2.1,b.2.2.1,b.2.2.2.1,a)) ((aW (M_w g l a p m) N0 (0,i,j,d,k)).bind fun c=>some (c.1,c.2.1,c.2.2.1,c.2.2.2,a))
def Cr:Nat->Int->List ByteArray->List aG->Int->List ai->List Int->List Int->Option (List ByteArray×List aG×Int×List ai×List Int)
 |0,_,_,_,_,_,_,_=>none
 |n+1,a,b,c,d,g,i,j=>IQ (Cr n) a b c d g i j
def adl(j:Int)(d:List Int)(k:Int)(a:Int×List ByteArray×List aG×Int×List ai):Option ((Int×List ByteArray×List aG×Int×List ai)⊕(List ByteArray×List aG×Int×List ai)):=
 (cond (decide (a.1<(a.2.2.1.length:Int))) (some (decide ((a.2.2.2.2.length:Int)<=200))) (some false):Option Bool).bind fun l=>cond (l) ((Bo (⟨a.2.1,a.2.2.1⟩:ae) a.1 k).bind fun c=>(cond (decide (0<=c)) ((wO d c).bind fun m=>some (!m)) (some false):Option Bool).bind fun p=>cond (p) ((pf ([])).bind fun g=>bnd ([a.1]) fun q=>(grd ((g.length+1)*8<=140737488355328)).bind fun v=>bnd (g++q) fun s=>(pf d).bind fun i=>bnd ([c]) fun t=>(grd ((i.length+1)*8<=140737488355328)).bind fun w=>bnd (i++t) fun u=>(Cr N0 j a.2.1 a.2.2.1 a.2.2.2.1 a.2.2.2.2 s u).bind fun b=>some (.inl (A0 .i64 (a.1+1),b.1,b.2.1,b.2.2.1,b.2.2.2.1))) (some (.inl (A0 .i64 (a.1+1),a.2.1,a.2.2.1,a.2.2.2.1,a.2.2.2.2)))) (some (.inr (a.2.1,a.2.2.1,a.2.2.2.1,a.2.2.2.2)))
def VG(g:Int)(i:List ByteArray)(j:List aG)(d:Int)(a:List Int):Option (List ByteArray×List aG×Int×List ai×List Int):=
 (grd (0<=(A0 .i64 ((a.length:Int)-1))/\(A0 .i64 ((a.length:Int)-1))<(a.length:Int))).bind fun l=>(a[(A2 (A0 .i64 ((a.length:Int)-1)))]?).bind fun k=>cond (k==d) ((ado (⟨g,[]⟩:ai) i j d ([])).bind fun b=>some (b.1,b.2.1,b.2.2.1,b.2.2.2.1,a)) ((aW (adl g a k) N0 (0,i,j,d,[])).bind fun c=>some (c.1,c.2.1,c.2.2.1,c.2.2.2,a))
def Bj(b:ae)(c:Int)(d:Int):Option (Bool×List ai):=
 bnd ([c]) fun g=>(VG c ((b).N) ((b).F) d g).bind fun a=>cond (decide (200<(a.2.2.2.1.length:Int))) (some (false,[])) ((grd (a.2.2.2.1.length*32<=140737488355328)).bind fun i=>some (true,a.2.2.2.1))
def xL(g:ae)(i:aM)(j:List az)(b:Bool×List ai)(a:Int×List ai×List Int):Option ((Int×List ai×List Int)⊕(List ai×List Int)):=
 cond (decide (a.1<(b.2.length:Int))) ((grd (0<=a.1/\a.1<(b.2.length:Int))).bind fun s=>(b.2[(A2 a.1)]?).bind fun c=>(oi g c).bind fun k=>(xe j k ((i).F)).bind fun d=>cond (decide (0<d)) (bnd ([c]) fun l=>(grd ((a.2.1.length+1)*32<=140737488355328)).bind fun t=>bnd (a.2.1++l) fun m=>bnd ([d]) fun p=>(grd ((a.2.2.length+1)*8<=140737488355328)).bind fun u=>bnd (a.2.2++p) fun q=>some (.inl (A0 .i64 (a.1+1),m,q))) (some (.inl (A0 .i64 (a.1+1),a.2.1,a.2.2)))) (some (.inr (a.2.1,a.2.2)))
def IA(c:ae)(a:aM)(b:List az):Option (Bool×List ai×List Int×List az):=
 (Bj c ((a).N) ((a).L)).bind fun d=>cond (!d.1) (some (false,[],[],b)) ((aW (xL c a b d) N0 (0,[],[])).bind fun g=>some (true,g.1,g.2,b))
def CF(b:ae)(d:aM)(c:List az):Option (Bool×List ai×List Int×List az):=
 ((yx b).bind fun g=>cond (!g) (some true) ((Gr c).bind fun i=>cond (!i) (some true) ((GK b d).bind fun j=>some (!j))):Option Bool).bind fun k=>cond (k) (some (false,[],[],c)) ((IA b d c).bind fun a=>some (a.1,a.2.1,a.2.2.1,a.2.2.2))
def JD(c:ae)(d:aM)(g:List az):Option (ai×Int×Bool×List az):=
 (CF c d g).bind fun a=>(Qu a.2.1 a.2.2.1).bind fun b=>(cond (!a.1) (some true) (some (decide (b<0))):Option Bool).bind fun i=>cond (i) (some ((⟨0,[]⟩:ai),0,false,a.2.2.2)) ((grd (0<=b/\b<(a.2.1.length:Int))).bind fun l=>(a.2.1[(A2 b)]?).bind fun j=>(grd (0<=b/\b<(a.2.2.1.length:Int))).bind fun m=>(a.2.2.1[(A2 b)]?).bind fun k=>some (j,k,true,a.2.2.2))
def PK(g:ae)(i:Nat)(j:Nat)(k:aM)(l:List az)(b:Bool×List ai)(a:Int×List ai×List Int):Option ((Int×List ai×List Int)⊕(List ai×List Int)):=
 cond (decide (a.1<(b.2.length:Int))) ((grd (0<=a.1/\a.1<(b.2.length:Int))).bind fun v=>(b.2[(A2 a.1)]?).bind fun c=>(oi g c).bind fun m=>bnd (gw l i j) fun p=>(xe p m ((k).F)).bind fun d=>cond (decide (0<d)) (bnd ([c]) fun q=>(grd ((a.2.1.length+1)*32<=140737488355328)).bind fun w=>bnd (a.2.1++q) fun s=>bnd ([d]) fun t=>(grd ((a.2.2.length+1)*8<=140737488355328)).bind fun x=>bnd (a.2.2++t) fun u=>some (.inl (A0 .i64 (a.1+1),s,u))) (some (.inl (A0 .i64 (a.1+1),a.2.1,a.2.2)))) (some (.inr (a.2.1,a.2.2)))
def QP(c:ae)(i:Nat)(j:Nat)(a:aM)(b:List az):Option (Bool×List ai×List Int×List az):=
 (Bj c ((a).N) ((a).L)).bind fun d=>cond (!d.1) (some (false,[],[],b)) ((aW (PK c i j a b d) N0 (0,[],[])).bind fun g=>some (true,g.1,g.2,b))
def Pi(b:ae)(d:Nat)(g:Nat)(i:aM)(c:List az):Option (Bool×List ai×List Int×List az):=
 ((yx b).bind fun j=>cond (!j) (some true) (bnd (gw c d g) fun k=>(Gr k).bind fun l=>cond (!l) (some true) ((GK b i).bind fun m=>some (!m))):Option Bool).bind fun p=>cond (p) (some (false,[],[],c)) ((QP b d g i c).bind fun a=>some (a.1,a.2.1,a.2.2.1,a.2.2.2))
def FT(c:ae)(d:Nat)(g:Nat)(i:aM)(j:List az):Option (ai×ai×Bool×List az):=
 (Pi c d g i j).bind fun a=>cond (!a.1) (some ((⟨0,[]⟩:ai),(⟨0,[]⟩:ai),false,a.2.2.2)) ((Nh c a.2.1 a.2.2.1).bind fun b=>cond (decide (b.1<0)) (some ((⟨0,[]⟩:ai),(⟨0,[]⟩:ai),false,a.2.2.2)) ((grd (0<=b.1/\b.1<(a.2.1.length:Int))).bind fun m=>(a.2.1[(A2 b.1)]?).bind fun k=>(grd (0<=b.2/\b.2<(a.2.1.length:Int))).bind fun p=>(a.2.1[(A2 b.2)]?).bind fun l=>some (k,l,true,a.2.2.2)))
def Af(d:ae)(g:af)(b:Int)(c:List af)(a:Int×af):Option ((Int×af)⊕(af⊕(af×Bool×List af))):=
 cond (decide (24<(A0 .i64 (a.1+b)))) (some (.inr (.inr (g,false,c)))) ((tD d c (⟨(a.2).Id,(a.2).W,(⟨((a.2).N).N,((a.2).N).F⟩:ai),(⟨a.1,b⟩:aH),(⟨((a.2).F).N,((a.2).F).F⟩:ai),(⟨((a.2).L).N,((a.2).L).F⟩:aH)⟩:af)).bind fun i=>cond (i) (some (.inr (.inl (⟨(a.2).Id,(a.2).W,(⟨((a.2).N).N,((a.2).N).F⟩:ai),(⟨a.1,b⟩:aH),(⟨((a.2).F).N,((a.2).F).F⟩:ai),(⟨((a.2).L).N,((a.2).L).F⟩:aH)⟩:af)))) (some (.inl (A0 .i64 (a.1+1),(⟨(a.2).Id,(a.2).W,(⟨((a.2).N).N,((a.2).N).F⟩:ai),(⟨a.1,b⟩:aH),(⟨((a.2).F).N,((a.2).F).F⟩:ai),(⟨((a.2).L).N,((a.2).L).F⟩:aH)⟩:af)))))
def wX(d:ae)(b:Int)(c:List af)(a:Int×af):Option ((Int×af)⊕(af⊕(af×Bool×List af))):=
 cond (decide ((A0 .i64 (a.1+b))<=24)) ((tD d c (⟨(a.2).Id,(a.2).W,(⟨((a.2).N).N,((a.2).N).F⟩:ai),(⟨((a.2).P).N,((a.2).P).F⟩:aH),(⟨((a.2).F).N,((a.2).F).F⟩:ai),(⟨a.1,b⟩:aH)⟩:af)).bind fun g=>cond (g) (some (.inr (.inr ((⟨(a.2).Id,(a.2).W,(⟨((a.2).N).N,((a.2).N).F⟩:ai),(⟨((a.2).P).N,((a.2).P).F⟩:aH),(⟨((a.2).F).N,((a.2).F).F⟩:ai),(⟨a.1,b⟩:aH)⟩:af),true,c)))) (some (.inl (A0 .i64 (a.1+1),(⟨(a.2).Id,(a.2).W,(⟨((a.2).N).N,((a.2).N).F⟩:ai),(⟨((a.2).P).N,((a.2).P).F⟩:aH),(⟨((a.2).F).N,((a.2).F).F⟩:ai),(⟨a.1,b⟩:aH)⟩:af))))) (some (.inr (.inl a.2)))
def Gd(d:ae)(a:af)(g:Int)(i:Int)(b:List af):Option (af×Bool×List af):=
 (aW (Af d a g b) N0 (0,(⟨0,0,(⟨((a).N).N,((a).N).F⟩:ai),(⟨0,0⟩:aH),(⟨0,[]⟩:ai),(⟨0,0⟩:aH)⟩:af))).bind fun j=>(match j with| .inl c=>cond (((a).W)==0) (some ((⟨(a).Id,(a).W,(⟨((a).N).N,((a).N).F⟩:ai),(⟨((c).P).N,((c).P).F⟩:aH),(⟨((a).F).N,((a).F).F⟩:ai),(⟨((a).L).N,((a).L).F⟩:aH)⟩:af),true,b)) ((aW (wX d i b) N0 (0,(⟨(a).Id,(a).W,(⟨((a).N).N,((a).N).F⟩:ai),(⟨((c).P).N,((c).P).F⟩:aH),(⟨((a).F).N,((a).F).F⟩:ai),(⟨((a).L).N,((a).L).F⟩:aH)⟩:af))).bind fun k=>(match k with| .inl l=>some (l,false,b)| .inr m=>some m))| .inr p=>some p)
def KJ(a:ai):Option ai:=
 (pf a.F).bind fun b=>some (⟨a.N,b⟩:ai)
def ze(a:af):Option af:=
 (KJ a.N).bind fun b=>(KJ (⟨a.F.N,a.F.F⟩:ai)).bind fun c=>some (⟨a.Id,a.W,(⟨b.N,b.F⟩:ai),(⟨a.P.N,a.P.F⟩:aH),(⟨c.N,c.F⟩:ai),(⟨a.L.N,a.L.F⟩:aH)⟩:af)
def yt(c:List af)(d:af)(b:Int×List af):Option ((Int×List af)⊕(Int×List af)):=
 (cond (decide (b.1<(c.length:Int))) ((bE c b.1).bind fun g=>some (decide (g.Id<d.Id))) (some false):Option Bool).bind fun i=>cond (i) ((bE c b.1).bind fun j=>(ze j).bind fun a=>bnd ([(⟨a.Id,a.W,(⟨a.N.N,a.N.F⟩:ai),(⟨a.P.N,a.P.F⟩:aH),(⟨a.F.N,a.F.F⟩:ai),(⟨a.L.N,a.L.F⟩:aH)⟩:af)]) fun k=>(grd ((b.2.length+1)*112<=140737488355328)).bind fun m=>bnd (b.2++k) fun l=>some (.inl (A0 .i64 (b.1+1),l))) (some (.inr (b.1,b.2)))
def Cw(c:List af)(b:Int×List af):Option ((Int×List af)⊕(List af)):=
 cond (decide (b.1<(c.length:Int))) ((bE c b.1).bind fun d=>(ze d).bind fun a=>bnd ([(⟨a.Id,a.W,(⟨a.N.N,a.N.F⟩:ai),(⟨a.P.N,a.P.F⟩:aH),(⟨a.F.N,a.F.F⟩:ai),(⟨a.L.N,a.L.F⟩:aH)⟩:af)]) fun g=>(grd ((b.2.length+1)*112<=140737488355328)).bind fun j=>bnd (b.2++g) fun i=>some (.inl (A0 .i64 (b.1+1),i))) (some (.inr b.2))
def Hu(c:List af)(d:af):Option (List af):=
 (aW (yt c d) N0 (0,[])).bind fun b=>(ze d).bind fun a=>bnd ([(⟨a.Id,a.W,(⟨a.N.N,a.N.F⟩:ai),(⟨a.P.N,a.P.F⟩:aH),(⟨a.F.N,a.F.F⟩:ai),(⟨a.L.N,a.L.F⟩:aH)⟩:af)]) fun g=>(grd ((b.2.length+1)*112<=140737488355328)).bind fun k=>bnd (b.2++g) fun i=>(aW (Cw c) N0 (b.1,i)).bind fun j=>some j
def M_j(b:List af)(a:Int×af):Option ((Int×af)⊕af):=
 (cond (decide (a.1<(b.length:Int))) ((grd (0<=a.1/\a.1<(b.length:Int))).bind fun g=>(b[(A2 a.1)]?).bind fun c=>some (c.Id==((a.2).Id))) (some false):Option Bool).bind fun d=>cond (d) (some (.inl (A0 .i64 (a.1+1),(⟨A0 .i64 (((a.2).Id)+1),(a.2).W,(⟨((a.2).N).N,((a.2).N).F⟩:ai),(⟨((a.2).P).N,((a.2).P).F⟩:aH),(⟨((a.2).F).N,((a.2).F).F⟩:ai),(⟨((a.2).L).N,((a.2).L).F⟩:aH)⟩:af)))) (some (.inr a.2))
def IX(c:aM)(g:List ByteArray)(i:List aG)(k:List az)(d:List af):Option (Int×Bool×List af×List az×List af):=
 ((HK (⟨g,i⟩:ae) d).bind fun p=>cond (!p) (some true) (some ((d.length:Int)==8)):Option Bool).bind fun q=>cond (q) (some (0,false,[],k,d)) ((aW (M_j d) N0 (0,(⟨1,(c).W,(⟨0,[]⟩:ai),(⟨0,0⟩:aH),(⟨0,[]⟩:ai),(⟨0,0⟩:aH)⟩:af))).bind fun b=>(JD (⟨g,i⟩:ae) c k).bind fun m=>(cond (((c).W) !=0) ((FT (⟨g,i⟩:ae) 0 k.length c m.2.2.2).bind fun l=>some (l.2.2.1,(⟨(b).Id,(b).W,(⟨((b).N).N,((b).N).F⟩:ai),(⟨((b).P).N,((b).P).F⟩:aH),(⟨(l.2.1).N,(l.2.1).F⟩:ai),(⟨((b).L).N,((b).L).F⟩:aH)⟩:af),l.1,l.2.2.2)) (some (m.2.2.1,b,m.1,m.2.2.2)):Option (Bool×af×ai×List az)).bind fun a=>cond (!a.1) (some (0,false,[],a.2.2.2,d)) ((cond (((c).W) !=0) ((oi (⟨g,i⟩:ae) a.2.1.F).bind fun s=>bnd (gw a.2.2.2 0 k.length) fun t=>(xe t s ((c).F)).bind fun u=>some u) (some 0):Option Int).bind fun v=>(oi (⟨g,i⟩:ae) a.2.2.1).bind fun w=>bnd (gw a.2.2.2 0 k.length) fun x=>(xe x w ((c).F)).bind fun y=>(Gd (⟨g,i⟩:ae) (⟨(a.2.1).Id,(a.2.1).W,(⟨(a.2.2.1).N,(a.2.2.1).F⟩:ai),(⟨((a.2.1).P).N,((a.2.1).P).F⟩:aH),(⟨((a.2.1).F).N,((a.2.1).F).F⟩:ai),(⟨((a.2.1).L).N,((a.2.1).L).F⟩:aH)⟩:af) y v d).bind fun j=>cond (!j.2.1) (some (0,false,[],a.2.2.2,j.2.2)) (bnd (gw j.2.2 0 d.length) fun z=>(Hu z j.1).bind fun a1=>some ((j.1).Id,true,a1,a.2.2.2,j.2.2))))
def M_g(a:Int)(b:Int)(c:Int):Option Bool:=
 cond (decide (b<=a)) (some (decide (a<=c))) (some false)
def IW(c:ByteArray)(b:Int):Option (Int⊕(Unit⊕Bool)):=
 cond (decide (b<(c.size:Int))) (((wn c b).bind fun a=>cond (decide (97<=(a.toNat:Int))) (cond (decide (48<=(a.toNat:Int))) (some (decide ((a.toNat:Int)<=122),decide ((a.toNat:Int)<=57))) (some (decide ((a.toNat:Int)<=122),false))) (cond (decide (48<=(a.toNat:Int))) (some (false,decide ((a.toNat:Int)<=57))) (some (false,false))):Option (Bool×Bool)).bind fun d=>cond (!d.1) (cond (!d.2) (some (.inr (.inr false))) (cond (b==0) (some (.inr (.inr false))) (some (.inl (A0 .i64 (b+1)))))) (some (.inl (A0 .i64 (b+1))))) (some (.inr (.inl ())))
def Qh(a:ByteArray):Option Bool:=
 (aW (IW a) N0 0).bind fun b=>(match b with| .inl g=>(M_g (a.size:Int) 1 8).bind fun c=>some c| .inr d=>some d)
def IU(b:List ByteArray)(c:ByteArray)(a:Int):Option (Int⊕(Unit⊕Int)):=
 cond (decide (a<(b.length:Int))) ((bE b a).bind fun d=>cond (c.toList==d.toList) (some (.inr (.inr a))) (some (.inl (A0 .i64 (a+1))))) (some (.inr (.inl ())))
def US(a:List ByteArray)(b:ByteArray):Option Int:=
 (aW (IU a b) N0 0).bind fun c=>(match c with| .inl g=>some (-1)| .inr d=>some d)
def Ms(a:List ByteArray)(b:ByteArray):Option Bool:=
 (US a b).bind fun c=>some (decide (0<=c))
def Jw(a:Int):Option Bool:=
 some (a !=a)
def lj(a:Int)(b:Int):Option Int:=
 (Jw a).bind fun d=>(Jw b).bind fun c=>cond (d) (cond (c) (some 0) (some (-1))) (cond (c) (some 1) (cond (decide (a<b)) (some (-1)) (cond (decide (b<a)) (some 1) (some 0))))
def M_m(b:List Int)(a:Int):Option (Int⊕(Unit⊕Int)):=
 cond (decide (a<(b.length:Int))) ((bE b a).bind fun c=>cond (c !=0) (some (.inr (.inr c))) (some (.inl (A0 .i64 (a+1))))) (some (.inr (.inl ())))
def nW(a:List Int):Option Int:=
 (aW (M_m a) N0 0).bind fun b=>(match b with| .inl d=>some 0| .inr c=>some c)
def QI(a:aG)(b:aG):Option Int:=
 (lj a.A b.A).bind fun c=>(lj a.B b.B).bind fun d=>(lj a.N b.N).bind fun g=>(lj a.F b.F).bind fun i=>bnd ([c,d,g,i]) fun j=>(nW j).bind fun k=>some k
def FX(b:ae)(a:Int):Option (Int⊕(Unit⊕Bool)):=
 cond (decide (a<(b.N.length:Int))) ((bE b.N a).bind fun c=>(Qh c).bind fun d=>cond (!d) (some (.inr (.inr false))) ((slT b.N a).bind fun g=>(Ms g c).bind fun i=>cond (i) (some (.inr (.inr false))) (some (.inl (A0 .i64 (a+1)))))) (some (.inr (.inl ())))
def Jp(c:ae)(b:Int):Option (Int⊕(Unit⊕Bool)):=
 cond (decide (b<(c.F.length:Int))) ((bE c.F b).bind fun a=>cond (decide (a.A<0)) (some (.inr (.inr false))) (cond (decide (a.B<=a.A)) (some (.inr (.inr false))) (cond (decide ((c.N.length:Int)<=a.B)) (some (.inr (.inr false))) ((M_g a.N 1 5000).bind fun d=>cond (!d) (some (.inr (.inr false))) ((M_g a.F 0 9).bind fun g=>cond (!g) (some (.inr (.inr false))) (cond (decide (0<b)) ((bE c.F (A0 .i64 (b-1))).bind fun i=>(QI i a).bind fun j=>cond (decide (0<j)) (some (.inr (.inr false))) (some (.inl (A0 .i64 (b+1))))) (some (.inl (A0 .i64 (b+1)))))))))) (some (.inr (.inl ())))
def Dh(a:ae):Option Bool:=
 (aW (FX a) N0 0).bind fun b=>(match b with| .inl j=>(aW (Jp a) N0 0).bind fun c=>(match c with| .inl k=>(M_g (a.N.length:Int) 2 8).bind fun d=>cond (d) (some (decide ((a.F.length:Int)<=14))) (some false)| .inr g=>some g)| .inr i=>some i)
def AJ(a:aG)(b:Int):Option Int:=
 cond (b==a.A) (some a.B) (cond (b==a.B) (some a.A) (some (-1)))
def Gf(b:List Int)(c:Int)(a:Int):Option (Int⊕(Unit⊕Int)):=
 cond (decide (a<(b.length:Int))) ((bE b a).bind fun d=>cond (c==d) (some (.inr (.inr a))) (some (.inl (A0 .i64 (a+1))))) (some (.inr (.inl ())))
def UG(a:List Int)(b:Int):Option Int:=
 (aW (Gf a b) N0 0).bind fun c=>(match c with| .inl g=>some (-1)| .inr d=>some d)
def Co(a:List Int)(b:Int):Option Bool:=
 (UG a b).bind fun c=>some (decide (0<=c))
def Ir(c:ae)(d:ai)(a:Int×Int×List Int):Option ((Int×Int×List Int)⊕((List Int)⊕(List Int×Bool))):=
 cond (decide (a.2.1<(d.F.length:Int))) ((bE d.F a.2.1).bind fun g=>(M_g g 0 (A0 .i64 ((c.F.length:Int)-1))).bind fun i=>cond (!i) (some (.inr (.inr (([]),false)))) ((bE c.F g).bind fun j=>(AJ j a.1).bind fun b=>(cond (decide (b<0)) (some true) ((Co a.2.2 b).bind fun k=>some k):Option Bool).bind fun l=>cond (l) (some (.inr (.inr (([]),false)))) (bnd ([b]) fun m=>(grd ((a.2.2.length+1)*8<=140737488355328)).bind fun q=>bnd (a.2.2++m) fun p=>some (.inl (b,A0 .i64 (a.2.1+1),p))))) (some (.inr (.inl a.2.2)))
def Gm(b:ae)(a:ai):Option (List Int×Bool):=
 ((M_g a.N 0 (A0 .i64 ((b.N.length:Int)-1))).bind fun c=>cond (!c) (some true) (some ((a.F.length:Int)==0)):Option Bool).bind fun d=>cond (d) (some (([]),false)) (bnd ([a.N]) fun g=>(aW (Ir b a) N0 (a.N,0,g)).bind fun i=>(match i with| .inl j=>some (j,true)| .inr k=>some k))
def Hb(a:aH):Option Bool:=
 cond (decide (0<=a.N)) ((M_g a.F 1 24).bind fun b=>cond (b) (some (decide (a.N<=(A0 .i64 (24-a.F))))) (some false)) (some false)
def Iw(b:ae)(c:Int×List (List Int))(a:Int×List Int):Option ((Int×List Int)⊕(List Int)):=
 cond (decide (a.1<(b.F.length:Int))) ((bE b.F a.1).bind fun d=>cond (d.F==c.1) (bnd ([a.1]) fun g=>(grd ((a.2.length+1)*8<=140737488355328)).bind fun j=>bnd (a.2++g) fun i=>some (.inl (A0 .i64 (a.1+1),i))) (some (.inl (A0 .i64 (a.1+1),a.2)))) (some (.inr a.2))
def HV(c:ae)(a:Int×List (List Int)):Option ((Int×List (List Int))⊕(List (List Int))):=
 cond (decide (a.1<=9)) ((aW (Iw c a) N0 (0,[])).bind fun b=>cond (decide (0<(b.length:Int))) (bnd ([b]) fun d=>(grd ((a.2.length+1)*24<=140737488355328)).bind fun i=>bnd (a.2++d) fun g=>some (.inl (A0 .i64 (a.1+1),g))) (some (.inl (A0 .i64 (a.1+1),a.2)))) (some (.inr a.2))
def FY(b:ae)(a:Int×List (List Int)):Option ((Int×List (List Int))⊕(List (List Int))):=
 cond (decide (a.1<(b.F.length:Int))) ((bE b.F a.1).bind fun c=>cond (c.F==0) (bnd ([a.1]) fun d=>bnd ([d]) fun g=>(grd ((a.2.length+1)*24<=140737488355328)).bind fun j=>bnd (a.2++g) fun i=>some (.inl (A0 .i64 (a.1+1),i))) (some (.inl (A0 .i64 (a.1+1),a.2)))) (some (.inr a.2))
def Mq(a:ae):Option (List (List Int)):=
 (aW (HV a) N0 (1,[])).bind fun b=>(aW (FY a) N0 (0,b)).bind fun c=>some c
def IH(a:List Int)(p1Z0:Int):Option Bool:=
 (Co a p1Z0).bind fun b=>some b
def JI(b:List (List Int))(c:(List Int)->Option Bool)(a:Int):Option (Int⊕(Unit⊕Int)):=
 cond (decide (a<(b.length:Int))) ((bE b a).bind fun d=>(c d).bind fun g=>cond (g) (some (.inr (.inr a))) (some (.inl (A0 .i64 (a+1))))) (some (.inr (.inl ())))
def MQ(a:List (List Int))(b:(List Int)->Option Bool):Option Int:=
 (aW (JI a b) N0 0).bind fun c=>(match c with| .inl g=>some (-1)| .inr d=>some d)
def OW(a:ae)(b:Int):Option Int:=
 (Mq a).bind fun c=>(MQ c (fun x0=>IH x0 b)).bind fun d=>some d
def Gz(c:ae)(b:List Int)(a:Int×List Int):Option ((Int×List Int)⊕(List Int)):=
 cond (decide (a.1<(b.length:Int))) ((bE b a.1).bind fun d=>(OW c d).bind fun g=>bnd ([g]) fun i=>(grd ((a.2.length+1)*8<=140737488355328)).bind fun k=>bnd (a.2++i) fun j=>some (.inl (A0 .i64 (a.1+1),j))) (some (.inr a.2))
def Jz(a:ae)(b:List Int):Option (List Int):=
 (aW (Gz a b) N0 (0,[])).bind fun c=>some c
def Dd(c:Nat)(d:Nat)(b:Int)(a:Int×Int×List Int):Option ((Int×Int×List Int)⊕(Int×List Int)):=
 cond (decide (a.2.1<(((d-(A2 b)):Nat):Int))) ((grd (0<=a.2.1/\a.2.1<(((d-(A2 b)):Nat):Int))).bind fun k=>(a.2.2[((c+(A2 b))+(A2 a.2.1))]?).bind fun g=>(grd (0<=(A0 .i64 (a.2.1-1))/\(A0 .i64 (a.2.1-1))<(((d-(A2 b)):Nat):Int))).bind fun l=>(a.2.2[((c+(A2 b))+(A2 (A0 .i64 (a.2.1-1))))]?).bind fun i=>cond (g !=i) ((grd (0<=a.1/\a.1<(d:Int))).bind fun m=>(a.2.2[(c+(A2 a.1))]?).bind fun p=>bnd (a.2.2.set (c+(A2 a.1)) g) fun j=>some (.inl (A0 .i64 (a.1+1),A0 .i64 (a.2.1+1),j))) (some (.inl (a.1,A0 .i64 (a.2.1+1),a.2.2)))) (some (.inr (a.1,a.2.2)))
def Ii(d:Nat)(b:Nat)(g:List Int)(a:Int):Option (Int⊕(Unit⊕(Nat×Nat×List Int))):=
 cond (decide (a<(b:Int))) ((grd (0<=a/\a<(b:Int))).bind fun l=>(g[(d+(A2 a))]?).bind fun i=>(grd (0<=(A0 .i64 (a-1))/\(A0 .i64 (a-1))<(b:Int))).bind fun m=>(g[(d+(A2 (A0 .i64 (a-1))))]?).bind fun j=>cond (i==j) ((grd (0<=a/\True/\A2 a<=b/\True)).bind fun p=>(aW (Dd d b a) N0 (a,1,g)).bind fun c=>(grd (0<=c.1/\True/\A2 c.1<=b/\True)).bind fun q=>bnd (en c.2 (d+(A2 c.1)) (A5 (b-(A2 c.1)) 0)) fun k=>(grd (True/\0<=c.1/\True/\A2 c.1<=b)).bind fun s=>some (.inr (.inr (d,(A2 c.1),k)))) (some (.inl (A0 .i64 (a+1))))) (some (.inr (.inl ())))
def Oo(b:Nat)(a:Nat)(c:List Int):Option (Nat×Nat×List Int):=
 cond (decide ((a:Int)<2)) (some (b,a,c)) ((aW (Ii b a c) N0 1).bind fun d=>(match d with| .inl i=>some (b,a,c)| .inr g=>some g))
def BZ(b:List Int)(d:List Int)(a:Int×List Int):Option ((Int×List Int)⊕(List Int)):=
 cond (decide (a.1<(b.length:Int))) ((bE b a.1).bind fun c=>(Co d c).bind fun g=>cond (g) (bnd ([c]) fun i=>(grd ((a.2.length+1)*8<=140737488355328)).bind fun k=>bnd (a.2++i) fun j=>some (.inl (A0 .i64 (a.1+1),j))) (some (.inl (A0 .i64 (a.1+1),a.2)))) (some (.inr a.2))
def HE(c:List Int)(d:List Int):Option (List Int):=
 (aW (BZ c d) N0 (0,[])).bind fun b=>(rC b).bind fun g=>(Oo 0 b.length g).bind fun a=>bnd (gw a.2.2 a.1 a.2.1) fun i=>some i
def CK(a:ae)(b:List Int)(c:List Int):Option Bool:=
 (Jz a b).bind fun d=>(Jz a c).bind fun g=>(HE d g).bind fun i=>some ((i.length:Int)==0)
def Mv(d:ae)(a:af):Option Bool:=
 (Gm d a.N).bind fun b=>((M_g a.Id 1 999).bind fun g=>cond (!g) (some true) ((M_g a.W 0 2).bind fun i=>cond (!i) (some true) (cond (!b.2) (some true) ((Hb a.P).bind fun j=>some (!j)))):Option Bool).bind fun k=>cond (k) (some false) (cond (a.W==0) ((cond (a.F.N==0) (cond ((a.F.F.length:Int)==0) (some (a.L.N==0&&a.L.F==0)) (some false)) (some false):Option Bool).bind fun l=>some l) ((Gm d a.F).bind fun c=>cond (c.2) ((Hb a.L).bind fun m=>cond (m) ((grd (0<=0/\0<(c.1.length:Int))).bind fun v=>(c.1[(A2 0)]?).bind fun p=>(grd (0<=0/\0<(b.1.length:Int))).bind fun w=>(b.1[(A2 0)]?).bind fun q=>cond (p==q) ((grd (0<=(A0 .i64 ((c.1.length:Int)-1))/\(A0 .i64 ((c.1.length:Int)-1))<(c.1.length:Int))).bind fun x=>(c.1[(A2 (A0 .i64 ((c.1.length:Int)-1)))]?).bind fun s=>(grd (0<=(A0 .i64 ((b.1.length:Int)-1))/\(A0 .i64 ((b.1.length:Int)-1))<(b.1.length:Int))).bind fun y=>(b.1[(A2 (A0 .i64 ((b.1.length:Int)-1)))]?).bind fun t=>cond (s==t) ((CK d a.N.F a.F.F).bind fun u=>some u) (some false)) (some false)) (some false)) (some false)))
def Iy(a:aH):Option Int:=
 (grd (0<=a.F)).bind fun b=>(grd (0<=a.N)).bind fun c=>some (A0 .i64 ((A0 .i64 ((A0 .i64 (1*2^(min (A2 a.F) (A3 .i64))))-1))*2^(min (A2 a.N) (A3 .i64))))
def WF(a:gD)(b:gD):Option Bool:=
 (Iy a.F).bind fun c=>(Iy b.F).bind fun d=>cond ((bits .and .i64 c d) !=0) ((HE a.N.F b.N.F).bind fun g=>some (decide (0<(g.length:Int)))) (some false)
def AB(a:ai)(b:aH)(c:ai)(d:aH):Option Bool:=
 (WF (⟨0,(⟨a.N,a.F⟩:ai),(⟨b.N,b.F⟩:aH)⟩:gD) (⟨0,(⟨c.N,c.F⟩:ai),(⟨d.N,d.F⟩:aH)⟩:gD)).bind fun g=>some g
def Iz(c:ae)(a:af)(b:af):Option Bool:=
 ((AB a.N a.P b.N b.P).bind fun d=>cond (d) (some true) ((AB a.N a.P b.F b.L).bind fun g=>cond (g) (some true) ((AB a.F a.L b.N b.P).bind fun i=>some i)):Option Bool).bind fun j=>cond (j) (some false) ((cond (a.W==2) (cond (b.W==2) ((CK c a.N.F b.N.F).bind fun k=>some k) (some false)) (some false):Option Bool).bind fun l=>cond (l) (some true) ((AB a.F a.L b.F b.L).bind fun m=>some (!m)))
def Ca(a:af)(p1Z0:ae)(p2Z0:af):Option Bool:=
 (Iz p1Z0 a p2Z0).bind fun b=>some (!b)
def JU(b:List af)(c:af->Option Bool)(a:Int):Option (Int⊕(Unit⊕Int)):=
 cond (decide (a<(b.length:Int))) ((bE b a).bind fun d=>(c d).bind fun g=>cond (g) (some (.inr (.inr a))) (some (.inl (A0 .i64 (a+1))))) (some (.inr (.inl ())))
def Ts(a:List af)(b:af->Option Bool):Option Int:=
 (aW (JU a b) N0 0).bind fun c=>(match c with| .inl g=>some (-1)| .inr d=>some d)
def td(a:List af)(b:af->Option Bool):Option Bool:=
 (Ts a b).bind fun c=>some (decide (0<=c))
def Ik(d:ae)(b:List af)(a:Int):Option (Int⊕(Unit⊕Bool)):=
 cond (decide (a<(b.length:Int))) ((bE b a).bind fun c=>(Mv d c).bind fun g=>cond (!g) (some (.inr (.inr false))) (cond (decide (0<a)) ((bE b (A0 .i64 (a-1))).bind fun i=>cond (decide (c.Id<=i.Id)) (some (.inr (.inr false))) ((slT b a).bind fun j=>(td j (fun x0=>Ca x0 d c)).bind fun k=>cond (k) (some (.inr (.inr false))) (some (.inl (A0 .i64 (a+1)))))) ((slT b a).bind fun l=>(td l (fun x0=>Ca x0 d c)).bind fun m=>cond (m) (some (.inr (.inr false))) (some (.inl (A0 .i64 (a+1))))))) (some (.inr (.inl ())))
def KC(a:ae)(b:List af):Option Bool:=
 ((Dh a).bind fun c=>cond (!c) (some true) (some (decide (8<(b.length:Int)))):Option Bool).bind fun d=>cond (d) (some false) ((aW (Ik a b) N0 0).bind fun g=>(match g with| .inl j=>some true| .inr i=>some i))
def LU(a:af)(p1Z0:af):Option Bool:=
 some (a.Id==p1Z0.Id)
def FZ(c:List az)(a:Int):Option (Int⊕(Unit⊕Bool)):=
 cond (decide (a<(c.length:Int))) ((bE c a).bind fun b=>(M_g b.N 1 20000).bind fun g=>cond (!g) (some (.inr (.inr false))) ((M_g b.F 1 1000).bind fun i=>cond (!i) (some (.inr (.inr false))) (cond (decide (0<a)) ((bE c (A0 .i64 (a-1))).bind fun d=>cond (decide (d.N<=b.N)) (some (.inr (.inr false))) (cond (decide (b.F<=d.F)) (some (.inr (.inr false))) (some (.inl (A0 .i64 (a+1)))))) (some (.inl (A0 .i64 (a+1))))))) (some (.inr (.inl ())))
def FC(a:List az):Option Bool:=
 (aW (FZ a) N0 0).bind fun b=>(match b with| .inl g=>(M_g (a.length:Int) 1 6).bind fun c=>some c| .inr d=>some d)
def RE(b:ae)(a:aM):Option Bool:=
 (M_g a.N 0 (A0 .i64 ((b.N.length:Int)-1))).bind fun c=>cond (c) ((M_g a.L 0 (A0 .i64 ((b.N.length:Int)-1))).bind fun d=>cond (d) (cond (a.N !=a.L) ((M_g a.F 1 1000).bind fun g=>cond (g) ((M_g a.W 0 2).bind fun i=>some i) (some false)) (some false)) (some false)) (some false)
def Pu(a:aM)(p1Z0:ae):Option Bool:=
 (RE p1Z0 a).bind fun b=>some (!b)
def IM(b:List aM)(c:aM->Option Bool)(a:Int):Option (Int⊕(Unit⊕Int)):=
 cond (decide (a<(b.length:Int))) ((bE b a).bind fun d=>(c d).bind fun g=>cond (g) (some (.inr (.inr a))) (some (.inl (A0 .i64 (a+1))))) (some (.inr (.inl ())))
def SE(a:List aM)(b:aM->Option Bool):Option Int:=
 (aW (IM a b) N0 0).bind fun c=>(match c with| .inl g=>some (-1)| .inr d=>some d)
def Rs(a:List aM)(b:aM->Option Bool):Option Bool:=
 (SE a b).bind fun c=>some (decide (0<=c))
def QF(a:ae)(b:List aM):Option Bool:=
 (Dh a).bind fun c=>cond (c) (cond (decide ((b.length:Int)<=12)) ((Rs b (fun x0=>Pu x0 a)).bind fun d=>some (!d)) (some false)) (some false)
def Qt(a:Int)(p1Z0:ae):Option Bool:=
 (M_g a 0 (A0 .i64 ((p1Z0.N.length:Int)-1))).bind fun b=>some (!b)
def IP(b:List Int)(c:Int->Option Bool)(a:Int):Option (Int⊕(Unit⊕Int)):=
 cond (decide (a<(b.length:Int))) ((bE b a).bind fun d=>(c d).bind fun g=>cond (g) (some (.inr (.inr a))) (some (.inl (A0 .i64 (a+1))))) (some (.inr (.inl ())))
def Sm(a:List Int)(b:Int->Option Bool):Option Int:=
 (aW (IP a b) N0 0).bind fun c=>(match c with| .inl g=>some (-1)| .inr d=>some d)
def Ml(a:List Int)(b:Int->Option Bool):Option Bool:=
 (Sm a b).bind fun c=>some (decide (0<=c))
def MI(a:ae)(b:List Int):Option Bool:=
 (Dh a).bind fun c=>cond (c) ((Ml b (fun x0=>Qt x0 a)).bind fun d=>some (!d)) (some false)
def JO(a:List Int):Option (List Int):=
 cond (a.isEmpty) (amb (some ([])) ((grd (a.length*8<=140737488355328)).bind fun b=>some a)) ((grd (a.length*8<=140737488355328)).bind fun c=>some a)
def M_x(j:Int)(d:Int)(g:List Int)(i:ae)(k:Int->Int->List Int->Int->List ai->Int->ae->Option (Int×List ai×Int×ae))(a:Int×Int×List ai×Int×ae):Option ((Int×Int×List ai×Int×ae)⊕(Int×List ai×Int×ae)):=
 cond (decide (a.1<(((i).F).length:Int))) ((bE ((i).F) a.1).bind fun l=>(AJ l j).bind fun b=>(cond (decide (0<=b)) ((grd (0<=b)).bind fun s=>some ((bits .and .i64 (A4 d (2^(min (A2 b) (A3 .i64)))) 1)==0)) (some false):Option Bool).bind fun m=>cond (m) ((grd (0<=b)).bind fun t=>bnd ([a.1]) fun p=>(grd ((g.length+1)*8<=140737488355328)).bind fun u=>bnd (g++p) fun q=>(k b (bits .or .i64 d (A0 .i64 (1*2^(min (A2 b) (A3 .i64))))) q a.2.1 a.2.2.1 a.2.2.2.1 a.2.2.2.2).bind fun c=>some (.inl (A0 .i64 (a.1+1),c.1,c.2.1,c.2.2.1,c.2.2.2))) (some (.inl (A0 .i64 (a.1+1),a.2.1,a.2.2.1,a.2.2.2.1,a.2.2.2.2)))) (some (.inr (a.2.1,a.2.2.1,a.2.2.2.1,a.2.2.2.2)))
def Qb(k:Int->Int->List Int->Int->List ai->Int->ae->Option (Int×List ai×Int×ae))(i:Int)(l:Int)(j:List Int)(b:Int)(c:List ai)(d:Int)(g:ae):Option (Int×List ai×Int×ae):=
 cond (i==b) ((JO j).bind fun m=>bnd ([(⟨d,m⟩:ai)]) fun p=>(grd ((c.length+1)*32<=140737488355328)).bind fun s=>bnd (c++p) fun q=>some (b,q,d,g)) ((aW (M_x i l j g k) N0 (0,b,c,d,g)).bind fun a=>some (a.1,a.2.1,a.2.2.1,a.2.2.2))
def Ie:Nat->Int->Int->List Int->Int->List ai->Int->ae->Option (Int×List ai×Int×ae)
 |0,_,_,_,_,_,_,_=>none
 |n+1,a,b,c,d,g,i,j=>Qb (Ie n) a b c d g i j
def ZB(j:Int)(d:Int)(g:List Int)(i:ae)(a:Int×Int×List ai×Int×ae):Option ((Int×Int×List ai×Int×ae)⊕(Int×List ai×Int×ae)):=
 cond (decide (a.1<(((i).F).length:Int))) ((bE ((i).F) a.1).bind fun k=>(AJ k j).bind fun b=>(cond (decide (0<=b)) ((grd (0<=b)).bind fun q=>some ((bits .and .i64 (A4 d (2^(min (A2 b) (A3 .i64)))) 1)==0)) (some false):Option Bool).bind fun l=>cond (l) ((grd (0<=b)).bind fun s=>bnd ([a.1]) fun m=>(grd ((g.length+1)*8<=140737488355328)).bind fun t=>bnd (g++m) fun p=>(Ie N0 b (bits .or .i64 d (A0 .i64 (1*2^(min (A2 b) (A3 .i64))))) p a.2.1 a.2.2.1 a.2.2.2.1 a.2.2.2.2).bind fun c=>some (.inl (A0 .i64 (a.1+1),c.1,c.2.1,c.2.2.1,c.2.2.2))) (some (.inl (A0 .i64 (a.1+1),a.2.1,a.2.2.1,a.2.2.2.1,a.2.2.2.2)))) (some (.inr (a.2.1,a.2.2.1,a.2.2.2.1,a.2.2.2.2)))
def Wb(i:Int)(k:Int)(j:List Int)(b:Int)(c:List ai)(d:Int)(g:ae):Option (Int×List ai×Int×ae):=
 cond (i==b) ((JO j).bind fun l=>bnd ([(⟨d,l⟩:ai)]) fun m=>(grd ((c.length+1)*32<=140737488355328)).bind fun q=>bnd (c++m) fun p=>some (b,p,d,g)) ((aW (ZB i k j g) N0 (0,b,c,d,g)).bind fun a=>some (a.1,a.2.1,a.2.2.1,a.2.2.2))
def abq(c:ae)(b:ai)(a:Int×Int):Option ((Int×Int)⊕Int):=
 cond (decide (a.2<(b.F.length:Int))) ((bE b.F a.2).bind fun d=>(bE c.F d).bind fun g=>some (.inl (A0 .i64 (a.1+g.N),A0 .i64 (a.2+1)))) (some (.inr a.1))
def Gn(a:ae)(b:ai):Option Int:=
 (aW (abq a b) N0 (0,0)).bind fun c=>some c
def HR(s1Z0:List Int)(s2Z0:List Int)(a:Int):Option (Int⊕(Unit⊕Int)):=
 cond (decide (a<(s1Z0.length:Int))) ((bE s1Z0 a).bind fun c=>cond (decide ((s2Z0.length:Int)<=a)) (some (.inr (.inr 1))) ((bE s2Z0 a).bind fun d=>(lj c d).bind fun b=>cond (b !=0) (some (.inr (.inr b))) (some (.inl (A0 .i64 (a+1)))))) (some (.inr (.inl ())))
def Ly(s1Z0:List Int)(s2Z0:List Int):Option Int:=
 (aW (HR s1Z0 s2Z0) N0 0).bind fun a=>(match a with| .inl c=>cond (decide ((s1Z0.length:Int)<(s2Z0.length:Int))) (some (-1)) (some 0)| .inr b=>some b)
def vd(c:ae)(a:ai)(b:ai):Option Int:=
 (Gn c a).bind fun d=>(Gn c b).bind fun g=>(lj d g).bind fun i=>(lj (a.F.length:Int) (b.F.length:Int)).bind fun j=>(Ly a.F b.F).bind fun k=>(lj a.N b.N).bind fun l=>bnd ([i,j,k,l]) fun m=>(nW m).bind fun p=>some p
def xI(a:ai)(b:ai)(p2Z0:ae):Option Int:=
 (vd p2Z0 a b).bind fun c=>some c
def MX(b:ae)(a:Int)(c:Int):Option (List ai):=
 (cond (a !=c) ((grd (0<=a)).bind fun j=>(Wb a (A0 .i64 (1*2^(min (A2 a) (A3 .i64)))) ([]) c ([]) a b).bind fun d=>some (d.2.2.2,d.2.1)) (some (b,[])):Option (ae×List ai)).bind fun g=>(oD (fun x0 x1=>xI x0 x1 g.1) g.2).bind fun i=>some i
def Hj(c:ae)(a:Int)(b:Int):Option (List ai×Bool):=
 (bnd ([a,b]) fun g=>(MI c g).bind fun i=>cond (!i) (some true) (some (a==b)):Option Bool).bind fun j=>cond (j) (some (([]),false)) ((MX c a b).bind fun d=>cond (decide (200<(d.length:Int))) (some (([]),false)) (some (d,true)))
def NT(b:List az)(c:Int)(a:Int):Option (Int⊕(Unit⊕(Int×Bool))):=
 cond (decide (0<=a)) ((bE b a).bind fun d=>cond (decide (c<=d.N)) (some (.inr (.inr (a,true)))) (some (.inl (A0 .i64 (a-1))))) (some (.inr (.inl ())))
def Qi(a:List az)(b:Int):Option (Int×Bool):=
 ((FC a).bind fun c=>cond (!c) (some true) ((M_g b 0 20000).bind fun d=>some (!d)):Option Bool).bind fun g=>cond (g) (some (0,false)) ((aW (NT a b) N0 (A0 .i64 ((a.length:Int)-1))).bind fun i=>(match i with| .inl k=>some (0,false)| .inr j=>some j))
def MA(c:List az)(g:Int)(b:Int):Option (Int×Bool):=
 (Qi c g).bind fun d=>(cond (!d.2) (some true) ((M_g b 1 1000).bind fun i=>some (!i)):Option Bool).bind fun j=>cond (j) (some (0,false)) ((bE c d.1).bind fun a=>(grd (a.F≠0)).bind fun k=>cond (decide (24<(A0 .i64 (C6 (A0 .i64 ((A0 .i64 (b+a.F))-1)) a.F)))) (some (0,false)) (some ((A0 .i64 (C6 (A0 .i64 ((A0 .i64 (b+a.F))-1)) a.F)),true)))
def FM(g:ae)(i:List az)(j:aM)(b:List ai×Bool)(a:Int×List aq):Option ((Int×List aq)⊕(List aq)):=
 cond (decide (a.1<(b.1.length:Int))) ((grd (0<=a.1/\a.1<(b.1.length:Int))).bind fun p=>(b.1[(A2 a.1)]?).bind fun c=>(Gn g c).bind fun k=>(MA i k ((j).F)).bind fun d=>cond (d.2) (bnd ([(⟨(⟨c.N,c.F⟩:ai),d.1⟩:aq)]) fun l=>(grd ((a.2.length+1)*40<=140737488355328)).bind fun q=>bnd (a.2++l) fun m=>some (.inl (A0 .i64 (a.1+1),m))) (some (.inl (A0 .i64 (a.1+1),a.2)))) (some (.inr a.2))
def GS(b:ae)(c:List az)(a:aM):Option (Bool×List aq):=
 ((FC c).bind fun g=>cond (!g) (some true) (bnd ([a]) fun i=>(QF b i).bind fun j=>some (!j)):Option Bool).bind fun k=>cond (k) (some (false,[])) ((Hj b ((a).N) ((a).L)).bind fun d=>cond (!d.2) (some (false,[])) ((aW (FM b c a d) N0 (0,[])).bind fun l=>some (true,l)))
def M_h(a:aq):Option Int:=
 some (A0 .i64 (a.N*(a.F.F.length:Int)))
def xU(a:aq)(b:aq):Option Int:=
 (M_h a).bind fun c=>(M_h b).bind fun d=>(lj c d).bind fun g=>some g
def M_s(b:Nat)(c:Nat)(g:Int)(a:Int×List aq):Option ((Int×List aq)⊕(List aq)):=
 (cond (decide (g<a.1)) ((grd (0<=a.1/\a.1<(c:Int))).bind fun s=>(a.2[(b+(A2 a.1))]?).bind fun i=>(grd (0<=(A0 .i64 (a.1-1))/\(A0 .i64 (a.1-1))<(c:Int))).bind fun t=>(a.2[(b+(A2 (A0 .i64 (a.1-1))))]?).bind fun j=>(xU i j).bind fun k=>some (decide (k<0))) (some false):Option Bool).bind fun l=>cond (l) ((grd (0<=(A0 .i64 (a.1-1))/\(A0 .i64 (a.1-1))<(c:Int))).bind fun u=>(a.2[(b+(A2 (A0 .i64 (a.1-1))))]?).bind fun m=>(grd (0<=a.1/\a.1<(c:Int))).bind fun v=>(a.2[(b+(A2 a.1))]?).bind fun p=>bnd (a.2.set (b+(A2 a.1)) m) fun d=>(d[(b+(A2 (A0 .i64 (a.1-1))))]?).bind fun w=>bnd (d.set (b+(A2 (A0 .i64 (a.1-1)))) p) fun q=>some (.inl (A0 .i64 (a.1-1),q))) (some (.inr a.2))
def M_b(b:Nat)(c:Nat)(d:Int)(g:Int)(a:Int×List aq):Option ((Int×List aq)⊕(List aq)):=
 cond (decide (a.1<g)) (((aW (M_s b c d) N0 (a.1,a.2)).bind fun i=>some i:Option (List aq)).bind fun j=>some (.inl (A0 .i64 (a.1+1),j))) (some (.inr a.2))
def GM(b:Nat)(c:Nat)(a:Int)(d:Int)(g:List aq):Option (List aq):=
 (aW (M_b b c a d) N0 (A0 .i64 (a+1),g)).bind fun i=>some i
def zO(b:Nat)(g:Nat)(d:Int)(c:Int)(j:Int)(a:Int×List aq):Option ((Int×List aq)⊕(List aq)):=
 cond (decide (a.1<j)) ((grd (0<=(A0 .i64 (c+a.1))/\(A0 .i64 (c+a.1))<(g:Int))).bind fun p=>(a.2[(b+(A2 (A0 .i64 (c+a.1))))]?).bind fun k=>(grd (0<=(A0 .i64 (d+a.1))/\(A0 .i64 (d+a.1))<(g:Int))).bind fun q=>(a.2[(b+(A2 (A0 .i64 (d+a.1))))]?).bind fun l=>bnd (a.2.set (b+(A2 (A0 .i64 (d+a.1)))) k) fun i=>(i[(b+(A2 (A0 .i64 (c+a.1))))]?).bind fun s=>bnd (i.set (b+(A2 (A0 .i64 (c+a.1)))) l) fun m=>some (.inl (A0 .i64 (a.1+1),m))) (some (.inr a.2))
def BQ(a:Nat)(b:Nat)(c:Int)(d:Int)(g:Int)(i:List aq):Option (List aq):=
 (aW (zO a b c d g) N0 (0,i)).bind fun j=>some j
def Lj(c:Nat)(d:Nat)(b:Int)(a:Int×Int×List aq):Option ((Int×Int×List aq)⊕(Int×List aq)):=
 cond (a.1 !=a.2.1) (cond (decide (a.2.1<a.1)) ((BQ c d (A0 .i64 (b-a.1)) b a.2.1 a.2.2).bind fun g=>some (.inl (A0 .i64 (a.1-a.2.1),a.2.1,g))) ((BQ c d (A0 .i64 (b-a.1)) (A0 .i64 ((A0 .i64 (b+a.2.1))-a.1)) a.1 a.2.2).bind fun i=>some (.inl (a.1,A0 .i64 (a.2.1-a.1),i)))) (some (.inr (a.1,a.2.2)))
def Bb(c:Nat)(d:Nat)(g:Int)(a:Int)(i:Int)(j:List aq):Option (List aq):=
 (aW (Lj c d a) N0 (A0 .i64 (a-g),A0 .i64 (i-a),j)).bind fun b=>(BQ c d (A0 .i64 (a-b.1)) a b.1 b.2).bind fun k=>some k
def M_t(c:Nat)(d:Nat)(b:Int)(g:List aq)(a:Int×Int):Option ((Int×Int)⊕Int):=
 cond (decide (a.1<a.2)) ((grd (0<=(A0 .i64 (A4 (A0 .u64 (A0 .i64 (a.1+a.2))) (2^(min (A2 1) (A3 .u64)))))/\(A0 .i64 (A4 (A0 .u64 (A0 .i64 (a.1+a.2))) (2^(min (A2 1) (A3 .u64)))))<(d:Int))).bind fun l=>(g[(c+(A2 (A0 .i64 (A4 (A0 .u64 (A0 .i64 (a.1+a.2))) (2^(min (A2 1) (A3 .u64)))))))]?).bind fun i=>(grd (0<=b/\b<(d:Int))).bind fun m=>(g[(c+(A2 b))]?).bind fun j=>(xU i j).bind fun k=>cond (decide (k<0)) (some (.inl (A0 .i64 ((A0 .i64 (A4 (A0 .u64 (A0 .i64 (a.1+a.2))) (2^(min (A2 1) (A3 .u64)))))+1),a.2))) (some (.inl (a.1,A0 .i64 (A4 (A0 .u64 (A0 .i64 (a.1+a.2))) (2^(min (A2 1) (A3 .u64)))))))) (some (.inr a.1))
def IV(b:Nat)(c:Nat)(g:Int)(a:Int×List aq):Option ((Int×List aq)⊕(List aq)):=
 cond (decide (a.1<(A0 .i64 (g-1)))) ((grd (0<=(A0 .i64 (a.1+1))/\(A0 .i64 (a.1+1))<(c:Int))).bind fun l=>(a.2[(b+(A2 (A0 .i64 (a.1+1))))]?).bind fun i=>(grd (0<=a.1/\a.1<(c:Int))).bind fun m=>(a.2[(b+(A2 a.1))]?).bind fun j=>bnd (a.2.set (b+(A2 a.1)) i) fun d=>(d[(b+(A2 (A0 .i64 (a.1+1))))]?).bind fun p=>bnd (d.set (b+(A2 (A0 .i64 (a.1+1)))) j) fun k=>some (.inl (A0 .i64 (a.1+1),k))) (some (.inr a.2))
def M_u(c:Nat)(d:Nat)(b:Int)(g:List aq)(a:Int×Int):Option ((Int×Int)⊕Int):=
 cond (decide (a.1<a.2)) ((grd (0<=b/\b<(d:Int))).bind fun l=>(g[(c+(A2 b))]?).bind fun i=>(grd (0<=(A0 .i64 (A4 (A0 .u64 (A0 .i64 (a.1+a.2))) (2^(min (A2 1) (A3 .u64)))))/\(A0 .i64 (A4 (A0 .u64 (A0 .i64 (a.1+a.2))) (2^(min (A2 1) (A3 .u64)))))<(d:Int))).bind fun m=>(g[(c+(A2 (A0 .i64 (A4 (A0 .u64 (A0 .i64 (a.1+a.2))) (2^(min (A2 1) (A3 .u64)))))))]?).bind fun j=>(xU i j).bind fun k=>cond (!(decide (k<0))) (some (.inl (A0 .i64 ((A0 .i64 (A4 (A0 .u64 (A0 .i64 (a.1+a.2))) (2^(min (A2 1) (A3 .u64)))))+1),a.2))) (some (.inl (a.1,A0 .i64 (A4 (A0 .u64 (A0 .i64 (a.1+a.2))) (2^(min (A2 1) (A3 .u64)))))))) (some (.inr a.1))
def FL(b:Nat)(c:Nat)(g:Int)(a:Int×List aq):Option ((Int×List aq)⊕(List aq)):=
 cond (decide (g<a.1)) ((grd (0<=(A0 .i64 (a.1-1))/\(A0 .i64 (a.1-1))<(c:Int))).bind fun l=>(a.2[(b+(A2 (A0 .i64 (a.1-1))))]?).bind fun i=>(grd (0<=a.1/\a.1<(c:Int))).bind fun m=>(a.2[(b+(A2 a.1))]?).bind fun j=>bnd (a.2.set (b+(A2 a.1)) i) fun d=>(d[(b+(A2 (A0 .i64 (a.1-1))))]?).bind fun p=>bnd (d.set (b+(A2 (A0 .i64 (a.1-1)))) j) fun k=>some (.inl (A0 .i64 (a.1-1),k))) (some (.inr a.2))
def M_v(g:Nat)(i:Nat)(b:Int)(c:Int)(d:Int)(j:List aq)(a:Int×Int):Option ((Int×Int)⊕Int):=
 cond (decide (a.1<a.2)) ((grd (0<=(A0 .i64 ((A0 .i64 ((A0 .i64 ((A0 .i64 (A4 (A0 .u64 (A0 .i64 (b+d))) (2^(min (A2 1) (A3 .u64)))))+c))-1))-(A0 .i64 (A4 (A0 .u64 (A0 .i64 (a.1+a.2))) (2^(min (A2 1) (A3 .u64)))))))/\(A0 .i64 ((A0 .i64 ((A0 .i64 ((A0 .i64 (A4 (A0 .u64 (A0 .i64 (b+d))) (2^(min (A2 1) (A3 .u64)))))+c))-1))-(A0 .i64 (A4 (A0 .u64 (A0 .i64 (a.1+a.2))) (2^(min (A2 1) (A3 .u64)))))))<(i:Int))).bind fun p=>(j[(g+(A2 (A0 .i64 ((A0 .i64 ((A0 .i64 ((A0 .i64 (A4 (A0 .u64 (A0 .i64 (b+d))) (2^(min (A2 1) (A3 .u64)))))+c))-1))-(A0 .i64 (A4 (A0 .u64 (A0 .i64 (a.1+a.2))) (2^(min (A2 1) (A3 .u64)))))))))]?).bind fun k=>(grd (0<=(A0 .i64 (A4 (A0 .u64 (A0 .i64 (a.1+a.2))) (2^(min (A2 1) (A3 .u64)))))/\(A0 .i64 (A4 (A0 .u64 (A0 .i64 (a.1+a.2))) (2^(min (A2 1) (A3 .u64)))))<(i:Int))).bind fun q=>(j[(g+(A2 (A0 .i64 (A4 (A0 .u64 (A0 .i64 (a.1+a.2))) (2^(min (A2 1) (A3 .u64)))))))]?).bind fun l=>(xU k l).bind fun m=>cond (!(decide (m<0))) (some (.inl (A0 .i64 ((A0 .i64 (A4 (A0 .u64 (A0 .i64 (a.1+a.2))) (2^(min (A2 1) (A3 .u64)))))+1),a.2))) (some (.inl (a.1,A0 .i64 (A4 (A0 .u64 (A0 .i64 (a.1+a.2))) (2^(min (A2 1) (A3 .u64)))))))) (some (.inr a.1))
def VQ(k:Nat->Nat->Int->Int->Int->List aq->Option (List aq))(g:Nat)(i:Nat)(a:Int)(b:Int)(c:Int)(j:List aq):Option (List aq):=
 cond ((A0 .i64 (b-a))==1) ((aW (M_t g i a j) N0 (b,c)).bind fun q=>(aW (IV g i q) N0 (a,j)).bind fun s=>some s) (cond ((A0 .i64 (c-b))==1) ((aW (M_u g i b j) N0 (a,b)).bind fun t=>(aW (FL g i t) N0 (b,j)).bind fun u=>some u) ((cond (decide ((A0 .i64 (A4 (A0 .u64 (A0 .i64 (a+c))) (2^(min (A2 1) (A3 .u64)))))<b)) (some (A0 .i64 ((A0 .i64 ((A0 .i64 (A4 (A0 .u64 (A0 .i64 (a+c))) (2^(min (A2 1) (A3 .u64)))))+b))-c),A0 .i64 (A4 (A0 .u64 (A0 .i64 (a+c))) (2^(min (A2 1) (A3 .u64)))))) (some (a,b)):Option (Int×Int)).bind fun l=>(aW (M_v g i a b c j) N0 (l.1,l.2)).bind fun d=>((cond (decide (d<b)) (some (decide (b<(A0 .i64 ((A0 .i64 ((A0 .i64 (A4 (A0 .u64 (A0 .i64 (a+c))) (2^(min (A2 1) (A3 .u64)))))+b))-d))))) (some false):Option Bool).bind fun v=>cond (v) ((Bb g i d b (A0 .i64 ((A0 .i64 ((A0 .i64 (A4 (A0 .u64 (A0 .i64 (a+c))) (2^(min (A2 1) (A3 .u64)))))+b))-d)) j).bind fun w=>some w) (some j):Option (List aq)).bind fun m=>((cond (decide (a<d)) (some (decide (d<(A0 .i64 (A4 (A0 .u64 (A0 .i64 (a+c))) (2^(min (A2 1) (A3 .u64)))))))) (some false):Option Bool).bind fun x=>cond (x) ((k g i a d (A0 .i64 (A4 (A0 .u64 (A0 .i64 (a+c))) (2^(min (A2 1) (A3 .u64))))) m).bind fun y=>some y) (some m):Option (List aq)).bind fun p=>(cond (decide ((A0 .i64 (A4 (A0 .u64 (A0 .i64 (a+c))) (2^(min (A2 1) (A3 .u64)))))<(A0 .i64 ((A0 .i64 ((A0 .i64 (A4 (A0 .u64 (A0 .i64 (a+c))) (2^(min (A2 1) (A3 .u64)))))+b))-d)))) (some (decide ((A0 .i64 ((A0 .i64 ((A0 .i64 (A4 (A0 .u64 (A0 .i64 (a+c))) (2^(min (A2 1) (A3 .u64)))))+b))-d))<c))) (some false):Option Bool).bind fun z=>cond (z) ((k g i (A0 .i64 (A4 (A0 .u64 (A0 .i64 (a+c))) (2^(min (A2 1) (A3 .u64))))) (A0 .i64 ((A0 .i64 ((A0 .i64 (A4 (A0 .u64 (A0 .i64 (a+c))) (2^(min (A2 1) (A3 .u64)))))+b))-d)) c p).bind fun a1=>some a1) (some p)))
def M_k:Nat->Nat->Nat->Int->Int->Int->List aq->Option (List aq)
 |0,_,_,_,_,_,_=>none
 |n+1,a,b,c,d,g,i=>VQ (M_k n) a b c d g i
def Im(b:Int)(a:Nat×Int×Int×List aq):Option ((Nat×Int×Int×List aq)⊕(Nat×Int×List aq)):=
 cond (decide (a.2.2.1<=b)) ((GM 0 a.1 a.2.1 a.2.2.1 a.2.2.2).bind fun c=>some (.inl (a.1,a.2.2.1,A0 .i64 (a.2.2.1+20),c))) (some (.inr (a.1,a.2.1,a.2.2.2)))
def Iv(c:Int)(d:Nat×Int×List aq)(b:Int×List aq)(a:Int×Int×List aq):Option ((Int×Int×List aq)⊕(Int×List aq)):=
 cond (decide (a.2.1<=c)) ((M_k N0 0 d.1 a.1 (A0 .i64 (a.1+b.1)) a.2.1 a.2.2).bind fun g=>some (.inl (a.2.1,A0 .i64 (a.2.1+(A0 .i64 (2*b.1))),g))) (some (.inr (a.1,a.2.2)))
def No(c:Int)(d:Nat×Int×List aq)(a:Int×List aq):Option ((Int×List aq)⊕(List aq)):=
 cond (decide (a.1<c)) ((aW (Iv c d a) N0 (0,A0 .i64 (2*a.1),a.2)).bind fun b=>cond (decide ((A0 .i64 (b.1+a.1))<c)) ((M_k N0 0 d.1 b.1 (A0 .i64 (b.1+a.1)) c b.2).bind fun g=>some (.inl (A0 .i64 (a.1*2),g))) (some (.inl (A0 .i64 (a.1*2),b.2)))) (some (.inr a.2))
def Wv(b:Int)(c:List aq):Option (List aq):=
 (aW (Im b) N0 (c.length,0,20,c)).bind fun a=>(GM 0 a.1 a.2.1 b a.2.2).bind fun d=>(aW (No b a) N0 (20,d)).bind fun g=>some g
def OT(a:List aq):Option (List aq):=
 (Wv (a.length:Int) a).bind fun b=>some b
def Tm(a:List aq):Option (Nat×Nat×List aq):=
 (OT a).bind fun b=>some (0,a.length,b)
def Ky(c:ae)(d:List az)(g:aM):Option (aq×Bool):=
 (GS c d g).bind fun a=>(cond (!a.1) (some true) (some ((a.2.length:Int)==0)):Option Bool).bind fun i=>cond (i) (some ((⟨(⟨0,[]⟩:ai),0⟩:aq),false)) ((Tm a.2).bind fun b=>(grd (0<=0/\0<(b.2.1:Int))).bind fun k=>(b.2.2[(b.1+(A2 0))]?).bind fun j=>some (j,true))
def Hx(g:ae)(i:Bool×List aq)(j:Bool×Int×aq×aq)(c:aq)(a:Bool×Int×aq×aq):Option ((Bool×Int×aq×aq)⊕(Bool×aq×aq)):=
 cond (decide (a.2.1<(((i.2.length-(A2 (A0 .i64 (j.2.1+1)))):Nat):Int))) ((grd (0<=a.2.1/\a.2.1<(((i.2.length-(A2 (A0 .i64 (j.2.1+1)))):Nat):Int))).bind fun g1=>(i.2[((A2 (A0 .i64 (j.2.1+1)))+(A2 a.2.1))]?).bind fun d=>(CK g c.F.F d.F.F).bind fun l=>cond (!l) (some (.inl (a.1,A0 .i64 (a.2.1+1),a.2.2.1,a.2.2.2))) (((M_h d).bind fun m=>(M_h c).bind fun p=>cond (decide (m<p)) (some (d,c)) (some (c,d)):Option (aq×aq)).bind fun b=>(M_h b.1).bind fun q=>(M_h b.2).bind fun s=>(M_h a.2.2.1).bind fun t=>(M_h a.2.2.2).bind fun u=>(lj (A0 .i64 (q+s)) (A0 .i64 (t+u))).bind fun v=>bnd ([v,0]) fun w=>(nW w).bind fun k=>((cond (a.1) (some (k==0)) (some false):Option Bool).bind fun x=>cond (x) ((vd g b.1.F a.2.2.1.F).bind fun y=>(vd g b.2.F a.2.2.2.F).bind fun z=>bnd ([y,z]) fun a1=>(nW a1).bind fun b1=>some b1) (some k):Option Int).bind fun c1=>(cond (!a.1) (some true) (some (decide (c1<0))):Option Bool).bind fun d1=>cond (d1) (some (.inl (true,A0 .i64 (a.2.1+1),b.1,b.2))) (some (.inl (a.1,A0 .i64 (a.2.1+1),a.2.2.1,a.2.2.2))))) (some (.inr (a.1,a.2.2.1,a.2.2.2)))
def Cf(g:ae)(b:Bool×List aq)(a:Bool×Int×aq×aq):Option ((Bool×Int×aq×aq)⊕(Bool×aq×aq)):=
 cond (decide (a.2.1<(b.2.length:Int))) (((grd (0<=a.2.1/\a.2.1<(b.2.length:Int))).bind fun j=>(b.2[(A2 a.2.1)]?).bind fun i=>(grd (0<=(A0 .i64 (a.2.1+1))/\True/\A2 (A0 .i64 (a.2.1+1))<=b.2.length/\True)).bind fun k=>(aW (Hx g b a i) N0 (a.1,0,a.2.2.1,a.2.2.2)).bind fun c=>some (c.1,c.2.1,c.2.2):Option (Bool×aq×aq)).bind fun d=>some (.inl (d.1,A0 .i64 (a.2.1+1),d.2.1,d.2.2))) (some (.inr (a.1,a.2.2.1,a.2.2.2)))
def La(b:ae)(d:List az)(g:aM):Option (aq×aq×Bool):=
 (GS b d g).bind fun c=>cond (!c.1) (some ((⟨(⟨0,[]⟩:ai),0⟩:aq),(⟨(⟨0,[]⟩:ai),0⟩:aq),false)) ((aW (Cf b c) N0 (false,0,(⟨(⟨0,[]⟩:ai),0⟩:aq),(⟨(⟨0,[]⟩:ai),0⟩:aq))).bind fun a=>some (a.2.1,a.2.2,a.1))
def Qx(a:af)(p1Z0:ae)(p2Z0:af):Option Bool:=
 (Iz p1Z0 a p2Z0).bind fun b=>some (!b)
def te(a:ae)(b:List af)(c:af):Option Bool:=
 (td b (fun x0=>Qx x0 a c)).bind fun d=>some (!d)
def ZX(b:aH)(a:af)(c:ae)(d:List af):Option (Bool×af×ae×List af):=
 (te c d (⟨(a).Id,(a).W,(⟨((a).N).N,((a).N).F⟩:ai),(⟨(b).N,(b).F⟩:aH),(⟨((a).F).N,((a).F).F⟩:ai),(⟨((a).L).N,((a).L).F⟩:aH)⟩:af)).bind fun g=>some (g,(⟨(a).Id,(a).W,(⟨((a).N).N,((a).N).F⟩:ai),(⟨(b).N,(b).F⟩:aH),(⟨((a).F).N,((a).F).F⟩:ai),(⟨((a).L).N,((a).L).F⟩:aH)⟩:af),c,d)
def M_l(c:Int)(a:Int×ae×List af×af):Option ((Int×ae×List af×af)⊕((ae×List af×af)⊕(aH×Bool×ae×List af×af))):=
 cond (decide ((A0 .i64 (a.1+c))<=24)) ((ZX (⟨a.1,c⟩:aH) a.2.2.2 a.2.1 a.2.2.1).bind fun b=>cond (b.1) (some (.inr (.inr ((⟨a.1,c⟩:aH),true,b.2.2.1,b.2.2.2,b.2.1)))) (some (.inl (A0 .i64 (a.1+1),b.2.2.1,b.2.2.2,b.2.1)))) (some (.inr (.inl (a.2.1,a.2.2.1,a.2.2.2))))
def BH(b:Int)(c:ae)(d:List af)(g:af):Option (aH×Bool×ae×List af×af):=
 (aW (M_l b) N0 (0,c,d,g)).bind fun i=>(match i with| .inl a=>some ((⟨0,0⟩:aH),false,a.1,a.2.1,a.2.2)| .inr j=>some j)
def ZZ(b:aH)(a:af)(c:ae)(d:List af):Option (Bool×af×ae×List af):=
 (te c d (⟨(a).Id,(a).W,(⟨((a).N).N,((a).N).F⟩:ai),(⟨((a).P).N,((a).P).F⟩:aH),(⟨((a).F).N,((a).F).F⟩:ai),(⟨(b).N,(b).F⟩:aH)⟩:af)).bind fun g=>some (g,(⟨(a).Id,(a).W,(⟨((a).N).N,((a).N).F⟩:ai),(⟨((a).P).N,((a).P).F⟩:aH),(⟨((a).F).N,((a).F).F⟩:ai),(⟨(b).N,(b).F⟩:aH)⟩:af),c,d)
def Db(c:Int)(a:Int×ae×List af×af):Option ((Int×ae×List af×af)⊕((ae×List af×af)⊕(aH×Bool×ae×List af×af))):=
 cond (decide ((A0 .i64 (a.1+c))<=24)) ((ZZ (⟨a.1,c⟩:aH) a.2.2.2 a.2.1 a.2.2.1).bind fun b=>cond (b.1) (some (.inr (.inr ((⟨a.1,c⟩:aH),true,b.2.2.1,b.2.2.2,b.2.1)))) (some (.inl (A0 .i64 (a.1+1),b.2.2.1,b.2.2.2,b.2.1)))) (some (.inr (.inl (a.2.1,a.2.2.1,a.2.2.2))))
def CY(b:Int)(c:ae)(d:List af)(g:af):Option (aH×Bool×ae×List af×af):=
 (aW (Db b) N0 (0,c,d,g)).bind fun i=>(match i with| .inl a=>some ((⟨0,0⟩:aH),false,a.1,a.2.1,a.2.2)| .inr j=>some j)
def M_n(b:List af)(a:af):Option (af⊕af):=
 (td b (fun x0=>LU x0 a)).bind fun c=>cond (c) (some (.inl (⟨A0 .i64 (((a).Id)+1),(a).W,(⟨((a).N).N,((a).N).F⟩:ai),(⟨((a).P).N,((a).P).F⟩:aH),(⟨((a).F).N,((a).F).F⟩:ai),(⟨((a).L).N,((a).L).F⟩:aH)⟩:af))) (some (.inr a))
def VJ(i:ae)(k:List az)(l:List af)(g:aM):Option (af×Bool):=
 (aW (M_n l) N0 (⟨1,0,(⟨0,[]⟩:ai),(⟨0,0⟩:aH),(⟨0,[]⟩:ai),(⟨0,0⟩:aH)⟩:af)).bind fun c=>(Ky i k g).bind fun m=>(cond (((g).W) !=0) ((La i k g).bind fun j=>some (j.2.2,j.1,j.2.1)) (some (m.2,m.1,(⟨(⟨0,[]⟩:ai),0⟩:aq))):Option (Bool×aq×aq)).bind fun d=>cond (!d.1) (some ((⟨0,0,(⟨0,[]⟩:ai),(⟨0,0⟩:aH),(⟨0,[]⟩:ai),(⟨0,0⟩:aH)⟩:af),false)) ((BH ((d.2.1).N) i l (⟨(c).Id,(c).W,(⟨((d.2.1).F).N,((d.2.1).F).F⟩:ai),(⟨((c).P).N,((c).P).F⟩:aH),(⟨((c).F).N,((c).F).F⟩:ai),(⟨((c).L).N,((c).L).F⟩:aH)⟩:af)).bind fun a=>(cond (!a.2.1) (some true) (some (((g).W)==0)):Option Bool).bind fun p=>cond (p) (some ((⟨(a.2.2.2.2).Id,(g).W,(⟨((a.2.2.2.2).N).N,((a.2.2.2.2).N).F⟩:ai),(⟨(a.1).N,(a.1).F⟩:aH),(⟨((a.2.2.2.2).F).N,((a.2.2.2.2).F).F⟩:ai),(⟨((a.2.2.2.2).L).N,((a.2.2.2.2).L).F⟩:aH)⟩:af),a.2.1)) ((CY ((d.2.2).N) a.2.2.1 a.2.2.2.1 (⟨(a.2.2.2.2).Id,(g).W,(⟨((a.2.2.2.2).N).N,((a.2.2.2.2).N).F⟩:ai),(⟨(a.1).N,(a.1).F⟩:aH),(⟨((d.2.2).F).N,((d.2.2).F).F⟩:ai),(⟨((a.2.2.2.2).L).N,((a.2.2.2.2).L).F⟩:aH)⟩:af)).bind fun b=>some ((⟨(b.2.2.2.2).Id,(b.2.2.2.2).W,(⟨((b.2.2.2.2).N).N,((b.2.2.2.2).N).F⟩:ai),(⟨((b.2.2.2.2).P).N,((b.2.2.2.2).P).F⟩:aH),(⟨((b.2.2.2.2).F).N,((b.2.2.2.2).F).F⟩:ai),(⟨(b.1).N,(b.1).F⟩:aH)⟩:af),b.2.1)))
def OS(a:ai):Option ai:=
 (grd (a.F.length*8<=140737488355328)).bind fun b=>some (⟨a.N,a.F⟩:ai)
def JA(c:List af)(b:Int×List af):Option ((Int×List af)⊕(List af)):=
 cond (decide (b.1<(c.length:Int))) ((bE c b.1).bind fun a=>(OS a.N).bind fun d=>(OS a.F).bind fun g=>bnd ([(⟨a.Id,a.W,(⟨d.N,d.F⟩:ai),(⟨a.P.N,a.P.F⟩:aH),(⟨g.N,g.F⟩:ai),(⟨a.L.N,a.L.F⟩:aH)⟩:af)]) fun i=>(grd ((b.2.length+1)*112<=140737488355328)).bind fun k=>bnd (b.2++i) fun j=>some (.inl (A0 .i64 (b.1+1),j))) (some (.inr b.2))
def Ac(a:List af):Option (List af):=
 (aW (JA a) N0 (0,[])).bind fun b=>some b
def M_y(b:List af)(c:af×Bool)(a:Int):Option (Int⊕Int):=
 cond (decide (a<(b.length:Int))) ((bE b a).bind fun d=>cond (decide (d.Id<((c.1).Id))) (some (.inl (A0 .i64 (a+1)))) (some (.inr a))) (some (.inr a))
def zP(c:ae)(d:List az)(a:List af)(g:aM):Option (List af×Int×Bool):=
 ((KC c a).bind fun i=>cond (!i) (some true) (some ((a.length:Int)==8)):Option Bool).bind fun j=>cond (j) (some (([]),0,false)) ((VJ c d a g).bind fun b=>cond (!b.2) (some (([]),0,false)) ((Ac a).bind fun k=>(aW (M_y a b) N0 0).bind fun l=>bnd ([b.1]) fun m=>(Ac m).bind fun p=>(yn 112 k l p).bind fun q=>some (q,((b.1).Id),true)))
def Jg(b:List Int)(c:List Int)(a:Int):Option (Int⊕(Unit⊕Bool)):=
 cond (decide (a<(b.length:Int))) ((bE b a).bind fun d=>(bE c a).bind fun g=>cond (d !=g) (some (.inr (.inr false))) (some (.inl (A0 .i64 (a+1))))) (some (.inr (.inl ())))
def Nn(a:List Int)(b:List Int):Option Bool:=
 cond ((a.length:Int) !=(b.length:Int)) (some false) ((aW (Jg a b) N0 0).bind fun c=>(match c with| .inl g=>some true| .inr d=>some d))
def Hm(a:ai)(b:ai):Option Bool:=
 cond (a.N !=b.N) (some false) ((Nn a.F b.F).bind fun c=>cond (!c) (some false) (some true))
def Jn(a:aH)(b:aH):Option Bool:=
 cond (a.N !=b.N) (some false) (cond (a.F !=b.F) (some false) (some true))
def Gw(a:af)(b:af):Option Bool:=
 cond (a.Id !=b.Id) (some false) (cond (a.W !=b.W) (some false) ((Hm a.N b.N).bind fun c=>cond (!c) (some false) ((Jn a.P b.P).bind fun d=>cond (!d) (some false) ((Hm a.F b.F).bind fun g=>cond (!g) (some false) ((Jn a.L b.L).bind fun i=>cond (!i) (some false) (some true))))))
def Hh(b:List af)(c:List af)(a:Int):Option (Int⊕(Unit⊕Bool)):=
 cond (decide (a<(b.length:Int))) ((bE b a).bind fun d=>(bE c a).bind fun g=>(Gw d g).bind fun i=>cond (!i) (some (.inr (.inr false))) (some (.inl (A0 .i64 (a+1))))) (some (.inr (.inl ())))
def Ay(a:List af)(b:List af):Option Bool:=
 cond ((a.length:Int) !=(b.length:Int)) (some false) ((aW (Hh a b) N0 0).bind fun c=>(match c with| .inl g=>some true| .inr d=>some d))
def Jo(b:List ByteArray)(c:List ByteArray)(a:Int):Option (Int⊕(Unit⊕Bool)):=
 cond (decide (a<(b.length:Int))) ((bE b a).bind fun d=>(bE c a).bind fun g=>cond (!(d.toList==g.toList)) (some (.inr (.inr false))) (some (.inl (A0 .i64 (a+1))))) (some (.inr (.inl ())))
def PI(a:List ByteArray)(b:List ByteArray):Option Bool:=
 cond ((a.length:Int) !=(b.length:Int)) (some false) ((aW (Jo a b) N0 0).bind fun c=>(match c with| .inl g=>some true| .inr d=>some d))
def JS(a:aG)(b:aG):Option Bool:=
 cond (a.A !=b.A) (some false) (cond (a.B !=b.B) (some false) (cond (a.N !=b.N) (some false) (cond (a.F !=b.F) (some false) (some true))))
def GR(b:List aG)(c:List aG)(a:Int):Option (Int⊕(Unit⊕Bool)):=
 cond (decide (a<(b.length:Int))) ((bE b a).bind fun d=>(bE c a).bind fun g=>(JS d g).bind fun i=>cond (!i) (some (.inr (.inr false))) (some (.inl (A0 .i64 (a+1))))) (some (.inr (.inl ())))
def Pc(a:List aG)(b:List aG):Option Bool:=
 cond ((a.length:Int) !=(b.length:Int)) (some false) ((aW (GR a b) N0 0).bind fun c=>(match c with| .inl g=>some true| .inr d=>some d))
def Ll(a:ae)(b:ae):Option Bool:=
 (PI a.N b.N).bind fun c=>cond (!c) (some false) ((Pc a.F b.F).bind fun d=>cond (!d) (some false) (some true))
def Il(a:az)(b:az):Option Bool:=
 cond (a.N !=b.N) (some false) (cond (a.F !=b.F) (some false) (some true))
def GZ(b:List az)(c:List az)(a:Int):Option (Int⊕(Unit⊕Bool)):=
 cond (decide (a<(b.length:Int))) ((bE b a).bind fun d=>(bE c a).bind fun g=>(Il d g).bind fun i=>cond (!i) (some (.inr (.inr false))) (some (.inl (A0 .i64 (a+1))))) (some (.inr (.inl ())))
def LZ(a:List az)(b:List az):Option Bool:=
 cond ((a.length:Int) !=(b.length:Int)) (some false) ((aW (GZ a b) N0 0).bind fun c=>(match c with| .inl g=>some true| .inr d=>some d))
def Gb(a:Int×ByteArray):Option ((Int×ByteArray)⊕ByteArray):=
 cond (decide (0<a.1)) ((grd (10≠0)).bind fun c=>bnd ([A0 .u8 (A0 .i64 (48+(Int.tmod a.1 10)))]) fun b=>(grd ((b2s b).size+a.2.size<=9223372036854775807)).bind fun d=>(grd (10≠0)).bind fun g=>some (.inl (A0 .i64 (C6 a.1 10),(b2s b)++a.2))) (some (.inr a.2))
def Bs(a:Int):Option ByteArray:=
 cond (decide (a<=0)) (some (⟨#[109,48]⟩:ByteArray)) ((aW (Gb) N0 (a,(⟨#[]⟩:ByteArray))).bind fun b=>(grd ((⟨#[109]⟩:ByteArray).size+b.size<=9223372036854775807)).bind fun c=>some ((⟨#[109]⟩:ByteArray)++b))
def Gk(a:Int×Int×List ByteArray):Option ((Int×Int×List ByteArray)⊕(Int×List ByteArray)):=
 cond (decide (a.2.1<(a.2.2.length:Int))) ((Bs a.1).bind fun b=>(grd (0<=a.2.1/\a.2.1<(a.2.2.length:Int))).bind fun d=>(a.2.2[(A2 a.2.1)]?).bind fun g=>bnd (a.2.2.set (A2 a.2.1) b) fun c=>some (.inl (A0 .i64 (a.1+1),A0 .i64 (a.2.1+1),c))) (some (.inr (a.1,a.2.2)))
def NG(b:Int)(c:List ByteArray):Option (Int×List ByteArray):=
 (aW (Gk) N0 (b,0,c)).bind fun a=>some (a.1,a.2)
def IB(a:Int×Int×List aG):Option ((Int×Int×List aG)⊕(Int×List aG)):=
 cond (decide (a.2.1<(a.2.2.length:Int))) ((grd (0<=a.2.1/\a.2.1<(a.2.2.length:Int))).bind fun m=>(a.2.2[(A2 a.2.1)]?).bind fun b=>bnd (a.2.2.set (A2 a.2.1) (⟨a.1,b.B,b.N,b.F⟩:aG)) fun i=>(i[(A2 a.2.1)]?).bind fun c=>bnd (i.set (A2 a.2.1) (⟨c.A,A0 .i64 (a.1+1),c.N,c.F⟩:aG)) fun j=>(j[(A2 a.2.1)]?).bind fun d=>bnd (j.set (A2 a.2.1) (⟨d.A,d.B,A0 .i64 ((A0 .i64 (a.1+1))+1),d.F⟩:aG)) fun k=>(k[(A2 a.2.1)]?).bind fun g=>bnd (k.set (A2 a.2.1) (⟨g.A,g.B,g.N,A0 .i64 ((A0 .i64 ((A0 .i64 (a.1+1))+1))+1)⟩:aG)) fun l=>some (.inl (A0 .i64 ((A0 .i64 ((A0 .i64 ((A0 .i64 (a.1+1))+1))+1))+1),A0 .i64 (a.2.1+1),l))) (some (.inr (a.1,a.2.2)))
def Pz(b:Int)(c:List aG):Option (Int×List aG):=
 (aW (IB) N0 (b,0,c)).bind fun a=>some (a.1,a.2)
def Pq(c:Int)(d:List ByteArray)(g:List aG):Option (Int×List ByteArray×List aG):=
 (NG c d).bind fun a=>(Pz a.1 g).bind fun b=>some (b.1,a.2,b.2)
def Ig(a:Int×Int×List az):Option ((Int×Int×List az)⊕(Int×List az)):=
 cond (decide (a.2.1<(a.2.2.length:Int))) ((grd (0<=a.2.1/\a.2.1<(a.2.2.length:Int))).bind fun i=>(a.2.2[(A2 a.2.1)]?).bind fun c=>bnd (a.2.2.set (A2 a.2.1) (⟨a.1,c.F⟩:az)) fun b=>(b[(A2 a.2.1)]?).bind fun d=>bnd (b.set (A2 a.2.1) (⟨d.N,A0 .i64 (a.1+1)⟩:az)) fun g=>some (.inl (A0 .i64 ((A0 .i64 (a.1+1))+1),A0 .i64 (a.2.1+1),g))) (some (.inr (a.1,a.2.2)))
def Mb(b:Int)(c:List az):Option (Int×List az):=
 (aW (Ig) N0 (b,0,c)).bind fun a=>some (a.1,a.2)
def GQ(a:Int×Int×List Int):Option ((Int×Int×List Int)⊕(Int×List Int)):=
 cond (decide (a.2.1<(a.2.2.length:Int))) ((grd (0<=a.2.1/\a.2.1<(a.2.2.length:Int))).bind fun c=>(a.2.2[(A2 a.2.1)]?).bind fun d=>bnd (a.2.2.set (A2 a.2.1) a.1) fun b=>some (.inl (A0 .i64 (a.1+1),A0 .i64 (a.2.1+1),b))) (some (.inr (a.1,a.2.2)))
def CU(b:Int)(c:List Int):Option (Int×List Int):=
 (aW (GQ) N0 (b,0,c)).bind fun a=>some (a.1,a.2)
def JF(a:Int×Int×List af):Option ((Int×Int×List af)⊕(Int×List af)):=
 cond (decide (a.2.1<(a.2.2.length:Int))) ((grd (0<=a.2.1/\a.2.1<(a.2.2.length:Int))).bind fun d1=>(a.2.2[(A2 a.2.1)]?).bind fun d=>bnd (a.2.2.set (A2 a.2.1) (⟨a.1,d.W,(⟨d.N.N,d.N.F⟩:ai),(⟨d.P.N,d.P.F⟩:aH),(⟨d.F.N,d.F.F⟩:ai),(⟨d.L.N,d.L.F⟩:aH)⟩:af)) fun t=>(t[(A2 a.2.1)]?).bind fun g=>bnd (t.set (A2 a.2.1) (⟨g.Id,A0 .i64 (a.1+1),(⟨g.N.N,g.N.F⟩:ai),(⟨g.P.N,g.P.F⟩:aH),(⟨g.F.N,g.F.F⟩:ai),(⟨g.L.N,g.L.F⟩:aH)⟩:af)) fun u=>(u[(A2 a.2.1)]?).bind fun i=>bnd (u.set (A2 a.2.1) (⟨i.Id,i.W,(⟨A0 .i64 ((A0 .i64 (a.1+1))+1),i.N.F⟩:ai),(⟨i.P.N,i.P.F⟩:aH),(⟨i.F.N,i.F.F⟩:ai),(⟨i.L.N,i.L.F⟩:aH)⟩:af)) fun v=>(v[(A2 a.2.1)]?).bind fun b=>(CU (A0 .i64 ((A0 .i64 ((A0 .i64 (a.1+1))+1))+1)) b.N.F).bind fun q=>bnd (v.set (A2 a.2.1) (⟨b.Id,b.W,(⟨b.N.N,q.2⟩:ai),(⟨b.P.N,b.P.F⟩:aH),(⟨b.F.N,b.F.F⟩:ai),(⟨b.L.N,b.L.F⟩:aH)⟩:af)) fun w=>(w[(A2 a.2.1)]?).bind fun j=>bnd (w.set (A2 a.2.1) (⟨j.Id,j.W,(⟨j.N.N,j.N.F⟩:ai),(⟨q.1,j.P.F⟩:aH),(⟨j.F.N,j.F.F⟩:ai),(⟨j.L.N,j.L.F⟩:aH)⟩:af)) fun x=>(x[(A2 a.2.1)]?).bind fun k=>bnd (x.set (A2 a.2.1) (⟨k.Id,k.W,(⟨k.N.N,k.N.F⟩:ai),(⟨k.P.N,A0 .i64 (q.1+1)⟩:aH),(⟨k.F.N,k.F.F⟩:ai),(⟨k.L.N,k.L.F⟩:aH)⟩:af)) fun y=>(y[(A2 a.2.1)]?).bind fun l=>bnd (y.set (A2 a.2.1) (⟨l.Id,l.W,(⟨l.N.N,l.N.F⟩:ai),(⟨l.P.N,l.P.F⟩:aH),(⟨A0 .i64 ((A0 .i64 (q.1+1))+1),l.F.F⟩:ai),(⟨l.L.N,l.L.F⟩:aH)⟩:af)) fun z=>(z[(A2 a.2.1)]?).bind fun c=>(CU (A0 .i64 ((A0 .i64 ((A0 .i64 (q.1+1))+1))+1)) c.F.F).bind fun s=>bnd (z.set (A2 a.2.1) (⟨c.Id,c.W,(⟨c.N.N,c.N.F⟩:ai),(⟨c.P.N,c.P.F⟩:aH),(⟨c.F.N,s.2⟩:ai),(⟨c.L.N,c.L.F⟩:aH)⟩:af)) fun a1=>(a1[(A2 a.2.1)]?).bind fun m=>bnd (a1.set (A2 a.2.1) (⟨m.Id,m.W,(⟨m.N.N,m.N.F⟩:ai),(⟨m.P.N,m.P.F⟩:aH),(⟨m.F.N,m.F.F⟩:ai),(⟨s.1,m.L.F⟩:aH)⟩:af)) fun b1=>(b1[(A2 a.2.1)]?).bind fun p=>bnd (b1.set (A2 a.2.1) (⟨p.Id,p.W,(⟨p.N.N,p.N.F⟩:ai),(⟨p.P.N,p.P.F⟩:aH),(⟨p.F.N,p.F.F⟩:ai),(⟨p.L.N,A0 .i64 (s.1+1)⟩:aH)⟩:af)) fun c1=>some (.inl (A0 .i64 ((A0 .i64 (s.1+1))+1),A0 .i64 (a.2.1+1),c1))) (some (.inr (a.1,a.2.2)))
def JJ(b:Int)(c:List af):Option (Int×List af):=
 (aW (JF) N0 (b,0,c)).bind fun a=>some (a.1,a.2)
def Je(b:List Int)(a:Int×Int):Option ((Int×Int)⊕(Int⊕Int)):=
 cond (decide (a.2<(b.length:Int))) ((bE b a.2).bind fun c=>cond (c !=a.1) (some (.inr (.inr (-1)))) (some (.inl (A0 .i64 (a.1+1),A0 .i64 (a.2+1))))) (some (.inr (.inl a.1)))
def AG(a:List Int)(b:Int):Option Int:=
 (aW (Je a) N0 (b,0)).bind fun c=>(match c with| .inl d=>some d| .inr g=>some g)
def Ga(g:List af)(b:Int×Int):Option ((Int×Int)⊕(Int⊕Int)):=
 cond (decide (b.2<(g.length:Int))) ((bE g b.2).bind fun a=>cond (a.Id !=b.1) (some (.inr (.inr (-1)))) (cond (a.W !=(A0 .i64 (b.1+1))) (some (.inr (.inr (-1)))) (cond (a.N.N !=(A0 .i64 ((A0 .i64 (b.1+1))+1))) (some (.inr (.inr (-1)))) ((AG a.N.F (A0 .i64 ((A0 .i64 ((A0 .i64 (b.1+1))+1))+1))).bind fun c=>cond (decide (c<0)) (some (.inr (.inr (-1)))) (cond (a.P.N !=c) (some (.inr (.inr (-1)))) (cond (a.P.F !=(A0 .i64 (c+1))) (some (.inr (.inr (-1)))) (cond (a.F.N !=(A0 .i64 ((A0 .i64 (c+1))+1))) (some (.inr (.inr (-1)))) ((AG a.F.F (A0 .i64 ((A0 .i64 ((A0 .i64 (c+1))+1))+1))).bind fun d=>cond (decide (d<0)) (some (.inr (.inr (-1)))) (cond (a.L.N !=d) (some (.inr (.inr (-1)))) (cond (a.L.F !=(A0 .i64 (d+1))) (some (.inr (.inr (-1)))) (some (.inl (A0 .i64 ((A0 .i64 (d+1))+1),A0 .i64 (b.2+1)))))))))))))) (some (.inr (.inl b.1)))
def Hi(a:List af)(b:Int):Option Int:=
 (aW (Ga a) N0 (b,0)).bind fun c=>(match c with| .inl d=>some d| .inr g=>some g)
def Vl(d:ae)(g:List az)(i:List af)(j:aM):Option Bool:=
 (KK d 1048576).bind fun q=>cond (decide (q<0)) (some true) ((NR g q).bind fun s=>cond (decide (s<0)) (some true) ((OU i s).bind fun z=>cond (decide (z<0)) (some true) ((xM d).bind fun t=>(zG g).bind fun a1=>(AE i).bind fun b1=>(AR j).bind fun c1=>(IX c1 t.N t.F a1 b1).bind fun a=>(xM d).bind fun c=>(zG g).bind fun k=>(AE i).bind fun l=>(AR j).bind fun d1=>(zP (⟨c.N,c.F⟩:ae) k l d1).bind fun b=>((Ay b.1 a.2.2.1).bind fun g1=>cond (!g1) (some true) (cond (b.2.1 !=a.1) (some true) (some (!(b.2.2==a.2.1)))):Option Bool).bind fun i1=>cond (i1) (some false) ((xM d).bind fun u=>(Ll (⟨c.N,c.F⟩:ae) (⟨u.N,u.F⟩:ae)).bind fun j1=>cond (!j1) (some false) ((zG g).bind fun k1=>(LZ k k1).bind fun l1=>cond (!l1) (some false) ((AE i).bind fun m1=>(Ay l m1).bind fun p1=>cond (!p1) (some false) ((Pq 1 c.N c.F).bind fun q1=>(Mb q1.1 k).bind fun s1=>(JJ s1.1 l).bind fun t1=>(cond (decide (t1.1<0)) (some true) ((Ay b.1 a.2.2.1).bind fun u1=>cond (!u1) (some true) (cond (b.2.1 !=a.1) (some true) (some (!(b.2.2==a.2.1))))):Option Bool).bind fun v1=>cond (v1) (some false) ((JJ 1 b.1).bind fun m=>bnd (gw m.2 0 b.1.length) fun v=>(Hi v 1).bind fun w=>cond (decide (w<0)) (some false) (cond (w !=m.1) (some false) ((xM d).bind fun x=>(zG g).bind fun w1=>(AE i).bind fun y1=>(AR j).bind fun z1=>(zP (⟨x.N,x.F⟩:ae) w1 y1 z1).bind fun p=>((Ay p.1 a.2.2.1).bind fun a2=>cond (!a2) (some true) (cond (p.2.1 !=a.1) (some true) (some (!(p.2.2==a.2.1)))):Option Bool).bind fun b2=>cond (b2) (some false) ((Hi v 1).bind fun y=>cond (decide (y<0)) (some false) (cond (y !=m.1) (some false) (some true)))))))))))))
end Vs

set_option linter.unusedVariables false
set_option linter.unusedSimpArgs false
namespace Vs
open Go Go.Proofs Go.Shelf Go.RowKit Go.Lib
section
variable{P:Program}
def ft(w:World)(dT sT ty elem:TypeId)(k:Nat)(b o dLen dCap:Nat)(a:Addr)(sLen sCap:Nat)(cs:List Value)
 (hu:P.underlying dT=some (.slice elem)) (hs:(P.info? elem).map (·.size)=some k) (hn:cs.length=C7 sLen dLen*k)
 (hsrc:∀j v,cs[j]?=some v->w.cell? (a.add j)=some v) (hc:∀j,j<cs.length->(w.cell? ⟨b,o+j,none⟩).isSome=true) (hf:∀j,j<cs.length->w.frozen? ⟨b,o+j,none⟩=false) (h1:∀v∈cs,v.oneCell'=true):
 (Builtin.copy_ #[dT,sT] ty #[.slice (some ⟨b,o,none⟩) dLen dCap,.slice (some a) sLen sCap]).run P w=.ok (goInt (C7 sLen dLen)) (w.setCells b o cs):=by
 have hl:=run_loadCells_list (P:=P) w a cs hsrc;have hst:=run_storeCells_cells (P:=P) b o cs 0 w (by simpa using hc) (by simpa using hf) h1;cases hq:P.info? elem with
 |none=>simp[hq] at hs
 | some i =>
   have hi:i.size=k:=by simpa[hq] using hs
   simp[Builtin.copy_,run_underlying hu,Builtin.lenOf,Builtin.firstCells,Go.sizeOf,typeInfo,hq,hi,<-hn,hl,hst]
def vT(w:World){o:Oper}{a:Act}{K:Act->World->Prop}{Q:Exit->Act->World->Prop}(d s:Operand)(t t':TypeId)
 (ho:o.op=.call {callee:=.builtin .copy,args:=#[d,s],argTypes:=#[t,t']}) (v u:Value) (hd:a.eval d=v) (hs:a.eval s=u) {v':Value} {w':World}
 (hr:(Builtin.copy_ #[t,t'] o.type #[v,u]).run P w=.ok v' w') (h:K (a.put o.dst v') w'):o.wp P a w K Q:=by
 unfold Oper.wp execOp;simp only[ho,resolve,invoke,builtin,Sem.run_bind,Sem.run_pure,Result.andThen_ok,List.map_toArray,List.map_cons,List.map_nil,hd,hs,hr];exact h
def gh(w:World){ops:Array Oper}{rest:List Oper}{o:Oper}{a:Act}{Q:Exit->Act->World->Prop}(hgd:o.guard=none)(d s:Operand)(t t':TypeId)
 (ho:o.op=.call {callee:=.builtin .copy,args:=#[d,s],argTypes:=#[t,t']}) (v u:Value) (hd:a.eval d=v) (hs:a.eval s=u) {v':Value} {w':World}
 (hr:(Builtin.copy_ #[t,t'] o.type #[v,u]).run P w=.ok v' w') (h:wpList P ops Q rest (a.put o.dst v') w'):wpList P ops Q (o::rest) a w:=
 wpList_plain hgd fun _ hK=>vT w d s t t' ho v u hd hs hr (hK _ _ h)
def kF{ops:Array Oper}{o:Oper}{a:Act}{w:World}{K:Act->World->Prop}{Q:Exit->Act->World->Prop}{E:Prop}
 (hg:o.guard=none) (d x:Operand) (dT sT:TypeId) (hop:o.op=Op.call {callee:=Callee.builtin Builtin.copy,args:=#[d,x],argTypes:=#[dT,sT]})
 (v u:Value) (hd:a.eval d=v) (hx:a.eval x=u) {v':Value} {w':World} (hr:(Builtin.copy_ #[dT,sT] o.type #[v,u]).run P w=.ok v' w') (hK:K (a.put o.dst v') w'):
 if Region.wanted o (yielded ops a.tmps)=true then Oper.wp P o a w K Q else E:=by
 have hw:Region.wanted o (yielded ops a.tmps)=true:=by simp[Region.wanted,hg]
 rw[if_pos hw];unfold Oper.wp;simp[execOp,hop,resolve,invoke,builtin,hd,hx,hr,Result.andThen];exact hK
set_option maxHeartbeats 4000000 in
set_option maxRecDepth 100000 in
theorem JH(b off n c i vb voff m vc:Nat)(cs vs:List Value)(w:World)(hi:i<n)(hm:0<m)(hroom:n+m<=c)(hbig:(n+m)*112<=140737488355328)(hvb:vb≠b)
 (hcl:cs.length=n*10) (hvl:vs.length=m*10)
 (hcs:∀j v,cs[j]?=some v->w.cell? ⟨b,off+j,none⟩=some v) (hsp:∀j,j<(n+m)*10->(w.cell? ⟨b,off+j,none⟩).isSome=true) (hfz:∀j,j<(n+m)*10->w.frozen? ⟨b,off+j,none⟩=false)
 (hvs:∀j v,vs[j]?=some v->w.cell? ⟨vb,voff+j,none⟩=some v) (h1c:∀v∈cs,v.oneCell'=true) (h1v:∀v∈vs,v.oneCell'=true)
 (tA tB:TypeId) (kA kB:Nat) (hsa:w.shape? vb=some (tA,kA)) (hsb:w.shape? b=some (tB,kB)) (hkB:kB≠0) (hfa:w.frozen? ⟨vb,voff,none⟩=false) (hfe:w.frozen? ⟨vb,kA,none⟩=false):
 Calls A1 87 #[.slice (some ⟨b,off,none⟩) n c,.int .i64 i,.slice (some ⟨vb,voff,none⟩) m vc] w fun e w'=>
  e=.returned (.slice (some ⟨b,off,none⟩) (n+m) c)/\w'=(w.drew.setCells b (off+(i+m)*10) (cs.drop (i*10))).setCells b (off+i*10) vs:=by
 have tSL:A1.underlying 28=some (.slice 45):=by kernel_rfl
 have uSL:=run_underlying tSL;have hz1:¬((m:Int)=0):=by omega
 have hz2:¬((i:Int)=(n:Int)):=by omega
 have hsz:(A1.info? 45).map (·.size)=some 10:=by kernel_rfl
 have zEL:∀w,(Go.sizeOf 45).run A1 w=.ok 10 w:=fun w=>by
  obtain⟨i0,h1,h2⟩:=A7.1 hsz;simp[Go.sizeOf,typeInfo,h1,h2]
 have hov:∀lb cb,(callFunc 162 #[.slice (some ⟨vb,voff,none⟩) m vc,.slice (some ⟨b,off+(i+m)*10,none⟩) lb cb]).run A1 w=.ok (.value (.bool false)) w:=fun lb cb=>by
  rw[run_callFunc_extern Tryz.func162 (by kernel_rfl) (by kernel_rfl) (by kernel_rfl) (e:=Extern.SlicesOverlaps.overlaps #[28,28] #[4]) (by kernel_rfl),
   Lib.run_overlaps_apart w 28 4 45 tSL 10 zEL ⟨vb,voff,none⟩ ⟨b,off+(i+m)*10,none⟩ m vc lb cb hvb tA tB kA kB hsa hsb hkB hfa hfe]
  rfl
 have hdl:(cs.drop (i*10)).length=(n-i)*10:=by rw[E0,hcl];omega
 have hw1:F0.wrap ((i:Int)+(m:Int))=(i:Int)+(m:Int):=by rw[B2];omega
 have hw2:F0.wrap ((n:Int)+(m:Int))=(n:Int)+(m:Int):=by rw[B2];omega
 have hb1:(0:Int)<=(i:Int)+(m:Int):=by omega
 have hin:i<=n:=by omega
 have htn:((i:Int)+(m:Int)).toNat=i+m:=by omega
 have hb2:¬(c=i+m):=by omega
 have hb3:(i:Int)<=(n:Int)+(m:Int):=by omega
 have hb4:¬(c=i):=by omega
 have mixed:=A8.mixed;have hcp1:∀ty dc sc,(Builtin.copy_ #[28,28] ty #[.slice (some ⟨b,off+(i+m)*10,none⟩) (n+m-(i+m)) dc,.slice (some ⟨b,off+i*10,none⟩) (n+m-i) sc]).run A1 w.drew=.ok (goInt (C7 (n+m-i) (n+m-(i+m)))) (w.drew.setCells b (off+(i+m)*10) (cs.drop (i*10))):=fun ty dc sc=>
  ft w.drew _ _ ty 45 10 b (off+(i+m)*10) (n+m-(i+m)) dc ⟨b,off+i*10,none⟩ (n+m-i) sc (cs.drop (i*10)) tSL hsz (by rw[hdl];congr 1;simp only[B4];split<;>omega)
   (fun j v hj=>by rw[Addr.add_lit,A6];exact hcs (i*10+j) v (by rwa[B6] at hj))
   (fun j hj=>by rw[A6];exact hsp _ (by omega)) (fun j hj=>by rw[A6];exact hfz _ (by omega)) (fun v hv=>h1c v (B5 hv))
 obtain⟨W1,hW1⟩:∃W1,W1=w.drew.setCells b (off+(i+m)*10) (cs.drop (i*10)):=⟨_,rfl⟩;have hsp1:∀k,k<(n+m)*10->(W1.cell? ⟨b,off+k,none⟩).isSome=true:=fun k hk=>by
  rw[hW1];exact World.isSome_setCells b _ _ _ _ (hsp k hk)
 have hcp2:∀(W:World),(∀x,W.cell? x=W1.cell? x)->(∀x,W.frozen? x=W1.frozen? x)->∀ty dc,(Builtin.copy_ #[28,28] ty #[.slice (some ⟨b,off+i*10,none⟩) (n+m-i) dc,.slice (some ⟨vb,voff,none⟩) m vc]).run A1 W=.ok (goInt (C7 m (n+m-i))) (W.setCells b (off+i*10) vs):=fun W hWc hWf ty dc=>
  ft W _ _ ty 45 10 b (off+i*10) (n+m-i) dc ⟨vb,voff,none⟩ m vc vs tSL hsz (by rw[hvl];congr 1;simp only[B4];split<;>omega)
   (fun j v hj=>by
    rw[Addr.add_lit,hWc,hW1,World.cell?_setCells_out b _ _ _ _ (fun h _=>absurd h hvb)];exact hvs j v hj)
   (fun j hj=>by rw[hWc,A6];exact hsp1 _ (by omega)) (fun j hj=>by rw[hWf,hW1,World.frozen?_setCells,A6];exact hfz _ (by omega)) h1v
 rw[<-hW1] at hcp1
 go_enter B0,B3
 go_wp2_with (simp only[hov])
 go_region_law_o (refine kF rfl _ _ 28 28 rfl _ _ (by simp[Act.eval,Act.put]) (by simp[Act.eval,Act.put]) (hcp1 _ _ _) ?_)
 go_wp2_with (at_builtin;refine gh _ rfl _ _ 28 28 rfl _ _ rfl rfl (hcp2 _ (fun _=>rfl) (fun _=>rfl) _ _) ?_)
 go_ret
 first|exact⟨rfl,rfl⟩|exact⟨rfl,by rw[hW1]⟩
def zT(z:Array Value)(n:Nat)(hz:0<z.size)(x:Value)(h:x∈Builtin.zeroCells z n):x∈z:=by
 unfold Builtin.zeroCells at h;rw[Array.mem_map] at h;obtain⟨i,hi,h⟩:=h;rw[<-h];rw[getElem!_pos z _ (Nat.mod_lt _ hz)];exact Array.getElem_mem _
def wH:∃(i0:TypeInfo)(z:Value),A1.info? 45=some i0/\i0.size=10/\i0.bytes=112/\i0.zero=some z/\z.cells.size=10/\∀x∈z.cells,x.oneCell'=true:=by
 have h:((A1.info? 45).map fun i=>(i.size,i.bytes,i.zero.map fun z=>(z.cells.size,z.cells.all fun x=>x.oneCell')))=some (10,112,some (10,true)):=by kernel_rfl
 obtain⟨i0,h1,h2⟩:=A7.1 h;simp only[Prod.mk.injEq] at h2;obtain⟨a1,a2,a3⟩:=h2;obtain⟨z,b1,b2⟩:=A7.1 a3;simp only[Prod.mk.injEq] at b2;refine⟨i0,z,h1,a1,a2,b1,b2.1,fun x hx=>?_⟩;exact(Array.all_eq_true_iff_forall_mem.1 b2.2) x hx
set_option maxHeartbeats 4000000 in
set_option maxRecDepth 100000 in
theorem vu(b off n c vb voff m vc:Nat)(vs:List Value)(w:World)(hm:0<m)(hroom:n+m<=c)(hbig:(n+m)*112<=140737488355328)
 (hvl:vs.length=m*10) (hsp:∀j,j<m*10->(w.cell? ⟨b,off+n*10+j,none⟩).isSome=true) (hfz:∀j,j<m*10->w.frozen? ⟨b,off+n*10+j,none⟩=false)
 (hvs:∀j v,vs[j]?=some v->w.cell? ⟨vb,voff+j,none⟩=some v) (h1v:∀v∈vs,v.oneCell'=true):
 Calls A1 87 #[.slice (some ⟨b,off,none⟩) n c,.int .i64 n,.slice (some ⟨vb,voff,none⟩) m vc] w fun e w'=>
  e=.returned (.slice (some ⟨b,off,none⟩) (n+m) c)/\w'=w.setCells b (off+n*10) vs:=by
 have tSL:A1.underlying 28=some (.slice 45):=by kernel_rfl
 have uSL:=run_underlying tSL;obtain⟨i0,z,hi0,hzs,hzb,hz0,_,_⟩:=wH;have mixed:=A8.mixed;have hz1:¬((m:Int)=0):=by omega
 have hsrc:Src A1 i0.size 28 (.slice (some ⟨vb,voff,none⟩) m vc) m vs w:=Src.ofSlice w tSL ⟨vb,voff,none⟩ m vc vs (by rw[hzs];exact hvl) (fun j u hj=>by rw[Addr.add_lit];exact hvs j u hj) h1v;have hrun:∀ty,(Builtin.append_ #[28,28] ty #[.slice (some ⟨b,off,none⟩) n c,.slice (some ⟨vb,voff,none⟩) m vc]).run A1 w=.ok (.slice (some ⟨b,off,none⟩) (n+m) c) (w.setCells b (off+n*10) vs):=fun ty=>by
  have:=run_append_room_src (P:=A1) w 28 28 ty 45 i0 tSL hi0 b off n c (.slice (some ⟨vb,voff,none⟩) m vc) m vs hsrc hroom (by rw[hzs,hvl];exact hsp) (by rw[hzs,hvl];exact hfz);rw[hzs] at this;exact this
 go_enter B0,B3
 go_wp2_with (at_builtin;refine Lib.wpList_append_run _ rfl _ _ _ _ rfl _ _ rfl rfl _ _ (hrun _) ?_)
 go_ret
 exact⟨rfl,rfl⟩
set_option maxHeartbeats 4000000 in
set_option maxRecDepth 100000 in
theorem mV(base:Option Addr)(n c vb voff m vc:Nat)(cs vs:List Value)(w:World)(hm:0<m)(hnc:n<=c)(hroom:c<n+m)(hbig:(n+m)*112<=140737488355328)
 (hcl:cs.length=n*10) (hvl:vs.length=m*10) (hnil:base=none->n=0)
 (hcs:∀a,base=some a->∀j v,cs[j]?=some v->w.cell? (a.add j)=some v)
 (hvs:∀j v,vs[j]?=some v->w.cell? ⟨vb,voff+j,none⟩=some v) (h1v:∀v∈vs,v.oneCell'=true):
 Calls A1 87 #[.slice base n c,.int .i64 n,.slice (some ⟨vb,voff,none⟩) m vc] w fun e w'=>
  ∃(G:Nat)(tl:Array Value),n+m<=G/\tl.size=(G-(n+m))*10/\(∀x∈tl,x.oneCell'=true)/\e=.returned (.slice (some ⟨w.heap.size,0,none⟩) (n+m) G)/\
  w'=w.drew.alloc (.cells ((cs++vs).toArray++tl) 45):=by
 have tSL:A1.underlying 28=some (.slice 45):=by kernel_rfl
 have uSL:=run_underlying tSL;obtain⟨i0,z,hi0,hzs,hzb,hz0,hzc,hz1c⟩:=wH;have mixed:=A8.mixed;have hz1:¬((m:Int)=0):=by omega
 have hsrc:Src A1 i0.size 28 (.slice (some ⟨vb,voff,none⟩) m vc) m vs w:=Src.ofSlice w tSL ⟨vb,voff,none⟩ m vc vs (by rw[hzs];exact hvl) (fun j u hj=>by rw[Addr.add_lit];exact hvs j u hj) h1v;have hold:(Builtin.firstCells i0.size n (.slice base n c)).run A1 w.drew=.ok cs.toArray w.drew:=by
  rw[hzs];cases base with
  | none =>
    have h0:=hnil rfl;subst h0;have hcs0:cs=[]:=List.length_eq_zero_iff.1 (by omega);rw[hcs0];exact run_firstCells_none w.drew 10 0 0 c
  |some a=>exact run_firstCells_some w.drew 10 n a n c cs hcl (fun j v hj=>hcs a rfl j v hj)
 have hrun:=fun ty=>run_append_grow_src (P:=A1) w 28 28 ty 45 i0 z tSL hi0 hz0 base n c cs hold _ m vs hsrc hroom (by omega) (by rw[hzb];exact growslice_fits hroom hbig);obtain⟨G,hG⟩:∃G,G=grownCap w (n+m) c 45:=⟨_,rfl⟩;have hGn:n+m<=G:=by rw[hG];exact grownCap_ge w _ _ _
 obtain⟨tl,htl⟩:∃tl,tl=Builtin.zeroCells z.cells (G-(n+m)):=⟨_,rfl⟩;have ht1:tl.size=(G-(n+m))*10:=by rw[htl,size_zeroCells,hzc]
 have ht2:∀x∈tl,x.oneCell'=true:=fun x hx=>hz1c x (zT _ _ (by omega) x (by rw[<-htl];exact hx));rw[<-hG] at hrun;rw[<-htl] at hrun;obtain⟨ROW,hROW⟩:∃ROW:Array Value,ROW=(cs++vs).toArray++tl:=⟨_,rfl⟩;refine Calls.mono (R:=fun e w'=>e=.returned (.slice (some ⟨w.heap.size,0,none⟩) (n+m) G)/\w'=w.drew.alloc (.cells ROW 45)) ?_ (fun e w' h=>⟨G,tl,hGn,ht1,ht2,h.1,by rw[h.2,hROW]⟩);rw[<-hROW] at hrun;clear hold hROW ht2 ht1 htl hG hGn hz1c hz0 hi0 hsrc;clear hzc hzs hzb;clear i0
 go_enter B0,B3
 cases base with
 | none =>
   have h0:=hnil rfl;subst h0;rw[Nat.zero_add] at hrun⊢
   go_wp2_with (at_builtin;refine Lib.wpList_append_run _ rfl _ _ _ _ rfl _ _ rfl rfl _ _ (hrun _) ?_)
   all_goals(go_ret;exact⟨rfl,rfl⟩)
 | some a =>
   obtain⟨ab,ao,asp⟩:=a
   go_wp2_with (at_builtin;refine Lib.wpList_append_run _ rfl _ _ _ _ rfl _ _ rfl rfl _ _ (hrun _) ?_)
   all_goals(go_ret;exact⟨rfl,rfl⟩)
set_option maxHeartbeats 4000000 in
set_option maxRecDepth 100000 in
theorem MV(b off n c i vb voff m vc:Nat)(cs vs:List Value)(w:World)(hi:i<n)(hm:0<m)(hnc:n<=c)(hroom:c<n+m)(hbig:(n+m)*112<=140737488355328)
 (hcl:cs.length=n*10) (hvl:vs.length=m*10)
 (hcs:∀j v,cs[j]?=some v->w.cell? ⟨b,off+j,none⟩=some v)
 (hvs:∀j v,vs[j]?=some v->w.cell? ⟨vb,voff+j,none⟩=some v) (h1c:∀v∈cs,v.oneCell'=true) (h1v:∀v∈vs,v.oneCell'=true):
 Calls A1 87 #[.slice (some ⟨b,off,none⟩) n c,.int .i64 i,.slice (some ⟨vb,voff,none⟩) m vc] w fun e w'=>
  ∃(G:Nat)(tl:Array Value),n+m<=G/\tl.size=(G-(n+m))*10/\(∀x∈tl,x.oneCell'=true)/\e=.returned (.slice (some ⟨w.heap.size,0,none⟩) (n+m) G)/\
  ∃z:Array Value,z.size=(n+m-i)*10/\w'=(((w.alloc (.cells ((cs.take (i*10)).toArray++z++tl) 45)).drew.setCells w.heap.size (i*10) vs).drew).setCells w.heap.size ((i+m)*10) (cs.drop (i*10)):=by
 have tSL:A1.underlying 28=some (.slice 45):=by kernel_rfl
 have t3:A1.underlying 3=some (.int .i64):=by kernel_rfl
 have uSL:=run_underlying tSL;have u3:=run_underlying t3;obtain⟨i0,z,hi0,hzs,hzb,hz0,hzc,hz1c⟩:=wH;have mixed:=A8.mixed;have hsz:(A1.info? 45).map (·.size)=some 10:=by kernel_rfl
 have hz1:¬((m:Int)=0):=by omega
 have hz2:¬((i:Int)=(n:Int)):=by omega
 have hz3:(c:Int)<(n:Int)+(m:Int):=by omega
 have hbw:b<w.heap.size:=block_lt_of_cell (hcs 0 _ (B1 (by omega)));have hvw:vb<w.heap.size:=block_lt_of_cell (hvs 0 _ (B1 (by omega)));have hkk:(n:Int)+(m:Int)-(i:Int)=((n+m-i:Nat):Int):=by omega
 have hik:i+(n+m-i)=n+m:=by omega
 have hold:(Builtin.firstCells i0.size i (.slice (some ⟨b,off,none⟩) i c)).run A1 w.drew=.ok (cs.take (i*10)).toArray w.drew:=by
  rw[hzs];exact run_firstCells_some w.drew 10 i ⟨b,off,none⟩ i c (cs.take (i*10)) (by rw[E3];omega) (fun j v hj=>by
   rw[Addr.add_lit];rw[List.getElem?_take] at hj;split at hj
   ·exact hcs j v hj
   ·cases hj)
 obtain⟨G,hG⟩:∃G,G=grownCap w (n+m) c 45:=⟨_,rfl⟩;obtain⟨zs,hzz⟩:∃zs,zs=Builtin.zeroCells z.cells (n+m-i):=⟨_,rfl⟩;obtain⟨tl,htl⟩:∃tl,tl=Builtin.zeroCells z.cells (G-(n+m)):=⟨_,rfl⟩;have ht0:zs.size=(n+m-i)*10:=by rw[hzz,size_zeroCells,hzc]
 have ht1:tl.size=(G-(n+m))*10:=by rw[htl,size_zeroCells,hzc]
 have ht2:∀x∈tl,x.oneCell'=true:=fun x hx=>hz1c x (zT _ _ (by omega) x (by rw[<-htl];exact hx));have hrz:∀ty,(Builtin.append_ #[28,3] ty #[.slice (some ⟨b,off,none⟩) i c,.int .i64 ((n:Int)+(m:Int)-(i:Int))]).run A1 w=
  .ok (.slice (some ⟨w.heap.size,0,none⟩) (n+m) G) (w.drew.alloc (.cells ((cs.take (i*10)).toArray++zs++tl) 45)):=fun ty=>by
  have h:=Lib.run_append_grow_zeros w 28 3 ty 45 i0 _ .i64 .i64 tSL t3 hi0 hz0 (some ⟨b,off,none⟩) i c (cs.take (i*10)) hold (n+m-i) (by omega) (by omega) (by omega) (by omega) (by rw[hzb];omega) (by rw[hzb,hik];exact growslice_fits hroom hbig);rw[hik] at h;rw[hkk,hzz,htl,hG];exact h
 obtain⟨ROW,hROW⟩:∃ROW:Array Value,ROW=(cs.take (i*10)).toArray++zs++tl:=⟨_,rfl⟩;refine Calls.mono (R:=fun e w'=>e=.returned (.slice (some ⟨w.heap.size,0,none⟩) (n+m) G)/\w'=(((w.alloc (.cells ROW 45)).drew.setCells w.heap.size (i*10) vs).drew).setCells w.heap.size ((i+m)*10) (cs.drop (i*10))) ?_ (fun e w' h=>⟨G,tl,by rw[hG];exact grownCap_ge w _ _ _,ht1,ht2,h.1,zs,ht0,by rw[h.2,hROW]⟩);rw[<-hROW] at hrz;have hRl:(n+m)*10<=ROW.size:=by
  rw[hROW];simp only[Array.size_append,List.size_toArray,E3,ht0];omega
 obtain⟨W1,hW1⟩:∃W1,W1=w.drew.alloc (.cells ROW 45):=⟨_,rfl⟩;rw[<-hW1] at hrz;have hN:∀j,j<(n+m)*10->(W1.cell? ⟨w.heap.size,j,none⟩).isSome=true:=fun j hj=>by
  rw[hW1,World.cell?_alloc_at (w:=w.drew) ROW _ w.heap.size j rfl,Array.getElem?_eq_getElem (by omega)];rfl
 have hNf:∀j,W1.frozen? ⟨w.heap.size,j,none⟩=false:=fun j=>by rw[hW1];exact World.frozen?_alloc_at (w:=w.drew) ROW _ w.heap.size j rfl
 have hOb:∀j v,w.cell? ⟨b,j,none⟩=some v->W1.cell? ⟨b,j,none⟩=some v:=fun j v h=>by rw[hW1,World.cell?_alloc_past (w:=w.drew) _ b j hbw];exact h
 have hOv:∀j v,w.cell? ⟨vb,j,none⟩=some v->W1.cell? ⟨vb,j,none⟩=some v:=fun j v h=>by rw[hW1,World.cell?_alloc_past (w:=w.drew) _ vb j hvw];exact h
 have hcpA:∀(W:World),(∀x,W.cell? x=W1.cell? x)->(∀x,W.frozen? x=W1.frozen? x)->∀ty dc,(Builtin.copy_ #[28,28] ty #[.slice (some ⟨w.heap.size,i*10,none⟩) (n+m-i) dc,.slice (some ⟨vb,voff,none⟩) m vc]).run A1 W=.ok (goInt (C7 m (n+m-i))) (W.setCells w.heap.size (i*10) vs):=fun W hWc hWf ty dc=>
  ft W _ _ ty 45 10 w.heap.size (i*10) (n+m-i) dc ⟨vb,voff,none⟩ m vc vs tSL hsz (by rw[hvl];congr 1;simp only[B4];split<;>omega)
   (fun j v hj=>by rw[Addr.add_lit,hWc];exact hOv _ v (hvs j v hj))
   (fun j hj=>by rw[hWc];exact hN _ (by omega)) (fun j hj=>by rw[hWf];exact hNf _) h1v
 have hGn:n+m<=G:=by rw[hG];exact grownCap_ge w _ _ _
 have hG63:G<=9223372036854775807:=by
  have:=grownCap_le_maxLen w (n+m) c 45 (by unfold maxLen;omega);rw[<-hG] at this;unfold maxLen at this;omega
 have hGi:¬(G=i):=by omega
 have hGim:¬(G=i+m):=by omega
 have hci:¬(c=i):=by omega
 have hbN:b≠w.heap.size:=by omega
 have hdl:(cs.drop (i*10)).length=(n-i)*10:=by rw[E0,hcl];omega
 have hcpB:∀(W:World),(∀x,W.cell? x=(W1.setCells w.heap.size (i*10) vs).cell? x)->(∀x,W.frozen? x=(W1.setCells w.heap.size (i*10) vs).frozen? x)->∀ty dc sc,(Builtin.copy_ #[28,28] ty #[.slice (some ⟨w.heap.size,(i+m)*10,none⟩) (n+m-(i+m)) dc,.slice (some ⟨b,off+i*10,none⟩) (n-i) sc]).run A1 W=.ok (goInt (C7 (n-i) (n+m-(i+m)))) (W.setCells w.heap.size ((i+m)*10) (cs.drop (i*10))):=fun W hWc hWf ty dc sc=>
  ft W _ _ ty 45 10 w.heap.size ((i+m)*10) (n+m-(i+m)) dc ⟨b,off+i*10,none⟩ (n-i) sc (cs.drop (i*10)) tSL hsz (by rw[hdl];congr 1;simp only[B4];split<;>omega)
   (fun j v hj=>by
    rw[Addr.add_lit,hWc,World.cell?_setCells_out _ _ _ _ _ (fun h _=>absurd h hbN),A6];exact hOb _ v (hcs (i*10+j) v (by rwa[B6] at hj)))
   (fun j hj=>by rw[hWc];exact World.isSome_setCells _ _ _ _ _ (hN _ (by omega)))
   (fun j hj=>by rw[hWf,World.frozen?_setCells];exact hNf _) (fun v hv=>h1c v (B5 hv))
 subst hW1;have hE1:∀x,((w.alloc (.cells ROW 45)).drew).cell? x=(w.drew.alloc (.cells ROW 45)).cell? x:=fun x=>rfl;have hE2:∀x,((w.alloc (.cells ROW 45)).drew).frozen? x=(w.drew.alloc (.cells ROW 45)).frozen? x:=fun x=>rfl;have hF1:∀x,(((w.alloc (.cells ROW 45)).drew.setCells w.heap.size (i*10) vs).drew).cell? x=((w.drew.alloc (.cells ROW 45)).setCells w.heap.size (i*10) vs).cell? x:=fun x=>rfl;have hF2:∀x,(((w.alloc (.cells ROW 45)).drew.setCells w.heap.size (i*10) vs).drew).frozen? x=((w.drew.alloc (.cells ROW 45)).setCells w.heap.size (i*10) vs).frozen? x:=fun x=>rfl;have hw1:F0.wrap ((i:Int)+(m:Int))=(i:Int)+(m:Int):=by rw[B2];omega
 have hb1:(0:Int)<=(i:Int)+(m:Int):=by omega
 have hin:i<=n:=by omega
 have htn:((i:Int)+(m:Int)).toNat=i+m:=by omega
 have hb3:(i:Int)<=(n:Int):=by omega
 clear hkk hik hold hRl hROW ht0 ht1 ht2 htl hzz hG hz1c hz0 hi0;clear hzc hzs hzb;clear z i0
 go_enter B0,B3
 go_wp2_with (first
  |(at_builtin;refine Lib.wpList_append_run _ rfl _ _ _ _ rfl _ _ rfl rfl _ _ (hrz _) ?_)
  |(at_builtin;refine gh _ rfl _ _ 28 28 rfl _ _ rfl rfl (hcpA _ hE1 hE2 _ _) ?_)
  |(at_builtin;refine gh _ rfl _ _ 28 28 rfl _ _ rfl rfl (hcpB _ (fun _=>rfl) (fun _=>rfl) _ _ _) ?_))
 go_region_law_o (refine kF rfl _ _ 28 28 rfl (.slice (some ⟨w.heap.size,(i+m)*10,none⟩) (n+m-(i+m)) (G-(i+m))) (.slice (some ⟨b,off+i*10,none⟩) (n-i) (c-i)) (by simp[Act.eval,Act.put]) (by simp[Act.eval,Act.put]) (hcpB _ hF1 hF2 3 (G-(i+m)) (c-i)) ?_)
 go_wp2
 go_ret
 all_goals exact⟨rfl,rfl⟩
end
def agb:InsC A1 87 10 112 where
 fn:=⟨_,B0,by kernel_rfl,by kernel_rfl⟩
 kp:=by decide
 ins:=fun base n c i vb voff m vc cs vs w hi hnc hm hmv hbig hb hnil hcl hvl hcs hvs hF h1c h1v=>by
  have hfv:=sG hF;cases base with
  | none =>
    have hc:=hnil rfl;have hn:n=0:=by omega
    have hi0:i=n:=by omega
    subst hi0;exact(mV none i c vb voff m vc cs vs w hm hnc (by omega) hbig hcl hvl (fun _=>hn) (fun a ha=>by cases ha) hvs h1v).mono fun e w' h=>sN hcl hvl h
  | some a =>
    obtain⟨h1,h2,h3⟩:=hb a rfl;obtain⟨b,off,sp⟩:=a;simp only at h1 h2 h3;subst h1;have hcs':=hcs _ rfl;simp only at hcs';by_cases hroom:n+m<=c
    ·have hFb:=h3 (by omega);have hsl:=Nat.mul_le_mul_right 10 hroom;by_cases e:i=n
     ·subst e;exact(vu b off i c vb voff m vc vs w hm hroom (by omega) hvl (fun j hj=>oe hFb _ (by omega)) (fun j _=>sG hFb _) hvs h1v).mono fun e w' h=>Gq hFb hroom hcl hvl hcs' h
     ·obtain⟨tA,kA,sA,lA⟩:=qB hF;obtain⟨tB,kB,sB,lB⟩:=qB hFb;exact(JH b off n c i vb voff m vc cs vs w (by omega) hm hroom (by omega) (Ne.symm h2) hcl hvl hcs' (fun j hj=>oe hFb _ (by omega)) (fun j _=>sG hFb _) hvs h1c h1v tA tB kA kB sA sB (by omega) (hfv _) (hfv _)).mono fun e w' h=>BS hFb hroom (by omega) hcl hvl hcs' h
    ·by_cases e:i=n
     ·subst e;exact(mV (some ⟨b,off,none⟩) i c vb voff m vc cs vs w hm hnc (by omega) hbig hcl hvl (fun h=>by cases h) (fun a ha=>by cases ha;exact fun j v hj=>by rw[Addr.add_lit];exact hcs' j v hj) hvs h1v).mono fun e w' h=>sN hcl hvl h
     ·exact(MV b off n c i vb voff m vc cs vs w (by omega) hm hnc (by omega) hbig hcl hvl hcs' hvs h1c h1v).mono fun e w' h=>GX (by omega) hcl hvl h
end Vs

namespace Vs
open Go Go.Proofs
def br:A1.follows .mixedOrders=true:=A8.mixed
def rH:Go.Shelf.Ren:=⟨fun|189=>203|125=>232|257=>231|128=>258|129=>259|294=>249|295=>250|296=>251|297=>252|298=>253|299=>254|216=>255|300=>256|301=>257|328=>267|329=>268|330=>269|331=>270|332=>271|215=>224|343=>276|n=>n,fun|28=>29|3=>3|46=>114|0=>0|51=>202|53=>116|4=>4|183=>261|182=>260|131=>61|5=>5|9=>9|218=>272|222=>276|228=>281|229=>162|n=>n,fun|n=>n⟩
def YN:Go.Proofs.Lays.n189 A1 rH:={
 mixed:=by kernel_rfl
 f125:=H7.trans (congrArg some (by kernel_rfl))
 f128:=H8.trans (congrArg some (by kernel_rfl))
 f129:=H9.trans (congrArg some (by kernel_rfl))
 f189:=I0.trans (congrArg some (by kernel_rfl))
 f215:=Tryz.func224.trans (congrArg some (by kernel_rfl))
 f216:=Tryz.func255.trans (congrArg some (by kernel_rfl))
 f257:=Tryz.func231.trans (congrArg some (by kernel_rfl))
 f294:=Tryz.func249.trans (congrArg some (by kernel_rfl))
 f295:=Tryz.func250.trans (congrArg some (by kernel_rfl))
 f296:=Tryz.func251.trans (congrArg some (by kernel_rfl))
 f297:=Tryz.func252.trans (congrArg some (by kernel_rfl))
 f298:=Tryz.func253.trans (congrArg some (by kernel_rfl))
 f299:=Tryz.func254.trans (congrArg some (by kernel_rfl))
 f300:=Tryz.func256.trans (congrArg some (by kernel_rfl))
 f301:=Tryz.func257.trans (congrArg some (by kernel_rfl))
 f328:=Tryz.func267.trans (congrArg some (by kernel_rfl))
 f329:=I1.trans (congrArg some (by kernel_rfl))
 f330:=I2.trans (congrArg some (by kernel_rfl))
 f331:=Tryz.func270.trans (congrArg some (by kernel_rfl))
 f332:=Tryz.func271.trans (congrArg some (by kernel_rfl))
 f343:=Tryz.func276.trans (congrArg some (by kernel_rfl))
 t0:=E4
 a0:=J0
 z0:=I3
 v0:=F3
 t3:=E5
 a3:=J1
 z3:=I4
 v3:=F4
 t4:=E6
 a4:=J2
 z4:=I5
 v4:=F5
 t5:=E7
 a5:=J3
 z5:=I6
 v5:=F6
 t9:=E8
 a9:=J4
 z9:=I7
 v9:=F7
 t28:=Tryz.underlying29
 a28:=Tryz.isAgg29
 z28:=Tryz.sizeOf29
 v28:=Tryz.zeroValue29
 t46:=B7
 a46:=G7
 z46:=F8
 v46:=C8
 t51:=B8
 a51:=G8
 z51:=F9
 v51:=C9
 t53:=B9
 a53:=G9
 z53:=G0
 v53:=D0
 t131:=D3
 a131:=I8
 z131:=H0
 v131:=E9
 t182:=C0
 a182:=H1
 z182:=G1
 v182:=D4
 t183:=C1
 a183:=H2
 z183:=G2
 v183:=D5
 t218:=C2
 a218:=H3
 z218:=G3
 v218:=D6
 t222:=C3
 a222:=H4
 z222:=G4
 v222:=D7
 t228:=C4
 a228:=H5
 z228:=G5
 v228:=D8
 t229:=C5
 a229:=H6
 z229:=G6
 v229:=D9}
def Oc:Qp A1 203:=adv (ρ:=rH) YN ⟨_,I0,by kernel_rfl,by kernel_rfl⟩
def rX:Go.Shelf.Ren:=⟨fun|6=>265|15=>232|14=>275|28=>258|29=>259|20=>279|21=>280|22=>281|23=>282|24=>283|25=>284|26=>285|27=>286|46=>288|47=>268|48=>269|49=>289|50=>290|57=>291|n=>n,fun|22=>159|24=>41|25=>271|3=>3|39=>114|0=>0|53=>202|55=>116|4=>4|46=>261|45=>260|50=>61|5=>5|9=>9|66=>272|70=>276|76=>281|77=>162|n=>n,fun|n=>n⟩
def QC:Go.Proofs.SlLaysF0.n6 A1 rX:={
 mixed:=by kernel_rfl
 f6:=⟨Tryz.f265.name,by decide,I9.trans (congrArg some (by kernel_rfl))⟩
 f14:=⟨Tryz.f275.name,by decide,Tryz.func275.trans (congrArg some (by kernel_rfl))⟩
 f15:=H7.trans (congrArg some (by kernel_rfl))
 f20:=⟨Tryz.f279.name,by decide,Tryz.func279.trans (congrArg some (by kernel_rfl))⟩
 f21:=⟨Tryz.f280.name,by decide,Tryz.func280.trans (congrArg some (by kernel_rfl))⟩
 f22:=⟨Tryz.f281.name,by decide,Tryz.func281.trans (congrArg some (by kernel_rfl))⟩
 f23:=⟨Tryz.f282.name,by decide,Tryz.func282.trans (congrArg some (by kernel_rfl))⟩
 f24:=⟨Tryz.f283.name,by decide,Tryz.func283.trans (congrArg some (by kernel_rfl))⟩
 f25:=⟨Tryz.f284.name,by decide,Tryz.func284.trans (congrArg some (by kernel_rfl))⟩
 f26:=⟨Tryz.f285.name,by decide,Tryz.func285.trans (congrArg some (by kernel_rfl))⟩
 f27:=⟨Tryz.f286.name,by decide,Tryz.func286.trans (congrArg some (by kernel_rfl))⟩
 f28:=H8.trans (congrArg some (by kernel_rfl))
 f29:=H9.trans (congrArg some (by kernel_rfl))
 f46:=⟨Tryz.f288.name,by decide,Tryz.func288.trans (congrArg some (by kernel_rfl))⟩
 f47:=I1.trans (congrArg some (by kernel_rfl))
 f48:=I2.trans (congrArg some (by kernel_rfl))
 f49:=⟨Tryz.f289.name,by decide,Tryz.func289.trans (congrArg some (by kernel_rfl))⟩
 f50:=⟨Tryz.f290.name,by decide,Tryz.func290.trans (congrArg some (by kernel_rfl))⟩
 f57:=⟨Tryz.f291.name,by decide,Tryz.func291.trans (congrArg some (by kernel_rfl))⟩
 t0:=E4
 a0:=J0
 z0:=I3
 v0:=F3
 t3:=E5
 a3:=J1
 z3:=I4
 v3:=F4
 t4:=E6
 a4:=J2
 z4:=I5
 v4:=F5
 t5:=E7
 a5:=J3
 z5:=I6
 v5:=F6
 t9:=E8
 a9:=J4
 z9:=I7
 v9:=F7
 t22:=Tryz.underlying159
 a22:=Tryz.isAgg159
 z22:=Tryz.sizeOf159
 v22:=Tryz.zeroValue159
 t25:=Tryz.underlying271
 a25:=Tryz.isAgg271
 z25:=Tryz.sizeOf271
 v25:=Tryz.zeroValue271
 t39:=B7
 a39:=G7
 z39:=F8
 v39:=C8
 t45:=C0
 a45:=H1
 z45:=G1
 v45:=D4
 t46:=C1
 a46:=H2
 z46:=G2
 v46:=D5
 t50:=D3
 a50:=I8
 z50:=H0
 v50:=E9
 t53:=B8
 a53:=G8
 z53:=F9
 v53:=C9
 t55:=B9
 a55:=G9
 z55:=G0
 v55:=D0
 t66:=C2
 a66:=H3
 z66:=G3
 v66:=D6
 t70:=C3
 a70:=H4
 z70:=G4
 v70:=D7
 t76:=C4
 a76:=H5
 z76:=G5
 v76:=D8
 t77:=C5
 a77:=H6
 z77:=G6
 v77:=D9}
def Tt:Fc A1 265 2 (shK 2):=adt (ρ:=rX) QC 2 (by decide) Tryz.isAgg41 Tryz.sizeOf41 (AnyF.slices_SortFunc_none QC) ⟨_,I9,by kernel_rfl,by kernel_rfl⟩
def wc:ar:=(.seq (Zs [Zm 12 5,Zm 13 0,Zk 14 13,Zb 15 .lss 12 14] (.cond 15 .skip (.exit 0))) (.seq (.blk 1 (Zs [Zm 18 1,Zm 19 0,Zm 20 5,Zx 21 1 19 20,Zl 22 21,Zo 23 (.lenz 22),Zb 24 .sub 18 23,Zm 1 24] (Zs [Zm 25 1,Zd 26 .lss 25 0] (.cond 26 (Zs [Zn 4 (-1)] .ret) .skip)))) (.reg [Zm 16 5,Zd 17 .add 16 1,Zm 5 17] [])))
def OZ:ar:=(Zs [Zm 27 1,Zm 4 27] .ret)
def A103:ar:=(Zs [Zn 4 0] (Zs [Zm 6 1,Zm 7 0,Zk 8 7,Zb 9 .sub 6 8,Zm 1 9] (.seq (Zs [Zm 10 1,Zd 11 .lss 10 0] (.cond 11 (Zs [Zn 4 (-1)] .ret) .skip)) (.seqa (.reg [Zn 5 0] []) (.blk 0 (.loop wc)) [1] [] OZ))))
def aO:List RV:=[.t 4]
def m103:aU A1 103 2 A103 aO=true:=by kernel_rfl
def A104:ar:=(Zs [Zn 4 0] (Zs [Zm 5 1,Zm 6 0,Zk 7 6,Zb 8 .sub 5 7,Zm 1 8] (.seq (Zs [Zm 9 1,Zd 10 .lss 9 0] (.cond 10 (Zs [Zn 4 (-1)] .ret) .skip)) (Zs [Zm 11 1,Zm 4 11] .ret))))
def m104:aU A1 104 2 A104 aO=true:=by kernel_rfl
def A29:ar:=(Zs [Zo 2 (.box 2 0),Zn 4 0] (Zs [Za 5 0 2,Zl 6 5,Zm 7 1,Zo 8 (.call 103 [6,7]),Zm 1 8] (.seq (Zs [Zm 9 1,Zd 10 .lss 9 0] (.cond 10 (Zs [Zn 4 (-1)] .ret) .skip)) (Zs [Za 11 1 2,Zl 12 11,Zm 13 1,Zo 14 (.call 104 [12,13]),Zm 1 14] (.seq (Zs [Zm 15 1,Zd 16 .lss 15 0] (.cond 16 (Zs [Zn 4 (-1)] .ret) .skip)) (Zs [Zm 17 1,Zm 4 17] .ret))))))
def m29:aU A1 29 2 A29 aO=true:=by kernel_rfl
def A43:ar:=(Zs [Zn 4 0] (Zs [Zm 5 1,Zm 6 0,Zk 7 6,Zb 8 .sub 5 7,Zm 1 8] (.seq (Zs [Zm 9 1,Zd 10 .lss 9 0] (.cond 10 (Zs [Zn 4 (-1)] .ret) .skip)) (Zs [Zm 11 1,Zm 4 11] .ret))))
def m43:aU A1 43 2 A43 aO=true:=by kernel_rfl
def A216:ar:=(Zs [Zn 4 0] (Zs [Zm 5 1,Zm 6 0,Zk 7 6,Zb 8 .sub 5 7,Zm 1 8] (.seq (Zs [Zm 9 1,Zd 10 .lss 9 0] (.cond 10 (Zs [Zn 4 (-1)] .ret) .skip)) (Zs [Zm 11 1,Zm 4 11] .ret))))
def m216:aU A1 216 2 A216 aO=true:=by kernel_rfl
def A172:ar:=(Zs [Zo 2 (.box 2 0),Zn 4 0] (Zs [Za 5 1 2,Zl 6 5,Zm 7 1,Zo 8 (.call 216 [6,7]),Zm 1 8] (.seq (Zs [Zm 9 1,Zd 10 .lss 9 0] (.cond 10 (Zs [Zn 4 (-1)] .ret) .skip)) (Zs [Zm 11 1,Zm 4 11] .ret))))
def m172:aU A1 172 2 A172 aO=true:=by kernel_rfl
def A105:ar:=(Zs [Zo 2 (.box 10 0),Zn 4 0] (Zs [Za 5 2 2,Zv 6 2 5,Zm 7 1,Zo 8 (.call 172 [6,7]),Zm 1 8] (.seq (Zs [Zm 9 1,Zd 10 .lss 9 0] (.cond 10 (Zs [Zn 4 (-1)] .ret) .skip)) (Zs [Za 11 6 2,Zv 12 2 11,Zm 13 1,Zo 14 (.call 172 [12,13]),Zm 1 14] (.seq (Zs [Zm 15 1,Zd 16 .lss 15 0] (.cond 16 (Zs [Zn 4 (-1)] .ret) .skip)) (Zs [Zm 17 1,Zm 4 17] .ret))))))
def m105:aU A1 105 2 A105 aO=true:=by kernel_rfl
def PF:ar:=(.seq (Zs [Zm 12 5,Zm 13 0,Zk 14 13,Zb 15 .lss 12 14] (.cond 15 .skip (.exit 0))) (.seq (.blk 1 (Zs [Zm 18 0,Zm 19 5,Zx 20 10 18 19,Zv 21 10 20,Zm 22 1,Zo 23 (.call 105 [21,22]),Zm 1 23] (Zs [Zm 24 1,Zd 25 .lss 24 0] (.cond 25 (Zs [Zn 4 (-1)] .ret) .skip)))) (.reg [Zm 16 5,Zd 17 .add 16 1,Zm 5 17] [])))
def Yt:ar:=(Zs [Zm 26 1,Zm 4 26] .ret)
def A30:ar:=(Zs [Zn 4 0] (Zs [Zm 6 1,Zm 7 0,Zk 8 7,Zb 9 .sub 6 8,Zm 1 9] (.seq (Zs [Zm 10 1,Zd 11 .lss 10 0] (.cond 11 (Zs [Zn 4 (-1)] .ret) .skip)) (.seqa (.reg [Zn 5 0] []) (.blk 0 (.loop PF)) [1] [] Yt))))
def m30:aU A1 30 2 A30 aO=true:=by kernel_rfl
def vL:ar:=(.seq (Zs [Zm 8 4,Zm 9 0,Zk 10 9,Zb 11 .lss 8 10] (.cond 11 .skip (.exit 0))) (.seq (.blk 1 (.reg [Zm 14 3,Zm 15 4,Zm 16 0,Zm 17 4,Zx 18 1 16 17,Zl 19 18,Zx 20 1 14 15,Zw (.store 1 20 19)] [])) (.reg [Zm 12 4,Zd 13 .add 12 1,Zm 4 13] [])))
def Nu:ar:=(.seq (.reg [Zm 21 3,Zm 2 21] [.s 2]) .ret)
def A110:ar:=(.seq (.reg [Zo 2 (.mv (.c (.lst .u 1 [])))] [.s 2]) (.seq (.reg [Zm 5 0,Zk 6 5,Zo 7 (.mks 1 (.z ⟨#[]⟩) 16 6 6),Zm 3 7] [.s 3]) (.seqa (.reg [Zn 4 0] []) (.blk 0 (.loop vL)) [3] [3] Nu)))
def bL:List RV:=[.t 2]
def m110:aU A1 110 1 A110 bL=true:=by kernel_rfl
def A174:ar:=(Zs [Zo 1 (.box 4 0),Zo 2 (.alloc (.agg [.i 0,.i 0,.i 0,.i 0]))] (Zs [Zo 3 (.alloc (.agg [.i 0,.i 0,.i 0,.i 0]))] (Zs [Za 4 0 1,Zl 5 4,Za 6 0 3,Zw (.store 1 6 5)] (Zs [Za 7 1 1,Zl 8 7,Za 9 1 3,Zw (.store 1 9 8)] (Zs [Za 10 2 1,Zl 11 10,Za 12 2 3,Zw (.store 1 12 11)] (Zs [Za 13 3 1,Zl 14 13,Za 15 3 3,Zw (.store 1 15 14)] (Zs [Zv 16 4 3,Zw (.store 4 2 16)] .ret)))))))
def QW:List RV:=[.c 2 4 true]
def m174:aU A1 174 1 A174 QW=true:=by kernel_rfl
def vV:ar:=(.seq (Zs [Zm 8 4,Zm 9 0,Zk 10 9,Zb 11 .lss 8 10] (.cond 11 .skip (.exit 0))) (.seq (.blk 1 (.reg [Zm 14 3,Zm 15 4,Zm 16 0,Zm 17 4,Zx 18 4 16 17,Zv 19 4 18,Zo 20 (.call 174 [19]),Zx 21 4 14 15,Zw (.store 4 21 20)] [])) (.reg [Zm 12 4,Zd 13 .add 12 1,Zm 4 13] [])))
def KI:ar:=(.seq (.reg [Zm 22 3,Zm 2 22] [.s 2]) .ret)
def A111:ar:=(.seq (.reg [Zo 2 (.mv (.c (.lst .u 4 [])))] [.s 2]) (.seq (.reg [Zm 5 0,Zk 6 5,Zo 7 (.mks 4 (.agg [.i 0,.i 0,.i 0,.i 0]) 32 6 6),Zm 3 7] [.s 3]) (.seqa (.reg [Zn 4 0] []) (.blk 0 (.loop vV)) [3] [3] KI)))
def m111:aU A1 111 1 A111 bL=true:=by kernel_rfl
def A32:ar:=(Zs [Zo 1 (.box 2 0),Zo 2 (.alloc (.agg [.lst .u 1 [],.lst .u 4 []]))] (Zs [Zo 3 (.alloc (.agg [.lst .u 1 [],.lst .u 4 []]))] (Zs [Za 4 0 1,Zl 5 4,Zo 6 (.call 110 [5]),Za 7 0 3,Zw (.store 1 7 6)] (Zs [Za 8 1 1,Zl 9 8,Zo 10 (.call 111 [9]),Za 11 1 3,Zw (.store 1 11 10)] (Zs [Zv 12 2 3,Zw (.store 2 2 12)] .ret)))))
def V32:List RV:=[.c 2 2 true]
def m32:aU A1 32 1 A32 V32=true:=by kernel_rfl
def A123:ar:=(Zs [Zo 1 (.box 2 0),Zo 2 (.alloc (.agg [.i 0,.i 0]))] (Zs [Zo 3 (.alloc (.agg [.i 0,.i 0]))] (Zs [Za 4 0 1,Zl 5 4,Za 6 0 3,Zw (.store 1 6 5)] (Zs [Za 7 1 1,Zl 8 7,Za 9 1 3,Zw (.store 1 9 8)] (Zs [Zv 10 2 3,Zw (.store 2 2 10)] .ret)))))
def m123:aU A1 123 1 A123 V32=true:=by kernel_rfl
def NI:ar:=(.seq (Zs [Zm 8 4,Zm 9 0,Zk 10 9,Zb 11 .lss 8 10] (.cond 11 .skip (.exit 0))) (.seq (.blk 1 (.reg [Zm 14 3,Zm 15 4,Zm 16 0,Zm 17 4,Zx 18 2 16 17,Zv 19 2 18,Zo 20 (.call 123 [19]),Zx 21 2 14 15,Zw (.store 2 21 20)] [])) (.reg [Zm 12 4,Zd 13 .add 12 1,Zm 4 13] [])))
def XQ:ar:=(.seq (.reg [Zm 22 3,Zm 2 22] [.s 2]) .ret)
def A45:ar:=(.seq (.reg [Zo 2 (.mv (.c (.lst .u 2 [])))] [.s 2]) (.seq (.reg [Zm 5 0,Zk 6 5,Zo 7 (.mks 2 (.agg [.i 0,.i 0]) 16 6 6),Zm 3 7] [.s 3]) (.seqa (.reg [Zn 4 0] []) (.blk 0 (.loop NI)) [3] [3] XQ)))
def m45:aU A1 45 1 A45 bL=true:=by kernel_rfl
def DG:ar:=(.seq (Zs [Zm 8 4,Zm 9 0,Zk 10 9,Zb 11 .lss 8 10] (.cond 11 .skip (.exit 0))) (.seq (.blk 1 (.reg [Zm 14 3,Zm 15 4,Zm 16 0,Zm 17 4,Zx 18 1 16 17,Zl 19 18,Zx 20 1 14 15,Zw (.store 1 20 19)] [])) (.reg [Zm 12 4,Zd 13 .add 12 1,Zm 4 13] [])))
def Xx:ar:=(.seq (.reg [Zm 21 3,Zm 2 21] [.s 2]) .ret)
def A34:ar:=(.seq (.reg [Zo 2 (.mv (.c (.lst .u 1 [])))] [.s 2]) (.seq (.reg [Zm 5 0,Zk 6 5,Zo 7 (.mks 1 (.i 0) 8 6 6),Zm 3 7] [.s 3]) (.seqa (.reg [Zn 4 0] []) (.blk 0 (.loop DG)) [3] [3] Xx)))
def m34:aU A1 34 1 A34 bL=true:=by kernel_rfl
def A175:ar:=(Zs [Zo 1 (.box 2 0),Zo 2 (.alloc (.agg [.i 0,.lst .u 1 []]))] (Zs [Zo 3 (.alloc (.agg [.i 0,.lst .u 1 []]))] (Zs [Za 4 0 1,Zl 5 4,Za 6 0 3,Zw (.store 1 6 5)] (Zs [Za 7 1 1,Zl 8 7,Zo 9 (.call 34 [8]),Za 10 1 3,Zw (.store 1 10 9)] (Zs [Zv 11 2 3,Zw (.store 2 2 11)] .ret)))))
def m175:aU A1 175 1 A175 V32=true:=by kernel_rfl
def A176:ar:=(Zs [Zo 1 (.box 2 0),Zo 2 (.alloc (.agg [.i 0,.i 0]))] (Zs [Zo 3 (.alloc (.agg [.i 0,.i 0]))] (Zs [Za 4 0 1,Zl 5 4,Za 6 0 3,Zw (.store 1 6 5)] (Zs [Za 7 1 1,Zl 8 7,Za 9 1 3,Zw (.store 1 9 8)] (Zs [Zv 10 2 3,Zw (.store 2 2 10)] .ret)))))
def m176:aU A1 176 1 A176 V32=true:=by kernel_rfl
def A112:ar:=(Zs [Zo 1 (.box 10 0),Zo 2 (.alloc (.agg [.i 0,.i 0,.i 0,.lst .u 1 [],.i 0,.i 0,.i 0,.lst .u 1 [],.i 0,.i 0]))] (Zs [Zo 3 (.alloc (.agg [.i 0,.i 0,.i 0,.lst .u 1 [],.i 0,.i 0,.i 0,.lst .u 1 [],.i 0,.i 0]))] (Zs [Za 4 0 1,Zl 5 4,Za 6 0 3,Zw (.store 1 6 5)] (Zs [Za 7 1 1,Zl 8 7,Za 9 1 3,Zw (.store 1 9 8)] (Zs [Za 10 2 1,Zv 11 2 10,Zo 12 (.call 175 [11]),Za 13 2 3,Zw (.store 2 13 12)] (Zs [Za 14 4 1,Zv 15 2 14,Zo 16 (.call 176 [15]),Za 17 4 3,Zw (.store 2 17 16)] (Zs [Za 18 6 1,Zv 19 2 18,Zo 20 (.call 175 [19]),Za 21 6 3,Zw (.store 2 21 20)] (Zs [Za 22 8 1,Zv 23 2 22,Zo 24 (.call 176 [23]),Za 25 8 3,Zw (.store 2 25 24)] (Zs [Zv 26 10 3,Zw (.store 10 2 26)] .ret)))))))))
def Ic:List RV:=[.c 2 10 true]
def m112:aU A1 112 1 A112 Ic=true:=by kernel_rfl
def OD:ar:=(.seq (Zs [Zm 8 4,Zm 9 0,Zk 10 9,Zb 11 .lss 8 10] (.cond 11 .skip (.exit 0))) (.seq (.blk 1 (.reg [Zm 14 3,Zm 15 4,Zm 16 0,Zm 17 4,Zx 18 10 16 17,Zv 19 10 18,Zo 20 (.call 112 [19]),Zx 21 10 14 15,Zw (.store 10 21 20)] [])) (.reg [Zm 12 4,Zd 13 .add 12 1,Zm 4 13] [])))
def Yc:ar:=(.seq (.reg [Zm 22 3,Zm 2 22] [.s 2]) .ret)
def A33:ar:=(.seq (.reg [Zo 2 (.mv (.c (.lst .u 10 [])))] [.s 2]) (.seq (.reg [Zm 5 0,Zk 6 5,Zo 7 (.mks 10 (.agg [.i 0,.i 0,.i 0,.lst .u 1 [],.i 0,.i 0,.i 0,.lst .u 1 [],.i 0,.i 0]) 112 6 6),Zm 3 7] [.s 3]) (.seqa (.reg [Zn 4 0] []) (.blk 0 (.loop OD)) [3] [3] Yc)))
def m33:aU A1 33 1 A33 bL=true:=by kernel_rfl
def A46:ar:=(Zs [Zo 1 (.box 4 0),Zo 2 (.alloc (.agg [.i 0,.i 0,.i 0,.i 0]))] (Zs [Zo 3 (.alloc (.agg [.i 0,.i 0,.i 0,.i 0]))] (Zs [Za 4 0 1,Zl 5 4,Za 6 0 3,Zw (.store 1 6 5)] (Zs [Za 7 1 1,Zl 8 7,Za 9 1 3,Zw (.store 1 9 8)] (Zs [Za 10 2 1,Zl 11 10,Za 12 2 3,Zw (.store 1 12 11)] (Zs [Za 13 3 1,Zl 14 13,Za 15 3 3,Zw (.store 1 15 14)] (Zs [Zv 16 4 3,Zw (.store 4 2 16)] .ret)))))))
def m46:aU A1 46 1 A46 QW=true:=by kernel_rfl
def A173:ar:=(Zs [Zh 6 false] (Zs [Zm 7 0,Zm 8 1,Zb 9 .geq 7 8,Zm 10 9,Zg 11 (.mv 0) 10 true,Zg 12 (.mv 2) 10 true,Zg 13 (.bin .leq 11 12) 10 true,Zo 14 (.pick 10 13 (Zy false)),Zm 6 14] .ret))
def dx:List RV:=[.t 6]
def m173:aU A1 173 3 A173 dx=true:=by kernel_rfl
def aea:ar:=(Zs [Zh 2 false] (Zs [Zm 3 0,Zo 4 (.bin .geq 3 (.c (.sc (.int .u8 97)))),Zm 5 4,Zg 6 (.mv 0) 5 true,Zg 7 (.bin .leq 6 (.c (.sc (.int .u8 122)))) 5 true,Zo 8 (.pick 5 7 (Zy false)),Zm 9 8,Zg 10 (.mv 0) 9 false,Zg 11 (.bin .geq 10 (.c (.sc (.int .u8 48)))) 9 false,Zg 12 (.mv 11) 9 false,Zg 13 (.mv 0) 12 true,Zg 14 (.bin .leq 13 (.c (.sc (.int .u8 57)))) 12 true,Zg 15 (.pick 12 14 (Zy false)) 9 false,Zo 16 (.pick 9 (Zy true) 15),Zm 2 16] .ret))
def m226:aU A1 226 1 aea bL=true:=by kernel_rfl
def LV:ar:=(.cond 17 (Zs [Zh 2 false] .ret) .skip)
def vt:ar:=(.seq (Zs [Zm 18 3,Zm 19 0,Zo 20 (.lenz 19),Zb 21 .lss 18 20] (.cond 21 .skip (.exit 0))) (.seq (.blk 1 (Zs [Zm 24 0,Zm 25 3,Zo 26 (.stri 24 25),Zo 27 (.call 226 [26]),Zo 28 (.un .not 27)] (.cond 28 (Zs [Zh 2 false] .ret) .skip))) (.reg [Zm 22 3,Zd 23 .add 22 1,Zm 3 23] [])))
def OP:ar:=(Zs [Zh 2 true] .ret)
def A194:ar:=(Zs [Zh 2 false] (.seq (.seqr (.reg [Zm 4 0,Zo 5 (.lenz 4),Zo 6 (.call 173 [5,(.c (.i 1)),(.c (.i 8))]),Zo 7 (.un .not 6),Zm 8 7,Zg 9 (.mv 0) 8 false,Zg 10 (.stri 9 (.c (.i 0))) 8 false,Zg 11 (.bin .lss 10 (.c (.sc (.int .u8 97)))) 8 false,Zo 12 (.pick 8 (Zy true) 11),Zm 13 12,Zg 14 (.mv 0) 13 false,Zg 15 (.stri 14 (.c (.i 0))) 13 false,Zg 16 (.bin .gtr 15 (.c (.sc (.int .u8 122)))) 13 false,Zo 17 (.pick 13 (Zy true) 16)] []) [0,17] [] LV) (.seqa (.reg [Zn 3 0] []) (.blk 0 (.loop vt)) [] [] OP)))
def m194:aU A1 194 1 A194 bL=true:=by kernel_rfl
def vE:ar:=(.seq (Zs [Zm 6 5,Zm 7 0,Zk 8 7,Zb 9 .lss 6 8] (.cond 9 .skip (.exit 0))) (.seq (.blk 1 (Zs [Zm 12 0,Zm 13 5,Zx 14 1 12 13,Zl 15 14,Zm 16 1,Zb 17 .eql 15 16] (.cond 17 (Zs [Zm 18 5,Zm 4 18] .ret) .skip))) (.reg [Zm 10 5,Zd 11 .add 10 1,Zm 5 11] [])))
def Oj:ar:=(Zs [Zn 4 (-1)] .ret)
def A195:ar:=(Zs [Zn 4 0] (.seqa (.reg [Zn 5 0] []) (.blk 0 (.loop vE)) [] [] Oj))
def m195:aU A1 195 2 A195 aO=true:=by kernel_rfl
def YA:ar:=(Zs [Zo 2 (.box 4 0),Zh 4 false] (Zs [Za 5 0 2,Zl 6 5,Zm 7 1,Zd 8 .sub 7 1,Zo 9 (.call 173 [6,(.c (.i 0)),8]),Zm 10 9,Zg 11 (.fad 1 2) 10 true,Zg 12 (.load 1 false 11) 10 true,Zg 13 (.fad 0 2) 10 true,Zg 14 (.load 1 false 13) 10 true,Zg 15 (.bin .add 14 (.c (.i 1))) 10 true,Zg 16 (.mv 1) 10 true,Zg 17 (.bin .sub 16 (.c (.i 1))) 10 true,Zg 18 (.call 173 [12,15,17]) 10 true,Zo 19 (.pick 10 18 (Zy false)),Zm 20 19,Zg 21 (.fad 2 2) 20 true,Zg 22 (.load 1 false 21) 20 true,Zg 23 (.call 173 [22,(.c (.i 1)),(.c (.i 5000))]) 20 true,Zo 24 (.pick 20 23 (Zy false)),Zm 25 24,Zg 26 (.fad 3 2) 25 true,Zg 27 (.load 1 false 26) 25 true,Zg 28 (.call 173 [27,(.c (.i 0)),(.c (.i 9))]) 25 true,Zo 29 (.pick 25 28 (Zy false)),Zm 4 29] .ret))
def m196:aU A1 196 2 YA aO=true:=by kernel_rfl
def Zq:ar:=(Zs [Zo 2 (.box 4 0),Zo 3 (.box 4 1),Zn 4 0] (.seq (.blk 0 (Zs [Za 6 0 2,Zl 7 6,Za 8 0 3,Zl 9 8,Zb 10 .neq 7 9,Zm 5 10] (.cond 5 (Zs [Za 11 0 2,Zl 12 11,Za 13 0 3,Zl 14 13,Zb 15 .sub 12 14,Zm 4 15] .ret) (Zs [Za 17 1 2,Zl 18 17,Za 19 1 3,Zl 20 19,Zb 21 .neq 18 20,Zm 16 21] (.cond 16 (Zs [Za 22 1 2,Zl 23 22,Za 24 1 3,Zl 25 24,Zb 26 .sub 23 25,Zm 4 26] .ret) (Zs [Za 28 2 2,Zl 29 28,Za 30 2 3,Zl 31 30,Zb 32 .neq 29 31,Zm 27 32] (.cond 27 (Zs [Za 33 2 2,Zl 34 33,Za 35 2 3,Zl 36 35,Zb 37 .sub 34 36,Zm 4 37] .ret) .skip))))))) (Zs [Za 38 3 2,Zl 39 38,Za 40 3 3,Zl 41 40,Zb 42 .sub 39 41,Zm 4 42] .ret)))
def m197:aU A1 197 2 Zq aO=true:=by kernel_rfl
def Nv:ar:=(.cond 15 (Zs [Zh 2 false] .ret) .skip)
def OI:ar:=(.cond 41 (Zs [Zh 2 false] .ret) .skip)
def wK:ar:=(.seq (Zs [Zm 16 3,Za 17 0 1,Zl 18 17,Zk 19 18,Zb 20 .lss 16 19] (.cond 20 .skip (.exit 0))) (.seq (.blk 1 (.seqr (.drw [Za 23 0 1,Zl 24 23,Zm 25 3,Zx 26 1 24 25,Zl 27 26,Zo 28 (.call 194 [27]),Zo 29 (.un .not 28),Zm 30 29,Zg 31 (.fad 0 1) 30 false,Zg 32 (.load 1 false 31) 30 false,Zg 33 (.fad 0 1) 30 false,Zg 34 (.load 1 false 33) 30 false,Zg 35 (.mv 3) 30 false,Zg 36 (.idx 1 34 35) 30 false,Zg 37 (.load 1 false 36) 30 false,Zg 38 (.call 195 [32,37]) 30 false,Zg 39 (.mv 3) 30 false,Zg 40 (.bin .neq 38 39) 30 false,Zo 41 (.pick 30 (Zy true) 40)] []) [1,3,41] [1] OI)) (.reg [Zm 21 3,Zd 22 .add 21 1,Zm 3 22] [])))
def Ou:ar:=(.cond 77 (Zs [Zh 2 false] .ret) .skip)
def vw:ar:=(.seq (Zs [Zm 42 4,Za 43 1 1,Zl 44 43,Zk 45 44,Zb 46 .lss 42 45] (.cond 46 .skip (.exit 2))) (.seq (.blk 3 (.seqr (.drw [Za 49 1 1,Zl 50 49,Zm 51 4,Zx 52 4 50 51,Zv 53 4 52,Za 54 0 1,Zl 55 54,Zk 56 55,Zo 57 (.call 196 [53,56]),Zo 58 (.un .not 57),Zm 59 58,Zg 60 (.mv 4) 59 false,Zg 61 (.bin .gtr 60 (.c (.i 0))) 59 false,Zg 62 (.mv 61) 59 false,Zg 63 (.fad 1 1) 62 true,Zg 64 (.load 1 false 63) 62 true,Zg 65 (.mv 4) 62 true,Zg 66 (.bin .sub 65 (.c (.i 1))) 62 true,Zg 67 (.idx 4 64 66) 62 true,Zg 68 (.load 4 true 67) 62 true,Zg 69 (.fad 1 1) 62 true,Zg 70 (.load 1 false 69) 62 true,Zg 71 (.mv 4) 62 true,Zg 72 (.idx 4 70 71) 62 true,Zg 73 (.load 4 true 72) 62 true,Zg 74 (.call 197 [68,73]) 62 true,Zg 75 (.bin .gtr 74 (.c (.i 0))) 62 true,Zg 76 (.pick 62 75 (Zy false)) 59 false,Zo 77 (.pick 59 (Zy true) 76)] []) [1,4,77] [1] Ou)) (.reg [Zm 47 4,Zd 48 .add 47 1,Zm 4 48] [])))
def MJ:ar:=(Zs [Zh 2 true] .ret)
def Om:ar:=(.seqa (.reg [Zn 4 0] []) (.blk 2 (.loop vw)) [] [] MJ)
def A131:ar:=(Zs [Zo 1 (.box 2 0),Zh 2 false] (.seq (.seqr (.reg [Za 5 0 1,Zl 6 5,Zk 7 6,Zo 8 (.call 173 [7,(.c (.i 2)),(.c (.i 8))]),Zo 9 (.un .not 8),Zm 10 9,Zg 11 (.fad 1 1) 10 false,Zg 12 (.load 1 false 11) 10 false,Zg 13 (.len 12) 10 false,Zg 14 (.bin .gtr 13 (.c (.i 14))) 10 false,Zo 15 (.pick 10 (Zy true) 14)] []) [1,15] [1] Nv) (.seqa (.reg [Zn 3 0] []) (.blk 0 (.loop wK)) [1] [1] Om)))
def m131:aU A1 131 1 A131 bL=true:=by kernel_rfl
def A233:ar:=(Zs [Zo 3 (.box 2 0),Zn 6 0] (Zs [Za 8 1 3,Zl 9 8,Zm 10 1,Zx 11 4 9 10,Zv 12 4 11,Zo 7 (.alloc (.agg [.i 0,.i 0,.i 0,.i 0])),Zw (.store 4 7 12)] (.seq (Zs [Zm 13 2] (.blk 0 (Zs [Za 15 0 7,Zl 16 15,Zb 17 .eql 13 16,Zm 14 17] (.cond 14 (Zs [Za 18 1 7,Zl 19 18,Zm 6 19] .ret) (Zs [Za 21 1 7,Zl 22 21,Zb 23 .eql 13 22,Zm 20 23] (.cond 20 (Zs [Za 24 0 7,Zl 25 24,Zm 6 25] .ret) .skip)))))) (Zs [Zn 6 (-1)] .ret))))
def m233:aU A1 233 3 A233 dx=true:=by kernel_rfl
def Dw:ar:=(.seq (Zs [Zm 6 5,Zm 7 0,Zk 8 7,Zb 9 .lss 6 8] (.cond 9 .skip (.exit 0))) (.seq (.blk 1 (Zs [Zm 12 0,Zm 13 5,Zx 14 1 12 13,Zl 15 14,Zm 16 1,Zb 17 .eql 15 16] (.cond 17 (Zs [Zh 4 true] .ret) .skip))) (.reg [Zm 10 5,Zd 11 .add 10 1,Zm 5 11] [])))
def Xu:ar:=(Zs [Zh 4 false] .ret)
def A74:ar:=(Zs [Zh 4 false] (.seqa (.reg [Zn 5 0] []) (.blk 0 (.loop Dw)) [] [] Xu))
def m74:aU A1 74 2 A74 aO=true:=by kernel_rfl
def Qc:ar:=(.cond 25 (.seq (.reg [Zm 26 6,Zm 4 26,Zh 5 false] [.s 4]) .ret) .skip)
def MS:ar:=(.cond 65 (.seq (.reg [Zm 66 6,Zm 4 66,Zh 5 false] [.s 4]) .ret) .skip)
def BM:ar:=(.seq (Zs [Zm 27 7,Za 28 1 3,Zl 29 28,Zk 30 29,Zb 31 .lss 27 30] (.cond 31 .skip (.exit 0))) (.seq (.blk 1 (.seq (.seq (.drw [Za 34 1 3,Zl 35 34,Zm 36 7,Zx 37 1 35 36,Zl 38 37,Za 39 1 2,Zl 40 39,Zk 41 40,Zd 42 .sub 41 1,Zo 43 (.call 173 [38,(.c (.i 0)),42]),Zo 44 (.un .not 43)] []) (.cond 44 (.seq (.reg [Zm 45 6,Zm 4 45,Zh 5 false] [.s 4]) .ret) .skip)) (.seq (.drw [Zv 46 2 2,Za 47 1 3,Zl 48 47,Zm 49 7,Zx 50 1 48 49,Zl 51 50,Zm 52 6,Zm 53 6,Zk 54 53,Zd 55 .sub 54 1,Zx 56 1 52 55,Zl 57 56,Zo 58 (.call 233 [46,51,57]),Zm 8 58] []) (.seq (.seqr (.reg [Zm 59 8,Zd 60 .lss 59 0,Zm 61 60,Zg 62 (.mv 6) 61 false,Zg 63 (.mv 8) 61 false,Zg 64 (.call 74 [62,63]) 61 false,Zo 65 (.pick 61 (Zy true) 64)] []) [2,3,6,7,8,65] [2,3,6] MS) (.reg [Zm 67 6,Zm 68 8,Zo 69 (.bsl 1 false [68]),Zo 70 (.app 1 8 true 67 69),Zm 6 70] [.s 6]))))) (.reg [Zm 32 7,Zd 33 .add 32 1,Zm 7 33] [])))
def PZ:ar:=(.seq (.reg [Zm 71 6,Zm 4 71,Zh 5 true] [.s 4]) .ret)
def A227:ar:=(.seq (.reg [Zo 2 (.box 2 0),Zo 3 (.box 2 1),Zo 4 (.mv (.c (.lst .u 1 []))),Zh 5 false] [.s 4]) (.seq (.reg [Za 9 0 3,Zl 10 9,Zo 11 (.bsl 1 false [10]),Zm 6 11] [.s 6]) (.seq (.seqr (.reg [Za 12 0 3,Zl 13 12,Za 14 0 2,Zl 15 14,Zk 16 15,Zd 17 .sub 16 1,Zo 18 (.call 173 [13,(.c (.i 0)),17]),Zo 19 (.un .not 18),Zm 20 19,Zg 21 (.fad 1 3) 20 false,Zg 22 (.load 1 false 21) 20 false,Zg 23 (.len 22) 20 false,Zg 24 (.bin .eql 23 (.c (.i 0))) 20 false,Zo 25 (.pick 20 (Zy true) 24)] []) [2,3,6,25] [2,3,6] Qc) (.seqa (.reg [Zn 7 0] []) (.blk 0 (.loop BM)) [6] [6] PZ))))
def nD:List RV:=[.t 4,.t 5]
def m227:aU A1 227 2 A227 nD=true:=by kernel_rfl
def A198:ar:=(Zs [Zo 2 (.box 2 0),Zo 3 (.box 2 1),Zh 4 false] (.seq (Zs [Zv 7 2 2,Zo 8 (.call 131 [7]),Zo 9 (.un .not 8)] (.cond 9 (Zs [Zh 4 false] .ret) .skip)) (.seq (.reg [Zv 11 2 2,Zv 12 2 3,Zo 13 (.call 227 [11,12]),Zm 10 13,Ze 14 10 0,Ze 15 10 1,Zm 5 14,Zm 6 15] [.s 5]) (Zs [Zm 16 6,Zm 4 16] .ret))))
def m198:aU A1 198 2 A198 aO=true:=by kernel_rfl
def A199:ar:=(Zs [Zo 1 (.box 2 0),Zh 2 false] (Zs [Za 3 0 1,Zl 4 3,Zo 5 (.call 173 [4,(.c (.i 0)),(.c (.i 23))]),Zm 6 5,Zg 7 (.fad 1 1) 6 true,Zg 8 (.load 1 false 7) 6 true,Zg 9 (.fad 0 1) 6 true,Zg 10 (.load 1 false 9) 6 true,Zg 11 (.bin .sub (.c (.i 24)) 10) 6 true,Zg 12 (.call 173 [8,(.c (.i 1)),11]) 6 true,Zo 13 (.pick 6 12 (Zy false)),Zm 2 13] .ret))
def m199:aU A1 199 1 A199 bL=true:=by kernel_rfl
def A228:ar:=(.seq (.reg [Zo 2 (.box 2 0),Zo 3 (.box 2 1),Zo 4 (.mv (.c (.lst .u 1 [])))] [.s 4]) (.seq (.reg [Zv 8 2 2,Zv 9 2 3,Zo 10 (.call 227 [8,9]),Zm 7 10,Ze 11 7 0,Ze 12 7 1,Zm 5 11,Zm 6 12] [.s 5]) (.seq (.reg [Zm 13 5,Zm 4 13] [.s 4]) .ret)))
def m228:aU A1 228 2 A228 aO=true:=by kernel_rfl
def A200:ar:=(Zs [Zo 2 (.box 2 0),Zo 3 (.box 2 1),Zn 4 0] (.seq (.reg [Zv 6 2 2,Zv 7 2 3,Zo 8 (.call 228 [6,7]),Zm 5 8] [.s 5]) (Zs [Zm 9 5,Zm 10 5,Zk 11 10,Zd 12 .sub 11 1,Zx 13 1 9 12,Zl 14 13,Zm 4 14] .ret)))
def m200:aU A1 200 2 A200 aO=true:=by kernel_rfl
def BB:ar:=(.seq (Zs [Zm 17 6,Za 18 1 2,Zl 19 18,Zk 20 19,Zb 21 .lss 17 20] (.cond 21 .skip (.exit 0))) (.seq (.blk 1 (.seq (.drw [Za 24 1 2,Zl 25 24,Zm 26 6,Zx 27 4 25 26,Za 28 3 27,Zl 29 28,Za 30 1 2,Zl 31 30,Zm 32 1,Zx 33 4 31 32,Za 34 3 33,Zl 35 34,Zb 36 .eql 29 35] []) (.cond 36 (.reg [Zm 37 5,Zm 38 6,Zo 39 (.bsl 1 false [38]),Zo 40 (.app 1 8 true 37 39),Zm 5 40] [.s 5]) .skip))) (.reg [Zm 22 6,Zd 23 .add 22 1,Zm 6 23] [])))
def LS:ar:=(.seq (.reg [Zm 41 5,Zm 4 41] [.s 4]) .ret)
def A192:ar:=(.seq (.reg [Zo 2 (.box 2 0),Zo 4 (.mv (.c (.lst .u 1 [])))] [.s 4]) (.seq (Zs [Za 7 1 2,Zl 8 7,Zm 9 1,Zx 10 4 8 9,Za 11 3 10,Zl 12 11,Zd 13 .eql 12 0] (.cond 13 (.seq (.reg [Zm 14 1,Zo 15 (.bsl 1 false [14]),Zm 4 15] [.s 4]) .ret) .skip)) (.seq (.reg [Zo 16 (.bsl 1 false []),Zm 5 16] [.s 5]) (.seqa (.reg [Zn 6 0] []) (.blk 0 (.loop BB)) [5] [5] LS))))
def m192:aU A1 192 2 A192 aO=true:=by kernel_rfl
def Bq:ar:=(.seq (Zs [Zm 24 9,Za 25 1 5,Zl 26 25,Zk 27 26,Zb 28 .lss 24 27] (.cond 28 .skip (.exit 2))) (.seq (.blk 3 (Zs [Zm 31 8,Za 32 1 5,Zl 33 32,Zm 34 9,Zx 35 1 33 34,Zl 36 35,Zo 37 (.call 74 [31,36])] (.cond 37 (Zs [Zh 6 false] .ret) .skip))) (.reg [Zm 29 9,Zd 30 .add 29 1,Zm 9 30] [])))
def LG:ar:=(.reg [Zm 15 7,Zd 16 .add 15 1,Zm 7 16] [])
def AM:ar:=(.seq (Zs [Zm 10 7,Za 11 1 4,Zl 12 11,Zk 13 12,Zb 14 .lss 10 13] (.cond 14 .skip (.exit 0))) (.seqr (.blk 1 (.seq (.drw [Zv 17 2 3,Za 18 1 4,Zl 19 18,Zm 20 7,Zx 21 1 19 20,Zl 22 21,Zo 23 (.call 192 [17,22]),Zm 8 23] [.s 8]) (Zs [Zn 9 0] (.blk 2 (.loop Bq))))) [3,4,5,7] [3,4,5] LG))
def MO:ar:=(Zs [Zh 6 true] .ret)
def A185:ar:=(Zs [Zo 3 (.box 2 0),Zo 4 (.box 2 1),Zo 5 (.box 2 2),Zh 6 false] (.seqa (.reg [Zn 7 0] []) (.blk 0 (.loop AM)) [] [] MO))
def m185:aU A1 185 3 A185 dx=true:=by kernel_rfl
def Qe:ar:=(.cond 27 (Zs [Zh 4 false] .ret) .skip)
def Pa:ar:=.ret
def A132:ar:=(Zs [Zo 2 (.box 2 0),Zo 3 (.box 10 1),Zh 4 false] (.seq (.seqr (.reg [Za 5 0 3,Zl 6 5,Zo 7 (.call 173 [6,(.c (.i 1)),(.c (.i 999))]),Zo 8 (.un .not 7),Zm 9 8,Zg 10 (.fad 1 3) 9 false,Zg 11 (.load 1 false 10) 9 false,Zg 12 (.call 173 [11,(.c (.i 0)),(.c (.i 2))]) 9 false,Zg 13 (.un .not 12) 9 false,Zo 14 (.pick 9 (Zy true) 13),Zm 15 14,Zg 16 (.load 2 true 2) 15 false,Zg 17 (.fad 2 3) 15 false,Zg 18 (.load 2 true 17) 15 false,Zg 19 (.call 198 [16,18]) 15 false,Zg 20 (.un .not 19) 15 false,Zo 21 (.pick 15 (Zy true) 20),Zm 22 21,Zg 23 (.fad 4 3) 22 false,Zg 24 (.load 2 true 23) 22 false,Zg 25 (.call 199 [24]) 22 false,Zg 26 (.un .not 25) 22 false,Zo 27 (.pick 22 (Zy true) 26)] []) [2,3,27] [2,3] Qe) (.seq (Zs [Za 28 1 3,Zl 29 28,Zd 30 .eql 29 0] (.cond 30 (.seqr (.reg [Za 31 6 3,Za 32 0 31,Zl 33 32,Zd 34 .eql 33 0,Zm 35 34,Zg 36 (.fad 6 3) 35 true,Zg 37 (.fad 1 36) 35 true,Zg 38 (.load 1 false 37) 35 true,Zg 39 (.len 38) 35 true,Zg 40 (.bin .eql 39 (.c (.i 0))) 35 true,Zo 41 (.pick 35 40 (Zy false)),Zm 42 41,Zg 43 (.fad 8 3) 42 true,Zg 44 (.load 2 true 43) 42 true,Zg 45 (.build [.i 0,.i 0] []) 42 true,Zg 46 (.aeq false 44 45) 42 true,Zo 47 (.pick 42 46 (Zy false)),Zm 4 47] []) [4] [] Pa) .skip)) (.seq (.drw [Zv 48 2 2,Za 49 6 3,Zv 50 2 49,Zo 51 (.call 198 [48,50]),Zm 52 51,Zg 53 (.fad 8 3) 52 true,Zg 54 (.load 2 true 53) 52 true,Zg 55 (.call 199 [54]) 52 true,Zo 56 (.pick 52 55 (Zy false)),Zm 57 56,Zg 58 (.fad 6 3) 57 true,Zg 59 (.fad 0 58) 57 true,Zg 60 (.load 1 false 59) 57 true,Zg 61 (.fad 2 3) 57 true,Zg 62 (.fad 0 61) 57 true,Zg 63 (.load 1 false 62) 57 true,Zg 64 (.bin .eql 60 63) 57 true,Zo 65 (.pick 57 64 (Zy false)),Zm 66 65,Zg 67 (.load 2 true 2) 66 true,Zg 68 (.fad 6 3) 66 true,Zg 69 (.load 2 true 68) 66 true,Zg 70 (.call 200 [67,69]) 66 true,Zg 71 (.load 2 true 2) 66 true,Zg 72 (.fad 2 3) 66 true,Zg 73 (.load 2 true 72) 66 true,Zg 74 (.call 200 [71,73]) 66 true,Zg 75 (.bin .eql 70 74) 66 true,Zo 76 (.pick 66 75 (Zy false)),Zm 77 76,Zg 78 (.load 2 true 2) 77 true,Zg 79 (.fad 2 3) 77 true,Zg 80 (.load 2 true 79) 77 true,Zg 81 (.fad 6 3) 77 true,Zg 82 (.load 2 true 81) 77 true,Zg 83 (.call 185 [78,80,82]) 77 true,Zo 84 (.pick 77 83 (Zy false)),Zm 4 84] []) .ret))))
def m132:aU A1 132 2 A132 aO=true:=by kernel_rfl
def wu:ar:=(.seq (Zs [Zm 6 5,Za 7 1 2,Zl 8 7,Zk 9 8,Zb 10 .lss 6 9] (.cond 10 .skip (.exit 0))) (.seq (.blk 1 (Zs [Zm 13 1,Za 14 1 2,Zl 15 14,Zm 16 5,Zx 17 1 15 16,Zl 18 17,Zo 19 (.call 74 [13,18])] (.cond 19 (Zs [Zh 4 true] .ret) .skip))) (.reg [Zm 11 5,Zd 12 .add 11 1,Zm 5 12] [])))
def MR:ar:=(Zs [Zh 4 false] .ret)
def A144:ar:=(Zs [Zo 2 (.box 2 0),Zh 4 false] (.seqa (.reg [Zn 5 0] []) (.blk 0 (.loop wu)) [] [] MR))
def m144:aU A1 144 2 A144 aO=true:=by kernel_rfl
def A75:ar:=(Zs [Zo 1 (.box 2 0),Zn 2 0] (Zs [Za 3 1 1,Zl 4 3,Zo 5 (.conv .u64 4),Zo 6 (.bin .shl (.c (.i 1)) 5),Zd 7 .sub 6 1,Za 8 0 1,Zl 9 8,Zo 10 (.conv .u64 9),Zb 11 .shl 7 10,Zm 2 11] .ret))
def m75:aU A1 75 1 A75 bL=true:=by kernel_rfl
def A145:ar:=(Zs [Zo 4 (.box 2 0),Zo 5 (.box 2 1),Zo 6 (.box 2 2),Zo 7 (.box 2 3),Zh 8 false] (.seq (.drw [Zv 9 2 4,Za 10 1 6,Zl 11 10,Zo 12 (.call 144 [9,11]),Zm 13 12,Zg 14 (.fad 1 5) 13 true,Zg 15 (.load 1 false 14) 13 true,Zg 16 (.bin .gtr 15 (.c (.i 0))) 13 true,Zo 17 (.pick 13 16 (Zy false)),Zm 18 17,Zg 19 (.fad 1 7) 18 true,Zg 20 (.load 1 false 19) 18 true,Zg 21 (.bin .gtr 20 (.c (.i 0))) 18 true,Zo 22 (.pick 18 21 (Zy false)),Zm 23 22,Zg 24 (.load 2 true 5) 23 true,Zg 25 (.call 75 [24]) 23 true,Zg 26 (.load 2 true 7) 23 true,Zg 27 (.call 75 [26]) 23 true,Zg 28 (.bin .and 25 27) 23 true,Zg 29 (.bin .neq 28 (.c (.i 0))) 23 true,Zo 30 (.pick 23 29 (Zy false)),Zm 8 30] []) .ret))
def vy:List RV:=[.t 8]
def m145:aU A1 145 4 A145 vy=true:=by kernel_rfl
def Ln:ar:=(.cond 37 (Zs [Zh 6 false] .ret) .skip)
def KZ:ar:=(.cond 53 (Zs [Zh 6 true] .ret) .skip)
def A133:ar:=(Zs [Zo 3 (.box 2 0),Zo 4 (.box 10 1),Zo 5 (.box 10 2),Zh 6 false] (.seq (.seqr (.reg [Za 7 2 4,Zv 8 2 7,Za 9 4 4,Zv 10 2 9,Za 11 2 5,Zv 12 2 11,Za 13 4 5,Zv 14 2 13,Zo 15 (.call 145 [8,10,12,14]),Zm 16 15,Zg 17 (.fad 2 4) 16 false,Zg 18 (.load 2 true 17) 16 false,Zg 19 (.fad 4 4) 16 false,Zg 20 (.load 2 true 19) 16 false,Zg 21 (.fad 6 5) 16 false,Zg 22 (.load 2 true 21) 16 false,Zg 23 (.fad 8 5) 16 false,Zg 24 (.load 2 true 23) 16 false,Zg 25 (.call 145 [18,20,22,24]) 16 false,Zo 26 (.pick 16 (Zy true) 25),Zm 27 26,Zg 28 (.fad 6 4) 27 false,Zg 29 (.load 2 true 28) 27 false,Zg 30 (.fad 8 4) 27 false,Zg 31 (.load 2 true 30) 27 false,Zg 32 (.fad 2 5) 27 false,Zg 33 (.load 2 true 32) 27 false,Zg 34 (.fad 4 5) 27 false,Zg 35 (.load 2 true 34) 27 false,Zg 36 (.call 145 [29,31,33,35]) 27 false,Zo 37 (.pick 27 (Zy true) 36)] []) [3,4,5,37] [3,4,5] Ln) (.seq (.seqr (.reg [Za 38 1 4,Zl 39 38,Zd 40 .eql 39 2,Zm 41 40,Zg 42 (.fad 1 5) 41 true,Zg 43 (.load 1 false 42) 41 true,Zg 44 (.bin .eql 43 (.c (.i 2))) 41 true,Zo 45 (.pick 41 44 (Zy false)),Zm 46 45,Zg 47 (.load 2 true 3) 46 true,Zg 48 (.fad 2 4) 46 true,Zg 49 (.load 2 true 48) 46 true,Zg 50 (.fad 2 5) 46 true,Zg 51 (.load 2 true 50) 46 true,Zg 52 (.call 185 [47,49,51]) 46 true,Zo 53 (.pick 46 52 (Zy false))] []) [4,5,53] [4,5] KZ) (Zs [Za 54 6 4,Zv 55 2 54,Za 56 8 4,Zv 57 2 56,Za 58 6 5,Zv 59 2 58,Za 60 8 5,Zv 61 2 60,Zo 62 (.call 145 [55,57,59,61]),Zo 63 (.un .not 62),Zm 6 63] .ret))))
def m133:aU A1 133 3 A133 dx=true:=by kernel_rfl
def XC:ar:=(.cond 14 (Zs [Zh 4 false] .ret) .skip)
def Yk:ar:=(.cond 45 (Zs [Zh 4 false] .ret) .skip)
def LD:ar:=(.seq (Zs [Zm 46 6,Zm 47 5,Zb 48 .lss 46 47] (.cond 48 .skip (.exit 2))) (.seq (.blk 3 (.seq (.drw [Zv 51 2 2,Zm 52 1,Zm 53 6,Zx 54 10 52 53,Zv 55 10 54,Zm 56 1,Zm 57 5,Zx 58 10 56 57,Zv 59 10 58,Zo 60 (.call 133 [51,55,59]),Zo 61 (.un .not 60)] []) (.cond 61 (Zs [Zh 4 false] .ret) .skip))) (.reg [Zm 49 6,Zd 50 .add 49 1,Zm 6 50] [])))
def XA:ar:=(.reg [Zm 19 5,Zd 20 .add 19 1,Zm 5 20] [])
def Nk:ar:=(.seq (Zs [Zm 15 5,Zm 16 1,Zk 17 16,Zb 18 .lss 15 17] (.cond 18 .skip (.exit 0))) (.seqr (.blk 1 (.seq (.seqr (.drw [Zv 21 2 2,Zm 22 1,Zm 23 5,Zx 24 10 22 23,Zv 25 10 24,Zo 26 (.call 132 [21,25]),Zo 27 (.un .not 26),Zm 28 27,Zg 29 (.mv 5) 28 false,Zg 30 (.bin .gtr 29 (.c (.i 0))) 28 false,Zg 31 (.mv 30) 28 false,Zg 32 (.mv 1) 31 true,Zg 33 (.mv 5) 31 true,Zg 34 (.bin .sub 33 (.c (.i 1))) 31 true,Zg 35 (.idx 10 32 34) 31 true,Zg 36 (.fad 0 35) 31 true,Zg 37 (.load 1 false 36) 31 true,Zg 38 (.mv 1) 31 true,Zg 39 (.mv 5) 31 true,Zg 40 (.idx 10 38 39) 31 true,Zg 41 (.fad 0 40) 31 true,Zg 42 (.load 1 false 41) 31 true,Zg 43 (.bin .geq 37 42) 31 true,Zg 44 (.pick 31 43 (Zy false)) 28 false,Zo 45 (.pick 28 (Zy true) 44)] []) [1,2,5,45] [2] Yk) (Zs [Zn 6 0] (.blk 2 (.loop LD))))) [1,2,5] [2] XA))
def Yi:ar:=(Zs [Zh 4 true] .ret)
def A88:ar:=(Zs [Zo 2 (.box 2 0),Zh 4 false] (.seq (.seqr (.reg [Zv 7 2 2,Zo 8 (.call 131 [7]),Zo 9 (.un .not 8),Zm 10 9,Zg 11 (.mv 1) 10 false,Zg 12 (.len 11) 10 false,Zg 13 (.bin .gtr 12 (.c (.i 8))) 10 false,Zo 14 (.pick 10 (Zy true) 13)] []) [1,2,14] [2] XC) (.seqa (.reg [Zn 5 0] []) (.blk 0 (.loop Nk)) [] [] Yi)))
def m88:aU A1 88 2 A88 aO=true:=by kernel_rfl
def MP:ar:=(.cond 11 .skip (.exit 0))
def KV:ar:=(.cond 61 (Zs [Zh 2 false] .ret) .skip)
def Bt:ar:=(.seq (.seqr (.reg [Zm 4 3,Zm 5 0,Zk 6 5,Zb 7 .lss 4 6,Zm 8 7,Zg 9 (.mv 3) 8 true,Zg 10 (.bin .leq 9 (.c (.i 6))) 8 true,Zo 11 (.pick 8 10 (Zy false))] []) [0,3,11] [] MP) (.seq (.blk 1 (.seqr (.drw [Zm 14 0,Zm 15 3,Zx 16 2 14 15,Za 17 0 16,Zl 18 17,Zo 19 (.call 173 [18,(.c (.i 1)),(.c (.i 20000))]),Zo 20 (.un .not 19),Zm 21 20,Zg 22 (.mv 0) 21 false,Zg 23 (.mv 3) 21 false,Zg 24 (.idx 2 22 23) 21 false,Zg 25 (.fad 1 24) 21 false,Zg 26 (.load 1 false 25) 21 false,Zg 27 (.call 173 [26,(.c (.i 1)),(.c (.i 1000))]) 21 false,Zg 28 (.un .not 27) 21 false,Zo 29 (.pick 21 (Zy true) 28),Zm 30 29,Zg 31 (.mv 3) 30 false,Zg 32 (.bin .gtr 31 (.c (.i 0))) 30 false,Zg 33 (.mv 32) 30 false,Zg 34 (.mv 0) 33 true,Zg 35 (.mv 3) 33 true,Zg 36 (.bin .sub 35 (.c (.i 1))) 33 true,Zg 37 (.idx 2 34 36) 33 true,Zg 38 (.fad 0 37) 33 true,Zg 39 (.load 1 false 38) 33 true,Zg 40 (.mv 0) 33 true,Zg 41 (.mv 3) 33 true,Zg 42 (.idx 2 40 41) 33 true,Zg 43 (.fad 0 42) 33 true,Zg 44 (.load 1 false 43) 33 true,Zg 45 (.bin .leq 39 44) 33 true,Zg 46 (.mv 45) 33 true,Zg 47 (.mv 0) 46 false,Zg 48 (.mv 3) 46 false,Zg 49 (.bin .sub 48 (.c (.i 1))) 46 false,Zg 50 (.idx 2 47 49) 46 false,Zg 51 (.fad 1 50) 46 false,Zg 52 (.load 1 false 51) 46 false,Zg 53 (.mv 0) 46 false,Zg 54 (.mv 3) 46 false,Zg 55 (.idx 2 53 54) 46 false,Zg 56 (.fad 1 55) 46 false,Zg 57 (.load 1 false 56) 46 false,Zg 58 (.bin .geq 52 57) 46 false,Zg 59 (.pick 46 (Zy true) 58) 33 true,Zg 60 (.pick 33 59 (Zy false)) 30 false,Zo 61 (.pick 30 (Zy true) 60)] []) [0,3,61] [] KV)) (.reg [Zm 12 3,Zd 13 .add 12 1,Zm 3 13] [])))
def Mp:ar:=(Zs [Zm 62 0,Zk 63 62,Zo 64 (.call 173 [63,(.c (.i 1)),(.c (.i 6))]),Zm 2 64] .ret)
def A182:ar:=(Zs [Zh 2 false] (.seqa (.reg [Zn 3 0] []) (.blk 0 (.loop Bt)) [0] [] Mp))
def m182:aU A1 182 1 A182 bL=true:=by kernel_rfl
def A183:ar:=(Zs [Zo 2 (.box 2 0),Zo 3 (.box 4 1),Zh 4 false] (Zs [Za 6 0 2,Zl 7 6,Zk 8 7,Zm 5 8] (Zs [Za 9 0 3,Zl 10 9,Zm 11 5,Zd 12 .sub 11 1,Zo 13 (.call 173 [10,(.c (.i 0)),12]),Zm 14 13,Zg 15 (.fad 1 3) 14 true,Zg 16 (.load 1 false 15) 14 true,Zg 17 (.mv 5) 14 true,Zg 18 (.bin .sub 17 (.c (.i 1))) 14 true,Zg 19 (.call 173 [16,(.c (.i 0)),18]) 14 true,Zo 20 (.pick 14 19 (Zy false)),Zm 21 20,Zg 22 (.fad 0 3) 21 true,Zg 23 (.load 1 false 22) 21 true,Zg 24 (.fad 1 3) 21 true,Zg 25 (.load 1 false 24) 21 true,Zg 26 (.bin .neq 23 25) 21 true,Zo 27 (.pick 21 26 (Zy false)),Zm 28 27,Zg 29 (.fad 2 3) 28 true,Zg 30 (.load 1 false 29) 28 true,Zg 31 (.call 173 [30,(.c (.i 1)),(.c (.i 1000))]) 28 true,Zo 32 (.pick 28 31 (Zy false)),Zm 33 32,Zg 34 (.fad 3 3) 33 true,Zg 35 (.load 1 false 34) 33 true,Zg 36 (.call 173 [35,(.c (.i 0)),(.c (.i 2))]) 33 true,Zo 37 (.pick 33 36 (Zy false)),Zm 4 37] .ret)))
def m183:aU A1 183 2 A183 aO=true:=by kernel_rfl
def Ew:ar:=(.seq (Zs [Zm 7 6,Za 8 1 3,Zl 9 8,Zk 10 9,Zb 11 .lss 7 10] (.cond 11 .skip (.exit 0))) (.seq (.blk 1 (.drw [Zm 14 5,Za 15 1 2,Zl 16 15,Za 17 1 3,Zl 18 17,Zm 19 6,Zx 20 1 18 19,Zl 21 20,Zx 22 4 16 21,Za 23 2 22,Zl 24 23,Zb 25 .add 14 24,Zm 5 25] [])) (.reg [Zm 12 6,Zd 13 .add 12 1,Zm 6 13] [])))
def Ym:ar:=(Zs [Zm 26 5,Zm 4 26] .ret)
def A91:ar:=(Zs [Zo 2 (.box 2 0),Zo 3 (.box 2 1),Zn 4 0] (Zs [Zn 5 0] (.seqa (.reg [Zn 6 0] []) (.blk 0 (.loop Ew)) [5] [] Ym)))
def m91:aU A1 91 2 A91 aO=true:=by kernel_rfl
def A278:ar:=(Zs [Zn 2 0] (.seq (.blk 0 (Zs [Zm 4 0,Zd 5 .lss 4 0,Zm 3 5] (.cond 3 (Zs [Zn 2 (-1)] .ret) (Zs [Zm 7 0,Zd 8 .gtr 7 0,Zm 6 8] (.cond 6 (Zs [Zn 2 1] .ret) .skip))))) (Zs [Zn 2 0] .ret)))
def m278:aU A1 278 1 A278 bL=true:=by kernel_rfl
def vF:ar:=(.seq (Zs [Zm 32 9,Za 33 1 4,Zl 34 33,Zk 35 34,Zb 36 .lss 32 35] (.cond 36 .skip (.exit 0))) (.seq (.blk 1 (.seq (.drw [Za 39 1 4,Zl 40 39,Zm 41 9,Zx 42 1 40 41,Zl 43 42,Za 44 1 5,Zl 45 44,Zm 46 9,Zx 47 1 45 46,Zl 48 47,Zb 49 .neq 43 48] []) (.cond 49 (.seq (.drw [Za 50 1 4,Zl 51 50,Zm 52 9,Zx 53 1 51 52,Zl 54 53,Za 55 1 5,Zl 56 55,Zm 57 9,Zx 58 1 56 57,Zl 59 58,Zb 60 .sub 54 59,Zo 61 (.call 278 [60]),Zm 6 61] []) .ret) .skip))) (.reg [Zm 37 9,Zd 38 .add 37 1,Zm 9 38] [])))
def QY:ar:=(Zs [Za 62 0 4,Zl 63 62,Za 64 0 5,Zl 65 64,Zb 66 .sub 63 65,Zo 67 (.call 278 [66]),Zm 6 67] .ret)
def A274:ar:=(Zs [Zo 3 (.box 2 0),Zo 4 (.box 2 1),Zo 5 (.box 2 2),Zn 6 0] (.seq (.seq (.drw [Zv 10 2 3,Zv 11 2 4,Zo 12 (.call 91 [10,11]),Zv 13 2 3,Zv 14 2 5,Zo 15 (.call 91 [13,14]),Zb 16 .sub 12 15,Zm 7 16] []) (Zs [Zm 17 7,Zd 18 .neq 17 0] (.cond 18 (Zs [Zm 19 7,Zo 20 (.call 278 [19]),Zm 6 20] .ret) .skip))) (.seq (Zs [Za 21 1 4,Zl 22 21,Zk 23 22,Za 24 1 5,Zl 25 24,Zk 26 25,Zb 27 .sub 23 26,Zm 8 27] (Zs [Zm 28 8,Zd 29 .neq 28 0] (.cond 29 (Zs [Zm 30 8,Zo 31 (.call 278 [30]),Zm 6 31] .ret) .skip))) (.seqa (.reg [Zn 9 0] []) (.blk 0 (.loop vF)) [4,5] [4,5] QY))))
def m274:aU A1 274 3 A274 dx=true:=by kernel_rfl
def A107:ar:=(.seq (.reg [Zo 2 (.mv (.c (.lst .u 1 [])))] [.s 2]) (.seq (.reg [Zo 3 (.bsl 1 false []),Zm 4 0,Zo 5 (.app 1 8 false 3 4),Zm 2 5] [.s 2]) .ret))
def m107:aU A1 107 1 A107 bL=true:=by kernel_rfl
def Cj:ar:=(.seq (Zs [Zm 7 6,Zm 8 0,Zk 9 8,Zb 10 .lss 7 9] (.cond 10 .skip (.exit 0))) (.seq (.blk 1 (Zs [Zm 13 0,Zm 14 6,Zx 15 2 13 14,Za 16 0 15,Zl 17 16,Zm 18 1,Zb 19 .geq 17 18] (.cond 19 (.reg [Zm 20 6,Zm 5 20] []) .skip))) (.reg [Zm 11 6,Zd 12 .add 11 1,Zm 6 12] [])))
def Pv:ar:=(Zs [Zm 21 5,Zm 4 21] .ret)
def A165:ar:=(Zs [Zn 4 0] (Zs [Zn 5 (-1)] (.seqa (.reg [Zn 6 0] []) (.blk 0 (.loop Cj)) [5] [] Pv)))
def m165:aU A1 165 2 A165 aO=true:=by kernel_rfl
def A90:ar:=(Zs [Zn 6 0] (Zs [Zm 9 0,Zm 10 1,Zo 11 (.call 165 [9,10]),Zm 7 11] (.seq (Zs [Zm 12 7,Zd 13 .lss 12 0] (.cond 13 (Zs [Zn 6 0] .ret) .skip)) (.seq (.drw [Zm 14 2,Zm 15 0,Zm 16 7,Zx 17 2 15 16,Za 18 1 17,Zl 19 18,Zb 20 .add 14 19,Zd 21 .sub 20 1,Zm 22 0,Zm 23 7,Zx 24 2 22 23,Za 25 1 24,Zl 26 25,Zb 27 .quo 21 26,Zm 8 27] []) (.seq (Zs [Zm 28 8,Zd 29 .gtr 28 24] (.cond 29 (Zs [Zn 6 0] .ret) .skip)) (Zs [Zm 30 8,Zm 6 30] .ret))))))
def m90:aU A1 90 3 A90 dx=true:=by kernel_rfl
def PR:ar:=(.cond 39 (.reg [Zm 40 6,Zm 5 40] []) .skip)
def AH:ar:=(.seq (Zs [Zm 7 6,Zm 8 0,Zk 9 8,Zb 10 .lss 7 9] (.cond 10 .skip (.exit 0))) (.seq (.blk 1 (.seqr (.drw [Zm 13 5,Zd 14 .lss 13 0,Zm 15 14,Zg 16 (.mv 1) 15 false,Zg 17 (.mv 6) 15 false,Zg 18 (.idx 1 16 17) 15 false,Zg 19 (.load 1 false 18) 15 false,Zg 20 (.mv 0) 15 false,Zg 21 (.mv 6) 15 false,Zg 22 (.idx 2 20 21) 15 false,Zg 23 (.fad 1 22) 15 false,Zg 24 (.load 1 false 23) 15 false,Zg 25 (.len 24) 15 false,Zg 26 (.bin .mul 19 25) 15 false,Zg 27 (.mv 1) 15 false,Zg 28 (.mv 5) 15 false,Zg 29 (.idx 1 27 28) 15 false,Zg 30 (.load 1 false 29) 15 false,Zg 31 (.mv 0) 15 false,Zg 32 (.mv 5) 15 false,Zg 33 (.idx 2 31 32) 15 false,Zg 34 (.fad 1 33) 15 false,Zg 35 (.load 1 false 34) 15 false,Zg 36 (.len 35) 15 false,Zg 37 (.bin .mul 30 36) 15 false,Zg 38 (.bin .lss 26 37) 15 false,Zo 39 (.pick 15 (Zy true) 38)] []) [0,1,5,6,39] [] PR)) (.reg [Zm 11 6,Zd 12 .add 11 1,Zm 6 12] [])))
def Mw:ar:=(Zs [Zm 41 5,Zm 4 41] .ret)
def A164:ar:=(Zs [Zn 4 0] (Zs [Zn 5 (-1)] (.seqa (.reg [Zn 6 0] []) (.blk 0 (.loop AH)) [5] [] Mw)))
def m164:aU A1 164 2 A164 aO=true:=by kernel_rfl
def Lx:ar:=(.cond 79 (.exit 3) .skip)
def QE:ar:=(.cond 88 (Zs [Zm 89 11,Zm 8 89] (Zs [Zm 90 12,Zm 9 90] (.reg [Zm 91 13,Zm 92 14,Zb 93 .add 91 92,Zm 10 93] []))) .skip)
def Bn:ar:=(.seq (Zs [Zm 21 12,Zm 22 1,Zk 23 22,Zb 24 .lss 21 23] (.cond 24 .skip (.exit 2))) (.seq (.blk 3 (.seq (.drw [Zm 27 2,Zm 28 11,Zx 29 1 27 28,Zl 30 29,Zm 31 1,Zm 32 11,Zx 33 2 31 32,Za 34 1 33,Zl 35 34,Zk 36 35,Zb 37 .mul 30 36,Zm 38 2,Zm 39 12,Zx 40 1 38 39,Zl 41 40,Zm 42 1,Zm 43 12,Zx 44 2 42 43,Za 45 1 44,Zl 46 45,Zk 47 46,Zb 48 .mul 41 47,Zm 13 37,Zm 14 48] []) (.seq (.seqr (.drw [Zm 49 11,Zm 50 12,Zb 51 .eql 49 50,Zm 52 51,Zg 53 (.mv 13) 52 false,Zg 54 (.mv 14) 52 false,Zg 55 (.bin .gtr 53 54) 52 false,Zo 56 (.pick 52 (Zy true) 55),Zm 57 56,Zg 58 (.mv 13) 57 false,Zg 59 (.mv 14) 57 false,Zg 60 (.bin .eql 58 59) 57 false,Zg 61 (.mv 60) 57 false,Zg 62 (.mv 11) 61 true,Zg 63 (.mv 12) 61 true,Zg 64 (.bin .gtr 62 63) 61 true,Zg 65 (.pick 61 64 (Zy false)) 57 false,Zo 66 (.pick 57 (Zy true) 65),Zm 67 66,Zg 68 (.load 2 true 3) 67 false,Zg 69 (.mv 1) 67 false,Zg 70 (.mv 11) 67 false,Zg 71 (.idx 2 69 70) 67 false,Zg 72 (.load 2 true 71) 67 false,Zg 73 (.mv 1) 67 false,Zg 74 (.mv 12) 67 false,Zg 75 (.idx 2 73 74) 67 false,Zg 76 (.load 2 true 75) 67 false,Zg 77 (.call 185 [68,72,76]) 67 false,Zg 78 (.un .not 77) 67 false,Zo 79 (.pick 67 (Zy true) 78)] []) [1,2,3,8,9,10,11,12,13,14,79] [3] Lx) (.seqr (.reg [Zm 80 8,Zd 81 .lss 80 0,Zm 82 81,Zg 83 (.mv 13) 82 false,Zg 84 (.mv 14) 82 false,Zg 85 (.bin .add 83 84) 82 false,Zg 86 (.mv 10) 82 false,Zg 87 (.bin .lss 85 86) 82 false,Zo 88 (.pick 82 (Zy true) 87)] []) [1,2,3,8,9,10,11,12,13,14,88] [3] QE)))) (.reg [Zm 25 12,Zd 26 .add 25 1,Zm 12 26] [])))
def KQ:ar:=(.reg [Zm 19 11,Zd 20 .add 19 1,Zm 11 20] [])
def CZ:ar:=(.seq (Zs [Zm 15 11,Zm 16 1,Zk 17 16,Zb 18 .lss 15 17] (.cond 18 .skip (.exit 0))) (.seqr (.blk 1 (Zs [Zn 12 0] (.blk 2 (.loop Bn)))) [1,2,3,8,9,10,11] [3] KQ))
def NB:ar:=(Zs [Zm 94 8,Zm 95 9,Zm 6 94,Zm 7 95] .ret)
def A122:ar:=(Zs [Zo 3 (.box 2 0),Zn 6 0,Zn 7 0] (Zs [Zn 8 (-1),Zn 9 (-1),Zn 10 0] (.seqa (.reg [Zn 11 0] []) (.blk 0 (.loop CZ)) [8,9] [] NB)))
def io:List RV:=[.t 6,.t 7]
def m122:aU A1 122 3 A122 io=true:=by kernel_rfl
def BU:ar:=(.seq (Zs [Zm 8 7,Zm 9 1,Zk 10 9,Zb 11 .lss 8 10] (.cond 11 .skip (.exit 0))) (.seq (.blk 1 (.seq (.drw [Zv 14 2 3,Zm 15 1,Zm 16 7,Zx 17 10 15 16,Zv 18 10 17,Zv 19 10 5,Zo 20 (.call 133 [14,18,19]),Zo 21 (.un .not 20)] []) (.cond 21 (Zs [Zh 6 false] .ret) .skip))) (.reg [Zm 12 7,Zd 13 .add 12 1,Zm 7 13] [])))
def MC:ar:=(Zs [Zh 6 true] .ret)
def A166:ar:=(Zs [Zo 3 (.box 2 0),Zo 5 (.box 10 2),Zh 6 false] (.seqa (.reg [Zn 7 0] []) (.blk 0 (.loop BU)) [] [] MC))
def m166:aU A1 166 3 A166 dx=true:=by kernel_rfl
def sd:ar:=(.seq (.seq (.drw [Zm 10 4,Zd 11 .gtr 10 0,Zm 12 11,Zg 13 (.mv 0) 12 true,Zg 14 (.nilc 13) 12 true,Zg 15 (.fad 0 14) 12 true,Zg 16 (.load 2 true 15) 12 true,Zg 17 (.load 2 true 3) 12 true,Zg 18 (.mv 0) 12 true,Zg 19 (.nilc 18) 12 true,Zg 20 (.fad 3 19) 12 true,Zg 21 (.load 1 false 20) 12 true,Zg 22 (.mv 4) 12 true,Zg 23 (.bin .sub 22 (.c (.i 1))) 12 true,Zg 24 (.idx 2 21 23) 12 true,Zg 25 (.load 2 true 24) 12 true,Zg 26 (.call 274 [16,17,25]) 12 true,Zg 27 (.bin .lss 26 (.c (.i 0))) 12 true,Zo 28 (.pick 12 27 (Zy false))] []) (.cond 28 .skip (.exit 0))) (.blk 1 (.reg [Zm 29 4,Zd 30 .sub 29 1,Zm 4 30] [])))
def zH:ar:=(.drw [Zm 31 0,Zo 32 (.bsl 2 true []),Zm 33 0,Zo 34 (.nilc 33),Za 35 3 34,Zl 36 35,Zm 37 4,Zo 38 (.slc 2 36 none (some 37) none),Zo 39 (.app 2 32 false 32 38),Zv 40 2 3,Zo 41 (.bsl 2 true [40]),Zo 42 (.app 2 32 true 39 41),Zm 43 0,Zo 44 (.nilc 43),Za 45 3 44,Zl 46 45,Zm 47 4,Zo 48 (.slc 2 46 (some 47) none none),Zo 49 (.app 2 32 false 42 48),Zo 50 (.nilc 31),Za 51 3 50,Zw (.store 1 51 49)] [])
def Kw:ar:=(Zs [Zo 3 (.box 2 1)] (Zs [Zm 5 0,Zo 6 (.nilc 5),Za 7 3 6,Zl 8 7,Zk 9 8,Zm 4 9] (.seqr (.blk 0 (.loop sd)) [0,3,4] [3,1000000000,1000000001] zH)))
def bP:List RV:=[]
def aeb:aU A1 261 2 Kw bP=true:=by kernel_rfl
def sI:ar:=(.seq (.seq (.drw [Zm 10 4,Zd 11 .gtr 10 0,Zm 12 11,Zg 13 (.mv 0) 12 true,Zg 14 (.nilc 13) 12 true,Zg 15 (.fad 0 14) 12 true,Zg 16 (.load 2 true 15) 12 true,Zg 17 (.load 2 true 3) 12 true,Zg 18 (.mv 0) 12 true,Zg 19 (.nilc 18) 12 true,Zg 20 (.fad 3 19) 12 true,Zg 21 (.load 1 false 20) 12 true,Zg 22 (.mv 4) 12 true,Zg 23 (.bin .sub 22 (.c (.i 1))) 12 true,Zg 24 (.idx 2 21 23) 12 true,Zg 25 (.load 2 true 24) 12 true,Zg 26 (.call 274 [16,17,25]) 12 true,Zg 27 (.bin .lss 26 (.c (.i 0))) 12 true,Zo 28 (.pick 12 27 (Zy false))] []) (.cond 28 .skip (.exit 0))) (.blk 1 (.reg [Zm 29 4,Zd 30 .sub 29 1,Zm 4 30] [])))
def xE:ar:=(.drw [Zm 31 0,Zo 32 (.bsl 2 true []),Zm 33 0,Zo 34 (.nilc 33),Za 35 3 34,Zl 36 35,Zm 37 4,Zo 38 (.slc 2 36 none (some 37) none),Zo 39 (.app 2 32 false 32 38),Zv 40 2 3,Zo 41 (.bsl 2 true [40]),Zo 42 (.app 2 32 true 39 41),Zm 43 0,Zo 44 (.nilc 43),Za 45 3 44,Zl 46 45,Zm 47 4,Zo 48 (.slc 2 46 (some 47) none none),Zo 49 (.app 2 32 false 42 48),Zo 50 (.nilc 31),Za 51 3 50,Zw (.store 1 51 49)] [])
def LT:ar:=(Zs [Zo 3 (.box 2 1)] (Zs [Zm 5 0,Zo 6 (.nilc 5),Za 7 3 6,Zl 8 7,Zk 9 8,Zm 4 9] (.seqr (.blk 0 (.loop sI)) [0,3,4] [3,1000000000,1000000001] xE)))
def Zc:aU A1 261 2 LT bP=true:=by kernel_rfl
def uP:ar:=(.cond 39 .skip (.exit 0))
def tR:ar:=(.cond 56 (.drw [Zm 57 0,Zo 58 (.fdv [65,71,470000003,1000000000] 0 4),Zo 59 (.ldv [65,71,470000003,1000000000] 1 false 58),Zo 60 (.fdv [65,71,470000003,1000000000] 1 4),Zo 61 (.ldv [65,71,470000003,1000000000] 1 false 60),Zo 62 (.call 107 [61]),Zm 63 7,Zo 64 (.bsl 1 true [63]),Zo 65 (.app 1 8 true 62 64),Zo 66 (.build [.i 0,.lst .u 1 []] [(0,1,59),(1,1,65)]),Zm 67 2,Zo 68 (.call 107 [67]),Zm 69 8,Zo 70 (.bsl 1 true [69]),Zo 71 (.app 1 8 true 68 70),Zo 72 (.callM 240 [57,66,71] [1000000000,470000003,65,71])] [.f true 470000003 1000000000 3]) .skip)
def nO:ar:=(.seq (.seqr (.reg [Zm 24 7,Zm 25 0,Zo 26 (.nilc 25),Za 27 0 26,Za 28 1 27,Zl 29 28,Zk 30 29,Zb 31 .lss 24 30,Zm 32 31,Zg 33 (.mv 0) 32 true,Zg 34 (.nilc 33) 32 true,Zg 35 (.fad 3 34) 32 true,Zg 36 (.load 1 false 35) 32 true,Zg 37 (.len 36) 32 true,Zg 38 (.bin .leq 37 (.c (.i 200))) 32 true,Zo 39 (.pick 32 38 (Zy false))] []) [0,2,4,6,7,39] [4,470000003,1000000000,1000000003] uP) (.seq (.blk 1 (Zs [Zm 42 0,Zo 43 (.nilc 42),Za 44 0 43,Zv 45 2 44,Zm 46 7,Zm 47 6,Zo 48 (.call 233 [45,46,47]),Zm 8 48] (.seqr (.reg [Zm 49 8,Zd 50 .geq 49 0,Zm 51 50,Zg 52 (.mv 2) 51 true,Zg 53 (.mv 8) 51 true,Zg 54 (.call 74 [52,53]) 51 true,Zg 55 (.un .not 54) 51 true,Zo 56 (.pick 51 55 (Zy false))] []) [0,2,4,6,7,8,56] [4,470000003,1000000000,1000000003] tR))) (.reg [Zm 40 7,Zd 41 .add 40 1,Zm 7 41] [])))
def DW:ar:=(.seq (.reg [Zo 4 (.box 2 1)] [.w 4,.f true 470000003 1000000000 3,.f true 500000257 4 1]) (Zs [Zm 9 2,Zm 10 2,Zk 11 10,Zd 12 .sub 11 1,Zx 13 1 9 12,Zl 14 13,Zm 6 14] (.seq (Zs [Zm 15 6,Zm 16 0,Zo 17 (.nilc 16),Za 18 2 17,Zl 19 18,Zb 20 .eql 15 19] (.cond 20 (.seq (.reg [Zm 21 0,Zv 22 2 4,Zo 23 (.callM 261 [21,22] [1000000000,470000003])] [.f true 470000003 1000000000 3]) .ret) .skip)) (Zs [Zn 7 0] (.blk 0 (.loop nO))))))
def Sz:aU A1 240 3 DW bP=true:=by kernel_rfl
def xq:ar:=(.cond 39 .skip (.exit 0))
def zL:ar:=(.cond 56 (.drw [Zm 57 0,Zo 58 (.fdv [65,71,470000003,1000000000] 0 4),Zo 59 (.ldv [65,71,470000003,1000000000] 1 false 58),Zo 60 (.fdv [65,71,470000003,1000000000] 1 4),Zo 61 (.ldv [65,71,470000003,1000000000] 1 false 60),Zo 62 (.call 107 [61]),Zm 63 7,Zo 64 (.bsl 1 true [63]),Zo 65 (.app 1 8 true 62 64),Zo 66 (.build [.i 0,.lst .u 1 []] [(0,1,59),(1,1,65)]),Zm 67 2,Zo 68 (.call 107 [67]),Zm 69 8,Zo 70 (.bsl 1 true [69]),Zo 71 (.app 1 8 true 68 70),Zo 72 (.callM 240 [57,66,71] [1000000000,470000003,65,71])] [.f true 470000003 1000000000 3]) .skip)
def rS:ar:=(.seq (.seqr (.reg [Zm 24 7,Zm 25 0,Zo 26 (.nilc 25),Za 27 0 26,Za 28 1 27,Zl 29 28,Zk 30 29,Zb 31 .lss 24 30,Zm 32 31,Zg 33 (.mv 0) 32 true,Zg 34 (.nilc 33) 32 true,Zg 35 (.fad 3 34) 32 true,Zg 36 (.load 1 false 35) 32 true,Zg 37 (.len 36) 32 true,Zg 38 (.bin .leq 37 (.c (.i 200))) 32 true,Zo 39 (.pick 32 38 (Zy false))] []) [0,2,4,6,7,39] [4,470000003,1000000000,1000000001] xq) (.seq (.blk 1 (Zs [Zm 42 0,Zo 43 (.nilc 42),Za 44 0 43,Zv 45 2 44,Zm 46 7,Zm 47 6,Zo 48 (.call 233 [45,46,47]),Zm 8 48] (.seqr (.reg [Zm 49 8,Zd 50 .geq 49 0,Zm 51 50,Zg 52 (.mv 2) 51 true,Zg 53 (.mv 8) 51 true,Zg 54 (.call 74 [52,53]) 51 true,Zg 55 (.un .not 54) 51 true,Zo 56 (.pick 51 55 (Zy false))] []) [0,2,4,6,7,8,56] [4,470000003,1000000000,1000000001] zL))) (.reg [Zm 40 7,Zd 41 .add 40 1,Zm 7 41] [])))
def Rg:ar:=(.seq (.reg [Zo 4 (.box 2 1)] [.w 4,.f true 470000003 1000000000 3]) (Zs [Zm 9 2,Zm 10 2,Zk 11 10,Zd 12 .sub 11 1,Zx 13 1 9 12,Zl 14 13,Zm 6 14] (.seq (Zs [Zm 15 6,Zm 16 0,Zo 17 (.nilc 16),Za 18 2 17,Zl 19 18,Zb 20 .eql 15 19] (.cond 20 (.seq (.reg [Zm 21 0,Zv 22 2 4,Zo 23 (.callM 261 [21,22] [1000000000,470000003])] [.f true 470000003 1000000000 3]) .ret) .skip)) (Zs [Zn 7 0] (.blk 0 (.loop rS))))))
def acu:aU A1 240 3 Rg bP=true:=by kernel_rfl
def Kt:ar:=(.seq (.reg [Zo 3 (.box 2 0),Zo 6 (.mv (.c (.lst .u 2 []))),Zh 7 false] [.s 6]) (Zs [Zv 9 2 3,Zm 10 2,Zo 11 (.build [.lst .u 1 [],.lst .u 4 [],.i 0,.lst .u 2 []] [(0,2,9),(2,1,10)]),Zo 12 (.box 4 11),Zm 8 12] (Zs [Zm 13 8,Zm 14 1,Zo 15 (.build [.i 0,.lst .u 1 []] [(0,1,14)]),Zm 16 1,Zo 17 (.bsl 1 false [16]),Zo 18 (.callM 240 [13,15,17] [12,17])] (.seq (Zs [Zm 19 8,Zo 20 (.nilc 19),Za 21 3 20,Zl 22 21,Zk 23 22,Zd 24 .gtr 23 200] (.cond 24 (.seq (.reg [Zo 25 (.bsl 2 false []),Zm 6 25,Zh 7 false] [.s 6]) .ret) .skip)) (.seq (.reg [Zo 26 (.bsl 2 false []),Zm 27 8,Zo 28 (.nilc 27),Za 29 3 28,Zl 30 29,Zo 31 (.app 2 32 false 26 30),Zm 6 31,Zh 7 true] [.s 6]) .ret)))))
def aaj:aU A1 218 3 Kt io=true:=by kernel_rfl
def qf:ar:=(.seq (Zs [Zm 30 13,Zm 31 11,Zk 32 31,Zb 33 .lss 30 32] (.cond 33 .skip (.exit 0))) (.seq (.blk 1 (.seq (.drw [Zm 36 1,Zv 37 2 3,Zm 38 11,Zm 39 13,Zx 40 2 38 39,Zv 41 2 40,Zo 42 (.call 91 [37,41]),Za 43 2 5,Zl 44 43,Zo 45 (.call 90 [36,42,44]),Zm 14 45] []) (Zs [Zm 46 14,Zd 47 .gtr 46 0] (.cond 47 (.seq (.reg [Zm 48 9,Zm 49 11,Zm 50 13,Zx 51 2 49 50,Zv 52 2 51,Zo 53 (.bsl 2 false [52]),Zo 54 (.app 2 32 true 48 53),Zm 9 54] [.s 9]) (.reg [Zm 55 10,Zm 56 14,Zo 57 (.bsl 1 false [56]),Zo 58 (.app 1 8 true 55 57),Zm 10 58] [.s 10])) .skip)))) (.reg [Zm 34 13,Zd 35 .add 34 1,Zm 13 35] [])))
def xh:ar:=(.seq (.reg [Zm 59 9,Zm 60 10,Zm 6 59,Zm 7 60,Zh 8 true] [.s 6,.s 7]) .ret)
def Qs:ar:=(.seq (.reg [Zo 3 (.box 2 0),Zo 5 (.box 4 2),Zo 6 (.mv (.c (.lst .u 2 []))),Zo 7 (.mv (.c (.lst .u 1 []))),Zh 8 false] [.s 6,.s 7,.w 3,.w 3]) (.seq (.reg [Zo 15 (.bsl 2 false []),Zo 16 (.bsl 1 false []),Zm 9 15,Zm 10 16] [.s 9,.s 10]) (.seq (.reg [Zv 18 2 3,Za 19 0 5,Zl 20 19,Za 21 1 5,Zl 22 21,Zo 23 (.callM 218 [18,20,22] []),Zm 17 23,Ze 24 17 0,Ze 25 17 1,Zm 11 24,Zm 12 25] [.s 11]) (.seq (Zs [Zm 26 12,Zo 27 (.un .not 26)] (.cond 27 (.seq (.reg [Zm 28 9,Zm 29 10,Zm 6 28,Zm 7 29,Zh 8 false] [.s 6,.s 7]) .ret) .skip)) (.seqa (.reg [Zn 13 0] []) (.blk 0 (.loop qf)) [9,10] [9,10,1000000000] xh)))))
def fd:List RV:=[.t 6,.t 7,.t 8]
def YT:aU A1 184 3 Qs fd=true:=by kernel_rfl
def zw:ar:=(.cond 22 (.seq (.reg [Zo 23 (.bsl 2 false []),Zo 24 (.bsl 1 false []),Zm 6 23,Zm 7 24,Zh 8 false] [.s 6,.s 7]) .ret) .skip)
def PX:ar:=(.seq (.reg [Zo 3 (.box 2 0),Zo 5 (.box 4 2),Zo 6 (.mv (.c (.lst .u 2 []))),Zo 7 (.mv (.c (.lst .u 1 []))),Zh 8 false] [.s 6,.s 7]) (.seq (.seqr (.reg [Zv 9 2 3,Zo 10 (.call 131 [9]),Zo 11 (.un .not 10),Zm 12 11,Zg 13 (.mv 1) 12 false,Zg 14 (.call 182 [13]) 12 false,Zg 15 (.un .not 14) 12 false,Zo 16 (.pick 12 (Zy true) 15),Zm 17 16,Zg 18 (.load 2 true 3) 17 false,Zg 19 (.load 4 true 5) 17 false,Zg 20 (.call 183 [18,19]) 17 false,Zg 21 (.un .not 20) 17 false,Zo 22 (.pick 17 (Zy true) 21)] []) [1,3,5,22] [3,5,1000000000] zw) (.seq (.reg [Zv 25 2 3,Zm 26 1,Zv 27 4 5,Zo 28 (.callM 184 [25,26,27] [1000000000]),Ze 29 28 0,Ze 30 28 1,Ze 31 28 2,Zm 6 29,Zm 7 30,Zm 8 31] [.s 6,.s 7]) .ret)))
def aaq:aU A1 121 3 PX fd=true:=by kernel_rfl
def DC:ar:=(.cond 29 (.seq (.reg [Zo 30 (.build [.i 0,.lst .u 1 []] []),Zw (.store 2 6 30),Zn 7 0,Zh 8 false] [.w 6]) .ret) .skip)
def Yw:ar:=(Zs [Zo 3 (.box 2 0),Zo 5 (.box 4 2),Zo 6 (.alloc (.agg [.i 0,.lst .u 1 []])),Zn 7 0,Zh 8 false] (.seq (.reg [Zv 14 2 3,Zm 15 1,Zv 16 4 5,Zo 17 (.callM 121 [14,15,16] [1000000000]),Zm 13 17,Ze 18 13 0,Ze 19 13 1,Ze 20 13 2,Zm 9 18,Zm 10 19,Zm 11 20] [.s 9,.s 10]) (Zs [Zm 21 9,Zm 22 10,Zo 23 (.call 164 [21,22]),Zm 12 23] (.seq (.seqr (.reg [Zm 24 11,Zo 25 (.un .not 24),Zm 26 25,Zg 27 (.mv 12) 26 false,Zg 28 (.bin .lss 27 (.c (.i 0))) 26 false,Zo 29 (.pick 26 (Zy true) 28)] []) [6,9,10,12,29] [6,9,10,1000000000] DC) (.seq (.drw [Zm 31 9,Zm 32 12,Zx 33 2 31 32,Zv 34 2 33,Zm 35 10,Zm 36 12,Zo 37 (.idv [6] 1 35 36),Zo 38 (.lde [6] 1 false 37),Zw (.stw 6 2 6 34),Zm 7 38,Zh 8 true] [.w 6]) .ret)))))
def Dv:List RV:=[.c 6 2 true,.t 7,.t 8]
def ael:aU A1 89 3 Yw Dv=true:=by kernel_rfl
def qD:ar:=(.seq (Zs [Zm 30 13,Zm 31 11,Zk 32 31,Zb 33 .lss 30 32] (.cond 33 .skip (.exit 0))) (.seq (.blk 1 (.seq (.drw [Zm 36 1,Zv 37 2 3,Zm 38 11,Zm 39 13,Zx 40 2 38 39,Zv 41 2 40,Zo 42 (.call 91 [37,41]),Za 43 2 5,Zl 44 43,Zo 45 (.call 90 [36,42,44]),Zm 14 45] []) (Zs [Zm 46 14,Zd 47 .gtr 46 0] (.cond 47 (.seq (.reg [Zm 48 9,Zm 49 11,Zm 50 13,Zx 51 2 49 50,Zv 52 2 51,Zo 53 (.bsl 2 false [52]),Zo 54 (.app 2 32 true 48 53),Zm 9 54] [.s 9]) (.reg [Zm 55 10,Zm 56 14,Zo 57 (.bsl 1 false [56]),Zo 58 (.app 1 8 true 55 57),Zm 10 58] [.s 10])) .skip)))) (.reg [Zm 34 13,Zd 35 .add 34 1,Zm 13 35] [])))
def yT:ar:=(.seq (.reg [Zm 59 9,Zm 60 10,Zm 6 59,Zm 7 60,Zh 8 true] [.s 6,.s 7]) .ret)
def Mx:ar:=(.seq (.reg [Zo 3 (.box 2 0),Zo 5 (.box 4 2),Zo 6 (.mv (.c (.lst .u 2 []))),Zo 7 (.mv (.c (.lst .u 1 []))),Zh 8 false] [.s 6,.s 7,.w 3,.w 3]) (.seq (.reg [Zo 15 (.bsl 2 false []),Zo 16 (.bsl 1 false []),Zm 9 15,Zm 10 16] [.s 9,.s 10]) (.seq (.reg [Zv 18 2 3,Za 19 0 5,Zl 20 19,Za 21 1 5,Zl 22 21,Zo 23 (.callM 218 [18,20,22] []),Zm 17 23,Ze 24 17 0,Ze 25 17 1,Zm 11 24,Zm 12 25] [.s 11]) (.seq (Zs [Zm 26 12,Zo 27 (.un .not 26)] (.cond 27 (.seq (.reg [Zm 28 9,Zm 29 10,Zm 6 28,Zm 7 29,Zh 8 false] [.s 6,.s 7]) .ret) .skip)) (.seqa (.reg [Zn 13 0] []) (.blk 0 (.loop qD)) [9,10] [9,10,1000000000] yT)))))
def adi:aU A1 184 3 Mx fd=true:=by kernel_rfl
def zM:ar:=(.cond 22 (.seq (.reg [Zo 23 (.bsl 2 false []),Zo 24 (.bsl 1 false []),Zm 6 23,Zm 7 24,Zh 8 false] [.s 6,.s 7]) .ret) .skip)
def ND:ar:=(.seq (.reg [Zo 3 (.box 2 0),Zo 5 (.box 4 2),Zo 6 (.mv (.c (.lst .u 2 []))),Zo 7 (.mv (.c (.lst .u 1 []))),Zh 8 false] [.s 6,.s 7]) (.seq (.seqr (.reg [Zv 9 2 3,Zo 10 (.call 131 [9]),Zo 11 (.un .not 10),Zm 12 11,Zg 13 (.mv 1) 12 false,Zg 14 (.call 182 [13]) 12 false,Zg 15 (.un .not 14) 12 false,Zo 16 (.pick 12 (Zy true) 15),Zm 17 16,Zg 18 (.load 2 true 3) 17 false,Zg 19 (.load 4 true 5) 17 false,Zg 20 (.call 183 [18,19]) 17 false,Zg 21 (.un .not 20) 17 false,Zo 22 (.pick 17 (Zy true) 21)] []) [1,3,5,22] [3,5,1000000000] zM) (.seq (.reg [Zv 25 2 3,Zm 26 1,Zv 27 4 5,Zo 28 (.callM 184 [25,26,27] [1000000000]),Ze 29 28 0,Ze 30 28 1,Ze 31 28 2,Zm 6 29,Zm 7 30,Zm 8 31] [.s 6,.s 7]) .ret)))
def YL:aU A1 121 3 ND fd=true:=by kernel_rfl
def Yf:ar:=(Zs [Zo 3 (.box 2 0),Zo 5 (.box 4 2),Zo 6 (.alloc (.agg [.i 0,.lst .u 1 []])),Zo 7 (.alloc (.agg [.i 0,.lst .u 1 []])),Zh 8 false] (.seq (.reg [Zv 15 2 3,Zm 16 1,Zv 17 4 5,Zo 18 (.callM 121 [15,16,17] [1000000000]),Zm 14 18,Ze 19 14 0,Ze 20 14 1,Ze 21 14 2,Zm 9 19,Zm 10 20,Zm 11 21] [.s 9,.s 10]) (.seq (Zs [Zm 22 11,Zo 23 (.un .not 22)] (.cond 23 (.seq (.reg [Zo 24 (.build [.i 0,.lst .u 1 []] []),Zo 25 (.build [.i 0,.lst .u 1 []] []),Zw (.store 2 6 24),Zw (.store 2 7 25),Zh 8 false] [.w 6,.w 7]) .ret) .skip)) (Zs [Zv 27 2 3,Zm 28 9,Zm 29 10,Zo 30 (.call 122 [27,28,29]),Zm 26 30,Ze 31 26 0,Ze 32 26 1,Zm 12 31,Zm 13 32] (.seq (Zs [Zm 33 12,Zd 34 .lss 33 0] (.cond 34 (.seq (.reg [Zo 35 (.build [.i 0,.lst .u 1 []] []),Zo 36 (.build [.i 0,.lst .u 1 []] []),Zw (.store 2 6 35),Zw (.store 2 7 36),Zh 8 false] [.w 6,.w 7]) .ret) .skip)) (.seq (.drw [Zm 37 9,Zm 38 12,Zx 39 2 37 38,Zv 40 2 39,Zm 41 9,Zm 42 13,Zo 43 (.idv [6] 2 41 42),Zo 44 (.lde [6] 2 true 43),Zw (.stw 6 2 6 40),Zw (.stv 2 7 44),Zh 8 true] [.w 6,.w 7]) .ret))))))
def zg:List RV:=[.c 6 2 true,.c 7 2 true,.t 8]
def agt:aU A1 44 3 Yf zg=true:=by kernel_rfl
def vU:ar:=(.seq (.blk 1 (.seq (Zs [Zm 20 13,Zm 21 3,Zb 22 .add 20 21,Zd 23 .gtr 22 24] (.cond 23 (Zs [Zv 24 10 7,Zw (.store 10 10 24),Zh 11 false] .ret) .skip)) (Zs [Zm 25 13,Zm 26 3,Zo 27 (.build [.i 0,.i 0] [(0,1,25),(1,1,26)]),Za 28 4 12,Zw (.store 2 28 27)] (Zs [Zv 29 2 5,Zm 30 1,Zv 31 10 12,Zo 32 (.call 166 [29,30,31])] (.cond 32 (.exit 0) .skip))))) (.reg [Zm 18 13,Zd 19 .add 18 1,Zm 13 19] []))
def wQ:ar:=(.seq (Zs [Zm 40 14,Zm 41 4,Zb 42 .add 40 41,Zd 43 .leq 42 24] (.cond 43 .skip (.exit 2))) (.seq (.blk 3 (Zs [Zm 46 14,Zm 47 4,Zo 48 (.build [.i 0,.i 0] [(0,1,46),(1,1,47)]),Za 49 8 7,Zw (.store 2 49 48)] (Zs [Zv 50 2 5,Zm 51 1,Zv 52 10 7,Zo 53 (.call 166 [50,51,52])] (.cond 53 (Zs [Zv 54 10 7,Zw (.store 10 10 54),Zh 11 true] .ret) .skip)))) (.reg [Zm 44 14,Zd 45 .add 44 1,Zm 14 45] [])))
def Fw:ar:=(Zs [Zv 55 10 7,Zw (.store 10 10 55),Zh 11 false] .ret)
def EK:ar:=(Zs [Za 33 4 12,Zv 34 2 33,Za 35 4 7,Zw (.store 2 35 34)] (.seq (Zs [Za 36 1 7,Zl 37 36,Zd 38 .eql 37 0] (.cond 38 (Zs [Zv 39 10 7,Zw (.store 10 10 39),Zh 11 true] .ret) .skip)) (.seqa (.reg [Zn 14 0] []) (.blk 2 (.loop wQ)) [7,10] [7,10,1000000000] Fw)))
def Xr:ar:=(Zs [Zo 5 (.box 2 0),Zo 7 (.box 10 2),Zo 10 (.alloc (.agg [.i 0,.i 0,.i 0,.lst .u 1 [],.i 0,.i 0,.i 0,.lst .u 1 [],.i 0,.i 0])),Zh 11 false] (Zs [Za 15 2 7,Zv 16 2 15,Zo 17 (.build [.i 0,.i 0,.i 0,.lst .u 1 [],.i 0,.i 0,.i 0,.lst .u 1 [],.i 0,.i 0] [(1,1,(.c (.i 0))),(2,2,16)]),Zo 12 (.alloc (.agg [.i 0,.i 0,.i 0,.lst .u 1 [],.i 0,.i 0,.i 0,.lst .u 1 [],.i 0,.i 0])),Zw (.store 10 12 17)] (.seqa (.reg [Zn 13 0] []) (.blk 0 (.loop vU)) [1,4,5,7,10,12] [5,7,10,12,1000000000] EK)))
def oT:List RV:=[.c 10 10 true,.t 11]
def aey:aU A1 92 5 Xr oT=true:=by kernel_rfl
def A214:ar:=(Zs [Zo 1 (.box 2 0),Zo 2 (.alloc (.agg [.i 0,.lst .u 1 []]))] (.seq (.drw [Za 3 0 1,Zl 4 3,Za 5 1 1,Zl 6 5,Zo 7 (.call 107 [6]),Zo 8 (.build [.i 0,.lst .u 1 []] [(0,1,4),(1,1,7)]),Zw (.store 2 2 8)] []) .ret))
def m214:aU A1 214 1 A214 V32=true:=by kernel_rfl
def A167:ar:=(Zs [Zo 1 (.box 10 0),Zo 2 (.alloc (.agg [.i 0,.i 0,.i 0,.lst .u 1 [],.i 0,.i 0,.i 0,.lst .u 1 [],.i 0,.i 0]))] (Zs [Za 3 2 1,Zv 4 2 3,Zo 5 (.call 214 [4]),Za 6 2 1,Zw (.store 2 6 5)] (Zs [Za 7 6 1,Zv 8 2 7,Zo 9 (.call 214 [8]),Za 10 6 1,Zw (.store 2 10 9)] (Zs [Zv 11 10 1,Zw (.store 10 2 11)] .ret))))
def m167:aU A1 167 1 A167 Ic=true:=by kernel_rfl
def Yh:ar:=(.cond 21 .skip (.exit 0))
def NQ:ar:=(.seq (.seqr (.drw [Zm 8 6,Zm 9 0,Zk 10 9,Zb 11 .lss 8 10,Zm 12 11,Zg 13 (.mv 0) 12 true,Zg 14 (.mv 6) 12 true,Zg 15 (.idx 10 13 14) 12 true,Zg 16 (.fad 0 15) 12 true,Zg 17 (.load 1 false 16) 12 true,Zg 18 (.fad 0 3) 12 true,Zg 19 (.load 1 false 18) 12 true,Zg 20 (.bin .lss 17 19) 12 true,Zo 21 (.pick 12 20 (Zy false))] []) [0,3,5,6,21] [3,5] Yh) (.seq (.blk 1 (.reg [Zm 24 5,Zm 25 0,Zm 26 6,Zx 27 10 25 26,Zv 28 10 27,Zo 29 (.call 167 [28]),Zo 30 (.bsl 10 false [29]),Zo 31 (.app 10 112 true 24 30),Zm 5 31] [.s 5])) (.reg [Zm 22 6,Zd 23 .add 22 1,Zm 6 23] [])))
def Nc:ar:=(.seq (Zs [Zm 37 6,Zm 38 0,Zk 39 38,Zb 40 .lss 37 39] (.cond 40 .skip (.exit 2))) (.seq (.blk 3 (.reg [Zm 43 5,Zm 44 0,Zm 45 6,Zx 46 10 44 45,Zv 47 10 46,Zo 48 (.call 167 [47]),Zo 49 (.bsl 10 false [48]),Zo 50 (.app 10 112 true 43 49),Zm 5 50] [.s 5])) (.reg [Zm 41 6,Zd 42 .add 41 1,Zm 6 42] [])))
def XO:ar:=(.seq (.reg [Zm 51 5,Zm 4 51] [.s 4]) .ret)
def Yr:ar:=(.seq (.reg [Zm 32 5,Zv 33 10 3,Zo 34 (.call 167 [33]),Zo 35 (.bsl 10 false [34]),Zo 36 (.app 10 112 true 32 35),Zm 5 36] [.s 5]) (.seqr (.blk 2 (.loop Nc)) [5] [5] XO))
def A93:ar:=(.seq (.reg [Zo 3 (.box 10 1),Zo 4 (.mv (.c (.lst .u 10 [])))] [.s 4]) (.seq (.reg [Zo 7 (.bsl 10 false []),Zm 5 7] [.s 5]) (Zs [Zn 6 0] (.seqr (.blk 0 (.loop NQ)) [0,3,5,6] [3,5] Yr))))
def m93:aU A1 93 2 A93 aO=true:=by kernel_rfl
def DA:ar:=(.cond 32 (.seq (.reg [Zm 33 11,Zm 8 33,Zn 9 0,Zh 10 false] [.s 8]) .ret) .skip)
def Dz:ar:=(.cond 50 .skip (.exit 0))
def wS:ar:=(.seq (.seqr (.drw [Zm 37 13,Zm 38 2,Zk 39 38,Zb 40 .lss 37 39,Zm 41 40,Zg 42 (.mv 2) 41 true,Zg 43 (.mv 13) 41 true,Zg 44 (.idx 10 42 43) 41 true,Zg 45 (.fad 0 44) 41 true,Zg 46 (.load 1 false 45) 41 true,Zg 47 (.fad 0 12) 41 true,Zg 48 (.load 1 false 47) 41 true,Zg 49 (.bin .eql 46 48) 41 true,Zo 50 (.pick 41 49 (Zy false))] []) [1,2,4,7,11,12,13,50] [4,7,11,12,1000000002,1000000003] Dz) (.seq (.blk 1 (.reg [Za 53 0 12,Zl 54 53,Zd 55 .add 54 1,Za 56 0 12,Zw (.store 1 56 55)] [])) (.reg [Zm 51 13,Zd 52 .add 51 1,Zm 13 52] [])))
def Fg:ar:=(.seq (.reg [Zv 94 2 14,Za 95 2 12,Zw (.store 2 95 94)] [.w 12]) (.seq (.drw [Zv 97 2 4,Zm 98 2,Zv 99 10 12,Zm 100 1,Zv 101 2 4,Zv 102 2 14,Zo 103 (.call 91 [101,102]),Za 104 2 7,Zl 105 104,Zo 106 (.call 90 [100,103,105]),Zm 107 17,Zo 108 (.callM 92 [97,98,99,106,107] [1000000003]),Zm 96 108,Ze 109 96 0,Ze 110 96 1,Zo 21 (.alloc (.agg [.i 0,.i 0,.i 0,.lst .u 1 [],.i 0,.i 0,.i 0,.lst .u 1 [],.i 0,.i 0])),Zw (.store 10 21 109),Zm 22 110] []) (.seq (Zs [Zm 111 22,Zo 112 (.un .not 111)] (.cond 112 (.seq (.reg [Zm 113 11,Zm 8 113,Zn 9 0,Zh 10 false] [.s 8]) .ret) .skip)) (.seq (.drw [Zm 114 2,Zv 115 10 21,Zo 116 (.call 93 [114,115]),Za 117 0 21,Zl 118 117,Zm 8 116,Zm 9 118,Zh 10 true] [.s 8]) .ret))))
def DH:ar:=(.seq (Zs [Zm 80 16,Zo 81 (.un .not 80)] (.cond 81 (.seq (.reg [Zm 82 11,Zm 8 82,Zn 9 0,Zh 10 false] [.s 8]) .ret) .skip)) (.seqr (Zs [Za 83 3 7,Zl 84 83,Zd 85 .neq 84 0] (.cond 85 (.drw [Zm 86 1,Zv 87 2 4,Za 88 6 12,Zv 89 2 88,Zo 90 (.call 91 [87,89]),Za 91 2 7,Zl 92 91,Zo 93 (.call 90 [86,90,92]),Zm 17 93] []) .skip)) [1,2,4,7,11,12,14,17] [4,7,11,12,14,1000000002,1000000003] Fg))
def Eg:ar:=(Zs [Zv 58 2 4,Zm 59 1,Zv 60 4 7,Zo 61 (.callM 89 [58,59,60] [1000000002]),Zm 57 61,Ze 62 57 0,Ze 63 57 1,Ze 64 57 2,Zo 14 (.alloc (.agg [.i 0,.lst .u 1 []])),Zw (.store 2 14 62),Zm 15 63,Zm 16 64] (Zs [Zn 17 0] (.seqr (Zs [Za 65 3 7,Zl 66 65,Zd 67 .neq 66 0] (.cond 67 (Zs [Zv 69 2 4,Zm 70 1,Zv 71 4 7,Zo 72 (.callM 44 [69,70,71] [1000000002]),Zm 68 72,Ze 73 68 0,Ze 74 68 1,Ze 75 68 2,Zo 18 (.alloc (.agg [.i 0,.lst .u 1 []])),Zo 19 (.alloc (.agg [.i 0,.lst .u 1 []])),Zw (.store 2 18 73),Zw (.store 2 19 74),Zm 20 75] (Zs [Zv 76 2 18,Zw (.store 2 14 76)] (Zs [Zm 77 20,Zm 16 77] (.reg [Zv 78 2 19,Za 79 6 12,Zw (.store 2 79 78)] [.w 12])))) .skip)) [1,2,4,7,11,12,14,16,17] [4,7,11,12,14,1000000002,1000000003] DH)))
def XH:ar:=(.seq (.reg [Zo 4 (.box 2 0),Zo 7 (.box 4 3),Zo 8 (.mv (.c (.lst .u 10 []))),Zn 9 0,Zh 10 false] [.s 8,.w 4,.w 4]) (.seq (.reg [Zo 23 (.bsl 10 false []),Zm 11 23] [.s 11]) (.seq (.seqr (.reg [Zv 24 2 4,Zm 25 2,Zo 26 (.call 88 [24,25]),Zo 27 (.un .not 26),Zm 28 27,Zg 29 (.mv 2) 28 false,Zg 30 (.len 29) 28 false,Zg 31 (.bin .eql 30 (.c (.i 8))) 28 false,Zo 32 (.pick 28 (Zy true) 31)] []) [1,2,4,7,11,32] [4,7,11,1000000002,1000000003] DA) (.seq (.reg [Za 34 3 7,Zl 35 34,Zo 36 (.build [.i 0,.i 0,.i 0,.lst .u 1 [],.i 0,.i 0,.i 0,.lst .u 1 [],.i 0,.i 0] [(0,1,(.c (.i 1))),(1,1,35)]),Zo 12 (.alloc (.agg [.i 0,.i 0,.i 0,.lst .u 1 [],.i 0,.i 0,.i 0,.lst .u 1 [],.i 0,.i 0])),Zw (.store 10 12 36)] [.w 12,.w 12]) (.seqa (.reg [Zn 13 0] []) (.blk 0 (.loop wS)) [1,2,4,7,11,12] [4,7,11,12,1000000002,1000000003] Eg)))))
def oB:List RV:=[.t 8,.t 9,.t 10]
def aer:aU A1 23 4 XH oB=true:=by kernel_rfl
def A76:ar:=(Zs [Zh 6 false] (Zs [Zm 7 1,Zm 8 0,Zb 9 .leq 7 8,Zm 10 9,Zg 11 (.mv 0) 10 true,Zg 12 (.mv 2) 10 true,Zg 13 (.bin .leq 11 12) 10 true,Zo 14 (.pick 10 13 (Zy false)),Zm 6 14] .ret))
def m76:aU A1 76 3 A76 dx=true:=by kernel_rfl
def ML:ar:=(Zs [Zm 31 4,Zo 32 (.un .not 31),Zm 33 32,Zg 34 (.mv 5) 33 true,Zg 35 (.un .not 34) 33 true,Zg 36 (.mv 35) 33 true,Zg 37 (.mv 3) 36 false,Zg 38 (.bin .eql 37 (.c (.i 0))) 36 false,Zg 39 (.pick 36 (Zy true) 38) 33 true,Zo 40 (.pick 33 39 (Zy false))] (.cond 40 (Zs [Zh 2 false] .ret) .skip))
def wF:ar:=(Zs [Zb 9 .lss 8 7] (.seq (.cond 9 .skip (.exit 0)) (.seq (.blk 1 (Zs [Zm 10 8,Zm 3 10] (.seqr (.drw [Zm 11 0,Zm 12 3,Zo 13 (.stri 11 12),Zo 14 (.bin .geq 13 (.c (.sc (.int .u8 97)))),Zm 15 14,Zg 16 (.mv 0) 15 true,Zg 17 (.mv 3) 15 true,Zg 18 (.stri 16 17) 15 true,Zg 19 (.bin .leq 18 (.c (.sc (.int .u8 122)))) 15 true,Zo 20 (.pick 15 19 (Zy false)),Zm 21 0,Zm 22 3,Zo 23 (.stri 21 22),Zo 24 (.bin .geq 23 (.c (.sc (.int .u8 48)))),Zm 25 24,Zg 26 (.mv 0) 25 true,Zg 27 (.mv 3) 25 true,Zg 28 (.stri 26 27) 25 true,Zg 29 (.bin .leq 28 (.c (.sc (.int .u8 57)))) 25 true,Zo 30 (.pick 25 29 (Zy false)),Zm 4 20,Zm 5 30] []) [0,3,4,5,7,8] [] ML))) (.reg [Zd 41 .add 8 1,Zm 8 41] []))))
def OV:ar:=(Zs [Zm 42 0,Zo 43 (.lenz 42),Zo 44 (.call 76 [43,(.c (.i 1)),(.c (.i 8))]),Zm 2 44] .ret)
def A147:ar:=(Zs [Zh 2 false] (.seqa (.reg [Zm 6 0,Zo 7 (.lenz 6),Zn 8 0] []) (.blk 0 (.loop wF)) [0] [] OV))
def m147:aU A1 147 1 A147 bL=true:=by kernel_rfl
def we:ar:=(Zs [Zb 9 .lss 8 7] (.seq (.cond 9 .skip (.exit 0)) (.seq (.blk 1 (Zs [Zm 10 8,Zm 5 10] (Zs [Zm 11 1,Zm 12 0,Zm 13 5,Zx 14 1 12 13,Zl 15 14,Zb 16 .eql 11 15] (.cond 16 (Zs [Zm 17 5,Zm 4 17] .ret) .skip)))) (.reg [Zd 18 .add 8 1,Zm 8 18] []))))
def PS:ar:=(Zs [Zn 4 (-1)] .ret)
def A206:ar:=(Zs [Zn 4 0] (.seqa (.reg [Zm 6 0,Zk 7 6,Zn 8 0] []) (.blk 0 (.loop we)) [] [] PS))
def m206:aU A1 206 2 A206 aO=true:=by kernel_rfl
def A148:ar:=(Zs [Zh 4 false] (Zs [Zm 5 0,Zm 6 1,Zo 7 (.call 206 [5,6]),Zd 8 .geq 7 0,Zm 4 8] .ret))
def m148:aU A1 148 2 A148 aO=true:=by kernel_rfl
def A224:ar:=(Zs [Zh 2 false] (Zs [Zm 3 0,Zm 4 0,Zb 5 .neq 3 4,Zm 2 5] .ret))
def m224:aU A1 224 1 A224 bL=true:=by kernel_rfl
def adf:ar:=(Zs [Zn 4 0] (Zs [Zm 7 0,Zo 8 (.call 224 [7]),Zm 5 8] (Zs [Zm 9 1,Zo 10 (.call 224 [9]),Zm 6 10] (.seq (Zs [Zm 11 5] (.cond 11 (.seq (Zs [Zm 12 6] (.cond 12 (Zs [Zn 4 0] .ret) .skip)) (Zs [Zn 4 (-1)] .ret)) .skip)) (.seq (Zs [Zm 13 6] (.cond 13 (Zs [Zn 4 1] .ret) .skip)) (.seq (Zs [Zm 14 0,Zm 15 1,Zb 16 .lss 14 15] (.cond 16 (Zs [Zn 4 (-1)] .ret) .skip)) (.seq (Zs [Zm 17 0,Zm 18 1,Zb 19 .gtr 17 18] (.cond 19 (Zs [Zn 4 1] .ret) .skip)) (Zs [Zn 4 0] .ret))))))))
def m189:aU A1 189 2 adf aO=true:=by kernel_rfl
def wg:ar:=(Zs [Zb 9 .lss 8 7] (.seq (.cond 9 .skip (.exit 0)) (.seq (.blk 1 (Zs [Zx 10 1 6 8,Zl 11 10,Zm 5 11] (Zs [Zm 12 5,Zm 13 3,Zb 14 .neq 12 13] (.cond 14 (Zs [Zm 15 5,Zm 2 15] .ret) .skip)))) (.reg [Zd 16 .add 8 1,Zm 8 16] []))))
def Kp:ar:=(Zs [Zm 17 3,Zm 2 17] .ret)
def A188:ar:=(Zs [Zn 2 0] (Zs [Zn 3 0] (.seqa (.reg [Zm 6 0,Zk 7 6,Zn 8 0] []) (.blk 0 (.loop wg)) [3] [] Kp)))
def m188:aU A1 188 1 A188 bL=true:=by kernel_rfl
def A149:ar:=(Zs [Zo 2 (.box 4 0),Zo 3 (.box 4 1),Zn 4 0] (.seq (.drw [Za 5 0 2,Zl 6 5,Za 7 0 3,Zl 8 7,Zo 9 (.call 189 [6,8]),Za 10 1 2,Zl 11 10,Za 12 1 3,Zl 13 12,Zo 14 (.call 189 [11,13]),Za 15 2 2,Zl 16 15,Za 17 2 3,Zl 18 17,Zo 19 (.call 189 [16,18]),Za 20 3 2,Zl 21 20,Za 22 3 3,Zl 23 22,Zo 24 (.call 189 [21,23]),Zo 25 (.bsl 1 true [9,14,19,24]),Zo 26 (.call 188 [25]),Zm 4 26] []) .ret))
def m149:aU A1 149 2 A149 aO=true:=by kernel_rfl
def Pw:ar:=(Zs [Zb 11 .lss 10 9] (.seq (.cond 11 .skip (.exit 0)) (.seq (.blk 1 (Zs [Zm 12 10,Zx 13 1 8 10,Zl 14 13,Zm 3 12,Zm 4 14] (Zs [Zm 15 4,Zo 16 (.call 147 [15]),Zo 17 (.un .not 16),Zm 18 17,Zg 19 (.fad 0 1) 18 false,Zg 20 (.load 1 false 19) 18 false,Zg 21 (.mv 3) 18 false,Zg 22 (.slc 1 20 none (some 21) none) 18 false,Zg 23 (.mv 4) 18 false,Zg 24 (.call 148 [22,23]) 18 false,Zo 25 (.pick 18 (Zy true) 24)] (.cond 25 (Zs [Zh 2 false] .ret) .skip)))) (.reg [Zd 26 .add 10 1,Zm 10 26] []))))
def Ef:ar:=(Zs [Zb 31 .lss 30 29] (.seq (.cond 31 .skip (.exit 2)) (.seq (.blk 3 (Zs [Zm 32 30,Zx 33 4 28 30,Zv 34 4 33,Zo 6 (.alloc (.agg [.i 0,.i 0,.i 0,.i 0])),Zm 5 32,Zw (.store 4 6 34)] (.seq (.drw [Za 35 0 6,Zl 36 35,Zd 37 .lss 36 0,Zm 38 37,Zg 39 (.fad 0 6) 38 false,Zg 40 (.load 1 false 39) 38 false,Zg 41 (.fad 1 6) 38 false,Zg 42 (.load 1 false 41) 38 false,Zg 43 (.bin .geq 40 42) 38 false,Zo 44 (.pick 38 (Zy true) 43),Zm 45 44,Zg 46 (.fad 1 6) 45 false,Zg 47 (.load 1 false 46) 45 false,Zg 48 (.fad 0 1) 45 false,Zg 49 (.load 1 false 48) 45 false,Zg 50 (.len 49) 45 false,Zg 51 (.bin .geq 47 50) 45 false,Zo 52 (.pick 45 (Zy true) 51),Zm 53 52,Zg 54 (.fad 2 6) 53 false,Zg 55 (.load 1 false 54) 53 false,Zg 56 (.call 76 [55,(.c (.i 1)),(.c (.i 5000))]) 53 false,Zg 57 (.un .not 56) 53 false,Zo 58 (.pick 53 (Zy true) 57),Zm 59 58,Zg 60 (.fad 3 6) 59 false,Zg 61 (.load 1 false 60) 59 false,Zg 62 (.call 76 [61,(.c (.i 0)),(.c (.i 9))]) 59 false,Zg 63 (.un .not 62) 59 false,Zo 64 (.pick 59 (Zy true) 63),Zm 65 64,Zg 66 (.mv 5) 65 false,Zg 67 (.bin .gtr 66 (.c (.i 0))) 65 false,Zg 68 (.mv 67) 65 false,Zg 69 (.fad 1 1) 68 true,Zg 70 (.load 1 false 69) 68 true,Zg 71 (.mv 5) 68 true,Zg 72 (.bin .sub 71 (.c (.i 1))) 68 true,Zg 73 (.idx 4 70 72) 68 true,Zg 74 (.load 4 true 73) 68 true,Zg 75 (.load 4 true 6) 68 true,Zg 76 (.call 149 [74,75]) 68 true,Zg 77 (.bin .gtr 76 (.c (.i 0))) 68 true,Zg 78 (.pick 68 77 (Zy false)) 65 false,Zo 79 (.pick 65 (Zy true) 78)] []) (.cond 79 (Zs [Zh 2 false] .ret) .skip)))) (.reg [Zd 80 .add 30 1,Zm 30 80] []))))
def XN:ar:=(Zs [Za 81 0 1,Zl 82 81,Zk 83 82,Zo 84 (.call 76 [83,(.c (.i 2)),(.c (.i 8))]),Zm 85 84,Zg 86 (.fad 1 1) 85 true,Zg 87 (.load 1 false 86) 85 true,Zg 88 (.len 87) 85 true,Zg 89 (.bin .leq 88 (.c (.i 14))) 85 true,Zo 90 (.pick 85 89 (Zy false)),Zm 2 90] .ret)
def XP:ar:=(.seqa (.reg [Za 27 1 1,Zl 28 27,Zk 29 28,Zn 30 0] []) (.blk 2 (.loop Ef)) [1] [1] XN)
def A81:ar:=(Zs [Zo 1 (.box 2 0),Zh 2 false] (.seqa (.reg [Za 7 0 1,Zl 8 7,Zk 9 8,Zn 10 0] []) (.blk 0 (.loop Pw)) [1] [1] XP))
def m81:aU A1 81 1 A81 bL=true:=by kernel_rfl
def A215:ar:=(Zs [Zo 2 (.box 4 0),Zn 4 0] (.seq (Zs [Zm 5 1] (.blk 0 (Zs [Za 7 0 2,Zl 8 7,Zb 9 .eql 5 8,Zm 6 9] (.cond 6 (Zs [Za 10 1 2,Zl 11 10,Zm 4 11] .ret) (Zs [Za 13 1 2,Zl 14 13,Zb 15 .eql 5 14,Zm 12 15] (.cond 12 (Zs [Za 16 0 2,Zl 17 16,Zm 4 17] .ret) .skip)))))) (Zs [Zn 4 (-1)] .ret)))
def m215:aU A1 215 2 A215 aO=true:=by kernel_rfl
def wv:ar:=(Zs [Zb 9 .lss 8 7] (.seq (.cond 9 .skip (.exit 0)) (.seq (.blk 1 (Zs [Zm 10 8,Zm 5 10] (Zs [Zm 11 1,Zm 12 0,Zm 13 5,Zx 14 1 12 13,Zl 15 14,Zb 16 .eql 11 15] (.cond 16 (Zs [Zm 17 5,Zm 4 17] .ret) .skip)))) (.reg [Zd 18 .add 8 1,Zm 8 18] []))))
def Rx:ar:=(Zs [Zn 4 (-1)] .ret)
def A139:ar:=(Zs [Zn 4 0] (.seqa (.reg [Zm 6 0,Zk 7 6,Zn 8 0] []) (.blk 0 (.loop wv)) [] [] Rx))
def m139:aU A1 139 2 A139 aO=true:=by kernel_rfl
def A68:ar:=(Zs [Zh 4 false] (Zs [Zm 5 0,Zm 6 1,Zo 7 (.call 139 [5,6]),Zd 8 .geq 7 0,Zm 4 8] .ret))
def m68:aU A1 68 2 A68 aO=true:=by kernel_rfl
def Km:ar:=(.cond 23 (.seq (.reg [Zo 4 (.mv (.c (.lst .u 1 []))),Zh 5 false] [.s 4]) .ret) .skip)
def PL:ar:=(.cond 56 (.seq (.reg [Zo 4 (.mv (.c (.lst .u 1 []))),Zh 5 false] [.s 4]) .ret) .skip)
def BK:ar:=(Zs [Zb 33 .lss 32 31] (.seq (.cond 33 .skip (.exit 0)) (.seq (.blk 1 (Zs [Zx 34 1 30 32,Zl 35 34,Zm 9 35] (.seq (Zs [Zm 36 9,Za 37 1 2,Zl 38 37,Zk 39 38,Zd 40 .sub 39 1,Zo 41 (.call 76 [36,(.c (.i 0)),40]),Zo 42 (.un .not 41)] (.cond 42 (.seq (.reg [Zo 4 (.mv (.c (.lst .u 1 []))),Zh 5 false] [.s 4]) .ret) .skip)) (Zs [Za 43 1 2,Zl 44 43,Zm 45 9,Zx 46 4 44 45,Zv 47 4 46,Zm 48 7,Zo 49 (.call 215 [47,48]),Zm 7 49] (.seq (.seqr (.reg [Zm 50 7,Zd 51 .lss 50 0,Zm 52 51,Zg 53 (.mv 6) 52 false,Zg 54 (.mv 7) 52 false,Zg 55 (.call 68 [53,54]) 52 false,Zo 56 (.pick 52 (Zy true) 55)] []) [2,6,7,30,31,32,56] [2,6] PL) (.reg [Zm 57 6,Zm 58 7,Zo 59 (.bsl 1 false [58]),Zo 60 (.app 1 8 true 57 59),Zm 6 60] [.s 6])))))) (.reg [Zd 61 .add 32 1,Zm 32 61] []))))
def NE:ar:=(.seq (.reg [Zm 62 6,Zm 4 62,Zh 5 true] [.s 4]) .ret)
def A168:ar:=(.seq (.reg [Zo 2 (.box 2 0),Zo 3 (.box 2 1),Zo 4 (.mv (.c (.lst .u 1 []))),Zh 5 false] [.s 4]) (.seq (.seqr (.reg [Za 10 0 3,Zl 11 10,Za 12 0 2,Zl 13 12,Zk 14 13,Zd 15 .sub 14 1,Zo 16 (.call 76 [11,(.c (.i 0)),15]),Zo 17 (.un .not 16),Zm 18 17,Zg 19 (.fad 1 3) 18 false,Zg 20 (.load 1 false 19) 18 false,Zg 21 (.len 20) 18 false,Zg 22 (.bin .eql 21 (.c (.i 0))) 18 false,Zo 23 (.pick 18 (Zy true) 22)] []) [2,3,23] [2,3] Km) (.seq (.drw [Za 24 0 3,Zl 25 24,Zo 26 (.bsl 1 true [25]),Za 27 0 3,Zl 28 27,Zm 6 26,Zm 7 28] [.s 6]) (.seqa (.reg [Za 29 1 3,Zl 30 29,Zk 31 30,Zn 32 0] []) (.blk 0 (.loop BK)) [6] [6] NE))))
def m168:aU A1 168 2 A168 nD=true:=by kernel_rfl
def A169:ar:=(Zs [Zo 1 (.box 2 0),Zh 2 false] (Zs [Za 3 0 1,Zl 4 3,Zd 5 .geq 4 0,Zm 6 5,Zg 7 (.fad 1 1) 6 true,Zg 8 (.load 1 false 7) 6 true,Zg 9 (.call 76 [8,(.c (.i 1)),(.c (.i 24))]) 6 true,Zo 10 (.pick 6 9 (Zy false)),Zm 11 10,Zg 12 (.fad 0 1) 11 true,Zg 13 (.load 1 false 12) 11 true,Zg 14 (.fad 1 1) 11 true,Zg 15 (.load 1 false 14) 11 true,Zg 16 (.bin .sub (.c (.i 24)) 15) 11 true,Zg 17 (.bin .leq 13 16) 11 true,Zo 18 (.pick 11 17 (Zy false)),Zm 2 18] .ret))
def m169:aU A1 169 1 A169 bL=true:=by kernel_rfl
def Rm:ar:=(Zs [Zb 20 .lss 19 18] (.seq (.cond 20 .skip (.exit 2)) (.seq (.blk 3 (Zs [Zm 21 19,Zx 22 4 17 19,Zv 23 4 22,Zo 7 (.alloc (.agg [.i 0,.i 0,.i 0,.i 0])),Zm 6 21,Zw (.store 4 7 23)] (Zs [Za 24 3 7,Zl 25 24,Zm 26 4,Zb 27 .eql 25 26] (.cond 27 (.reg [Zm 28 5,Zm 29 6,Zo 30 (.bsl 1 false [29]),Zo 31 (.app 1 8 true 28 30),Zm 5 31] [.s 5]) .skip)))) (.reg [Zd 32 .add 19 1,Zm 19 32] []))))
def Xt:ar:=(Zs [Zm 33 5,Zk 34 33,Zd 35 .gtr 34 0] (.cond 35 (.reg [Zm 36 3,Zm 37 5,Zo 38 (.bsl 1 false [37]),Zo 39 (.app 1 24 true 36 38),Zm 3 39] [.s 3]) .skip))
def JY:ar:=(.seq (Zs [Zm 11 4,Zd 12 .leq 11 9] (.cond 12 .skip (.exit 0))) (.seq (.blk 1 (.seq (.reg [Zo 15 (.bsl 1 false []),Zm 5 15] [.s 5]) (.seqa (.reg [Za 16 1 1,Zl 17 16,Zk 18 17,Zn 19 0] []) (.blk 2 (.loop Rm)) [1,3,4,5] [1,3,5] Xt))) (.reg [Zm 13 4,Zd 14 .add 13 1,Zm 4 14] [])))
def NO:ar:=(Zs [Zb 44 .lss 43 42] (.seq (.cond 44 .skip (.exit 4)) (.seq (.blk 5 (Zs [Zm 45 43,Zx 46 4 41 43,Zv 47 4 46,Zo 9 (.alloc (.agg [.i 0,.i 0,.i 0,.i 0])),Zm 8 45,Zw (.store 4 9 47)] (Zs [Za 48 3 9,Zl 49 48,Zd 50 .eql 49 0] (.cond 50 (.reg [Zm 51 3,Zm 52 8,Zo 53 (.bsl 1 false [52]),Zo 54 (.bsl 1 false [53]),Zo 55 (.app 1 24 true 51 54),Zm 3 55] [.s 3]) .skip)))) (.reg [Zd 56 .add 43 1,Zm 43 56] []))))
def Yl:ar:=(.seq (.reg [Zm 57 3,Zm 2 57] [.s 2]) .ret)
def XS:ar:=(.seqa (.reg [Za 40 1 1,Zl 41 40,Zk 42 41,Zn 43 0] []) (.blk 4 (.loop NO)) [3] [3] Yl)
def A78:ar:=(.seq (.reg [Zo 1 (.box 2 0),Zo 2 (.mv (.c (.lst .u 1 [])))] [.s 2]) (.seq (.reg [Zo 10 (.bsl 1 false []),Zm 3 10] [.s 3]) (.seqa (.reg [Zn 4 1] []) (.blk 0 (.loop JY)) [1,3] [1,3] XS)))
def m78:aU A1 78 1 A78 bL=true:=by kernel_rfl
def A248:ar:=(Zs [Zh 3 false] (Zs [Zm 4 0,Zl 5 1,Zo 6 (.call 68 [4,5]),Zm 3 6] .ret))
def rp:List RV:=[.t 3]
def m248:aU A1 248 2 A248 rp=true:=by kernel_rfl
def Dg:ar:=(Zs [Zb 9 .lss 8 7] (.seq (.cond 9 .skip (.exit 0)) (.seq (.blk 1 (Zs [Zm 10 8,Zm 5 10] (Zs [Zm 11 1,Zm 12 0,Zm 13 5,Zx 14 1 12 13,Zl 15 14,Zo 16 (.dyn 11 [15])] (.cond 16 (Zs [Zm 17 5,Zm 4 17] .ret) .skip)))) (.reg [Zd 18 .add 8 1,Zm 8 18] []))))
def Nq:ar:=(Zs [Zn 4 (-1)] .ret)
def A247:ar:=(Zs [Zn 4 0] (.seqa (.reg [Zm 6 0,Zk 7 6,Zn 8 0] []) (.blk 0 (.loop Dg)) [] [] Nq))
def m247:aU A1 247 2 A247 aO=true:=by kernel_rfl
def A230:ar:=(Zs [Zo 2 (.box 2 0),Zo 3 (.box 1 1),Zn 4 0] (Zs [Zv 5 2 2,Zo 6 (.call 78 [5]),Zo 7 (.mkf 248 [3]),Zo 8 (.call 247 [6,7]),Zm 4 8] .ret))
def m230:aU A1 230 2 A230 aO=true:=by kernel_rfl
def AK:ar:=(Zs [Zb 12 .lss 11 10] (.seq (.cond 12 .skip (.exit 0)) (.seq (.blk 1 (Zs [Zx 13 1 9 11,Zl 14 13,Zm 7 14] (.reg [Zm 15 5,Zv 16 2 2,Zm 17 7,Zo 18 (.call 230 [16,17]),Zo 19 (.bsl 1 false [18]),Zo 20 (.app 1 8 true 15 19),Zm 5 20] [.s 5]))) (.reg [Zd 21 .add 11 1,Zm 11 21] []))))
def Lt:ar:=(.seq (.reg [Zm 22 5,Zm 4 22] [.s 4]) .ret)
def A202:ar:=(.seq (.reg [Zo 2 (.box 2 0),Zo 4 (.mv (.c (.lst .u 1 [])))] [.s 4]) (.seq (.reg [Zo 8 (.bsl 1 false []),Zm 5 8] [.s 5]) (.seqa (.reg [Zm 9 1,Zk 10 9,Zn 11 0] []) (.blk 0 (.loop AK)) [5] [5] Lt)))
def m202:aU A1 202 2 A202 aO=true:=by kernel_rfl
def mF:ar:=(.seq (Zs [Zm 29 5,Zm 30 4,Zk 31 30,Zb 32 .lss 29 31] (.cond 32 .skip (.exit 2))) (.seq (.blk 3 (.seq (.drw [Zm 35 4,Zm 36 5,Zx 37 1 35 36,Zl 38 37,Zm 39 4,Zm 40 5,Zd 41 .sub 40 1,Zx 42 1 39 41,Zl 43 42,Zb 44 .neq 38 43] []) (.cond 44 (Zs [Zm 45 0,Zm 46 3,Zm 47 4,Zm 48 5,Zx 49 1 47 48,Zl 50 49,Zx 51 1 45 46,Zw (.store 1 51 50)] (.reg [Zm 52 3,Zd 53 .add 52 1,Zm 3 53] [])) .skip))) (.reg [Zm 33 5,Zd 34 .add 33 1,Zm 5 34] [])))
def zA:ar:=(Zs [Zm 54 0,Zm 55 3,Zo 56 (.slc 1 54 (some 55) none none),Zw (.clr 1 (.i 0) 56)] (.seq (.reg [Zm 57 0,Zm 58 3,Zo 59 (.slc 1 57 none (some 58) none),Zm 2 59] [.s 2]) .ret))
def pZ:ar:=(.seq (Zs [Zm 10 3,Zm 11 0,Zk 12 11,Zb 13 .lss 10 12] (.cond 13 .skip (.exit 0))) (.seq (.blk 1 (.seq (.drw [Zm 16 0,Zm 17 3,Zx 18 1 16 17,Zl 19 18,Zm 20 0,Zm 21 3,Zd 22 .sub 21 1,Zx 23 1 20 22,Zl 24 23,Zb 25 .eql 19 24] []) (.cond 25 (.seq (.reg [Zm 26 0,Zm 27 3,Zo 28 (.slc 1 26 (some 27) none none),Zm 4 28] [.s 4]) (.seqa (.reg [Zn 5 1] []) (.blk 2 (.loop mF)) [0,3] [1000000000] zA)) .skip))) (.reg [Zm 14 3,Zd 15 .add 14 1,Zm 3 15] [])))
def zp:ar:=(.seq (.reg [Zm 60 0,Zm 2 60] [.s 2]) .ret)
def Oz:ar:=(.seq (.reg [Zo 2 (.mv (.c (.lst .u 1 [])))] [.s 2]) (.seq (Zs [Zm 6 0,Zk 7 6,Zd 8 .lss 7 2] (.cond 8 (.seq (.reg [Zm 9 0,Zm 2 9] [.s 2]) .ret) .skip)) (.seqa (.reg [Zn 3 1] []) (.blk 0 (.loop pZ)) [0] [1000000000] zp)))
def ach:aU A1 204 1 Oz bL=true:=by kernel_rfl
def vo:ar:=(Zs [Zb 12 .lss 11 10] (.seq (.cond 12 .skip (.exit 0)) (.seq (.blk 1 (Zs [Zx 13 1 9 11,Zl 14 13,Zm 7 14] (Zs [Zm 15 1,Zm 16 7,Zo 17 (.call 68 [15,16])] (.cond 17 (.reg [Zm 18 5,Zm 19 7,Zo 20 (.bsl 1 false [19]),Zo 21 (.app 1 8 true 18 20),Zm 5 21] [.s 5]) .skip)))) (.reg [Zd 22 .add 11 1,Zm 11 22] []))))
def Nt:ar:=(Zs [Zm 23 5,Zo 24 (.callM 203 [23] [5])] (.seq (.reg [Zm 25 5,Zo 26 (.callM 204 [25] [5]),Zm 4 26] [.s 4]) .ret))
def A140:ar:=(.seq (.reg [Zo 4 (.mv (.c (.lst .u 1 [])))] [.s 4]) (.seq (.reg [Zo 8 (.bsl 1 false []),Zm 5 8] [.s 5]) (.seqa (.reg [Zm 9 0,Zk 10 9,Zn 11 0] []) (.blk 0 (.loop vo)) [5] [5] Nt)))
def m140:aU A1 140 2 A140 aO=true:=by kernel_rfl
def A136:ar:=(Zs [Zo 3 (.box 2 0),Zh 6 false] (.seq (.drw [Zv 7 2 3,Zm 8 1,Zo 9 (.call 202 [7,8]),Zv 10 2 3,Zm 11 2,Zo 12 (.call 202 [10,11]),Zo 13 (.call 140 [9,12]),Zk 14 13,Zd 15 .eql 14 0,Zm 6 15] []) .ret))
def m136:aU A1 136 3 A136 dx=true:=by kernel_rfl
def Yv:ar:=(.cond 35 (Zs [Zh 4 false] .ret) .skip)
def XI:ar:=.ret
def A94:ar:=(Zs [Zo 2 (.box 2 0),Zo 3 (.box 10 1),Zh 4 false] (.seq (.reg [Zv 10 2 2,Za 11 2 3,Zv 12 2 11,Zo 13 (.call 168 [10,12]),Zm 9 13,Ze 14 9 0,Ze 15 9 1,Zm 5 14,Zm 6 15] [.s 5]) (.seq (.seqr (.reg [Za 16 0 3,Zl 17 16,Zo 18 (.call 76 [17,(.c (.i 1)),(.c (.i 999))]),Zo 19 (.un .not 18),Zm 20 19,Zg 21 (.fad 1 3) 20 false,Zg 22 (.load 1 false 21) 20 false,Zg 23 (.call 76 [22,(.c (.i 0)),(.c (.i 2))]) 20 false,Zg 24 (.un .not 23) 20 false,Zo 25 (.pick 20 (Zy true) 24),Zm 26 25,Zg 27 (.mv 6) 26 false,Zg 28 (.un .not 27) 26 false,Zo 29 (.pick 26 (Zy true) 28),Zm 30 29,Zg 31 (.fad 4 3) 30 false,Zg 32 (.load 2 true 31) 30 false,Zg 33 (.call 169 [32]) 30 false,Zg 34 (.un .not 33) 30 false,Zo 35 (.pick 30 (Zy true) 34)] []) [2,3,5,35] [2,3,5] Yv) (.seq (Zs [Za 36 1 3,Zl 37 36,Zd 38 .eql 37 0] (.cond 38 (.seqr (.reg [Za 39 6 3,Za 40 0 39,Zl 41 40,Zd 42 .eql 41 0,Zm 43 42,Zg 44 (.fad 6 3) 43 true,Zg 45 (.fad 1 44) 43 true,Zg 46 (.load 1 false 45) 43 true,Zg 47 (.len 46) 43 true,Zg 48 (.bin .eql 47 (.c (.i 0))) 43 true,Zo 49 (.pick 43 48 (Zy false)),Zm 50 49,Zg 51 (.fad 8 3) 50 true,Zg 52 (.load 2 true 51) 50 true,Zg 53 (.build [.i 0,.i 0] []) 50 true,Zg 54 (.aeq false 52 53) 50 true,Zo 55 (.pick 50 54 (Zy false)),Zm 4 55] []) [4] [] XI) .skip)) (.seq (.reg [Zv 57 2 2,Za 58 6 3,Zv 59 2 58,Zo 60 (.call 168 [57,59]),Zm 56 60,Ze 61 56 0,Ze 62 56 1,Zm 7 61,Zm 8 62] [.s 7]) (.seq (.drw [Zm 63 8,Zm 64 63,Zg 65 (.fad 8 3) 64 true,Zg 66 (.load 2 true 65) 64 true,Zg 67 (.call 169 [66]) 64 true,Zo 68 (.pick 64 67 (Zy false)),Zm 69 68,Zg 70 (.mv 7) 69 true,Zg 71 (.idx 1 70 (.c (.i 0))) 69 true,Zg 72 (.load 1 false 71) 69 true,Zg 73 (.mv 5) 69 true,Zg 74 (.idx 1 73 (.c (.i 0))) 69 true,Zg 75 (.load 1 false 74) 69 true,Zg 76 (.bin .eql 72 75) 69 true,Zo 77 (.pick 69 76 (Zy false)),Zm 78 77,Zg 79 (.mv 7) 78 true,Zg 80 (.mv 7) 78 true,Zg 81 (.len 80) 78 true,Zg 82 (.bin .sub 81 (.c (.i 1))) 78 true,Zg 83 (.idx 1 79 82) 78 true,Zg 84 (.load 1 false 83) 78 true,Zg 85 (.mv 5) 78 true,Zg 86 (.mv 5) 78 true,Zg 87 (.len 86) 78 true,Zg 88 (.bin .sub 87 (.c (.i 1))) 78 true,Zg 89 (.idx 1 85 88) 78 true,Zg 90 (.load 1 false 89) 78 true,Zg 91 (.bin .eql 84 90) 78 true,Zo 92 (.pick 78 91 (Zy false)),Zm 93 92,Zg 94 (.load 2 true 2) 93 true,Zg 95 (.fad 2 3) 93 true,Zg 96 (.fad 1 95) 93 true,Zg 97 (.load 1 false 96) 93 true,Zg 98 (.fad 6 3) 93 true,Zg 99 (.fad 1 98) 93 true,Zg 100 (.load 1 false 99) 93 true,Zg 101 (.call 136 [94,97,100]) 93 true,Zo 102 (.pick 93 101 (Zy false)),Zm 4 102] []) .ret))))))
def m94:aU A1 94 2 A94 aO=true:=by kernel_rfl
def A69:ar:=(Zs [Zo 1 (.box 2 0),Zn 2 0] (.seq (.drw [Za 3 1 1,Zl 4 3,Zo 5 (.bin .shl (.c (.i 1)) 4),Zd 6 .sub 5 1,Za 7 0 1,Zl 8 7,Zb 9 .shl 6 8,Zm 2 9] []) .ret))
def m69:aU A1 69 1 A69 bL=true:=by kernel_rfl
def A205:ar:=(Zs [Zo 2 (.box 5 0),Zo 3 (.box 5 1),Zh 4 false] (.seq (.drw [Za 5 3 2,Zv 6 2 5,Zo 7 (.call 69 [6]),Za 8 3 3,Zv 9 2 8,Zo 10 (.call 69 [9]),Zb 11 .and 7 10,Zd 12 .neq 11 0,Zm 13 12,Zg 14 (.fad 1 2) 13 true,Zg 15 (.fad 1 14) 13 true,Zg 16 (.load 1 false 15) 13 true,Zg 17 (.fad 1 3) 13 true,Zg 18 (.fad 1 17) 13 true,Zg 19 (.load 1 false 18) 13 true,Zg 20 (.call 140 [16,19]) 13 true,Zg 21 (.len 20) 13 true,Zg 22 (.bin .gtr 21 (.c (.i 0))) 13 true,Zo 23 (.pick 13 22 (Zy false)),Zm 4 23] []) .ret))
def m205:aU A1 205 2 A205 aO=true:=by kernel_rfl
def A142:ar:=(Zs [Zo 4 (.box 2 0),Zo 5 (.box 2 1),Zo 6 (.box 2 2),Zo 7 (.box 2 3),Zh 8 false] (Zs [Zv 9 2 4,Zv 10 2 5,Zo 11 (.build [.i 0,.i 0,.lst .u 1 [],.i 0,.i 0] [(1,2,9),(3,2,10)]),Zv 12 2 6,Zv 13 2 7,Zo 14 (.build [.i 0,.i 0,.lst .u 1 [],.i 0,.i 0] [(1,2,12),(3,2,13)]),Zo 15 (.call 205 [11,14]),Zm 8 15] .ret))
def m142:aU A1 142 4 A142 vy=true:=by kernel_rfl
def XY:ar:=(.cond 38 (Zs [Zh 6 false] .ret) .skip)
def XT:ar:=(Zs [Zm 57 7,Zm 58 57,Zg 59 (.fad 6 4) 58 false,Zg 60 (.load 2 true 59) 58 false,Zg 61 (.fad 8 4) 58 false,Zg 62 (.load 2 true 61) 58 false,Zg 63 (.fad 6 5) 58 false,Zg 64 (.load 2 true 63) 58 false,Zg 65 (.fad 8 5) 58 false,Zg 66 (.load 2 true 65) 58 false,Zg 67 (.call 142 [60,62,64,66]) 58 false,Zg 68 (.un .not 67) 58 false,Zo 69 (.pick 58 (Zy true) 68),Zm 6 69] .ret)
def A97:ar:=(Zs [Zo 3 (.box 2 0),Zo 4 (.box 10 1),Zo 5 (.box 10 2),Zh 6 false] (.seq (.seqr (.reg [Za 8 2 4,Zv 9 2 8,Za 10 4 4,Zv 11 2 10,Za 12 2 5,Zv 13 2 12,Za 14 4 5,Zv 15 2 14,Zo 16 (.call 142 [9,11,13,15]),Zm 17 16,Zg 18 (.fad 2 4) 17 false,Zg 19 (.load 2 true 18) 17 false,Zg 20 (.fad 4 4) 17 false,Zg 21 (.load 2 true 20) 17 false,Zg 22 (.fad 6 5) 17 false,Zg 23 (.load 2 true 22) 17 false,Zg 24 (.fad 8 5) 17 false,Zg 25 (.load 2 true 24) 17 false,Zg 26 (.call 142 [19,21,23,25]) 17 false,Zo 27 (.pick 17 (Zy true) 26),Zm 28 27,Zg 29 (.fad 6 4) 28 false,Zg 30 (.load 2 true 29) 28 false,Zg 31 (.fad 8 4) 28 false,Zg 32 (.load 2 true 31) 28 false,Zg 33 (.fad 2 5) 28 false,Zg 34 (.load 2 true 33) 28 false,Zg 35 (.fad 4 5) 28 false,Zg 36 (.load 2 true 35) 28 false,Zg 37 (.call 142 [30,32,34,36]) 28 false,Zo 38 (.pick 28 (Zy true) 37)] []) [3,4,5,38] [3,4,5] XY) (.seqr (.reg [Za 39 1 4,Zl 40 39,Zd 41 .eql 40 2,Zm 42 41,Zg 43 (.fad 1 5) 42 true,Zg 44 (.load 1 false 43) 42 true,Zg 45 (.bin .eql 44 (.c (.i 2))) 42 true,Zo 46 (.pick 42 45 (Zy false)),Zm 47 46,Zg 48 (.load 2 true 3) 47 true,Zg 49 (.fad 2 4) 47 true,Zg 50 (.fad 1 49) 47 true,Zg 51 (.load 1 false 50) 47 true,Zg 52 (.fad 2 5) 47 true,Zg 53 (.fad 1 52) 47 true,Zg 54 (.load 1 false 53) 47 true,Zg 55 (.call 136 [48,51,54]) 47 true,Zo 56 (.pick 47 55 (Zy false)),Zm 7 56] []) [4,5,7] [4,5] XT)))
def m97:aU A1 97 3 A97 dx=true:=by kernel_rfl
def A96:ar:=(Zs [Zo 3 (.box 10 0),Zh 4 false] (Zs [Zv 5 2 1,Zv 6 10 3,Zv 7 10 2,Zo 8 (.call 97 [5,6,7]),Zo 9 (.un .not 8),Zm 4 9] .ret))
def m96:aU A1 96 3 A96 aO=true:=by kernel_rfl
def KE:ar:=(Zs [Zb 9 .lss 8 7] (.seq (.cond 9 .skip (.exit 0)) (.seq (.blk 1 (Zs [Zm 10 8,Zm 5 10] (Zs [Zm 11 1,Zm 12 0,Zm 13 5,Zx 14 10 12 13,Zv 15 10 14,Zo 16 (.dyn 11 [15])] (.cond 16 (Zs [Zm 17 5,Zm 4 17] .ret) .skip)))) (.reg [Zd 18 .add 8 1,Zm 8 18] []))))
def Yb:ar:=(Zs [Zn 4 (-1)] .ret)
def A98:ar:=(Zs [Zn 4 0] (.seqa (.reg [Zm 6 0,Zk 7 6,Zn 8 0] []) (.blk 0 (.loop KE)) [] [] Yb))
def m98:aU A1 98 2 A98 aO=true:=by kernel_rfl
def A95:ar:=(Zs [Zh 4 false] (Zs [Zm 5 0,Zm 6 1,Zo 7 (.call 98 [5,6]),Zd 8 .geq 7 0,Zm 4 8] .ret))
def m95:aU A1 95 2 A95 aO=true:=by kernel_rfl
def XW:ar:=(.cond 14 (Zs [Zh 4 false] .ret) .skip)
def Ol:ar:=(Zs [Zb 18 .lss 17 16] (.seq (.cond 18 .skip (.exit 0)) (.seq (.blk 1 (Zs [Zm 19 17,Zx 20 10 15 17,Zv 21 10 20,Zo 6 (.alloc (.agg [.i 0,.i 0,.i 0,.lst .u 1 [],.i 0,.i 0,.i 0,.lst .u 1 [],.i 0,.i 0])),Zm 5 19,Zw (.store 10 6 21)] (.seq (.drw [Zv 22 2 2,Zv 23 10 6,Zo 24 (.call 94 [22,23]),Zo 25 (.un .not 24),Zm 26 25,Zg 27 (.mv 5) 26 false,Zg 28 (.bin .gtr 27 (.c (.i 0))) 26 false,Zg 29 (.mv 28) 26 false,Zg 30 (.mv 1) 29 true,Zg 31 (.mv 5) 29 true,Zg 32 (.bin .sub 31 (.c (.i 1))) 29 true,Zg 33 (.idx 10 30 32) 29 true,Zg 34 (.fad 0 33) 29 true,Zg 35 (.load 1 false 34) 29 true,Zg 36 (.fad 0 6) 29 true,Zg 37 (.load 1 false 36) 29 true,Zg 38 (.bin .geq 35 37) 29 true,Zg 39 (.pick 29 38 (Zy false)) 26 false,Zo 40 (.pick 26 (Zy true) 39),Zm 41 40,Zg 42 (.mv 1) 41 false,Zg 43 (.mv 5) 41 false,Zg 44 (.slc 10 42 none (some 43) none) 41 false,Zg 45 (.mkf 96 [2,6]) 41 false,Zg 46 (.call 95 [44,45]) 41 false,Zo 47 (.pick 41 (Zy true) 46)] []) (.cond 47 (Zs [Zh 4 false] .ret) .skip)))) (.reg [Zd 48 .add 17 1,Zm 17 48] []))))
def XB:ar:=(Zs [Zh 4 true] .ret)
def A24:ar:=(Zs [Zo 2 (.box 2 0),Zh 4 false] (.seq (.seqr (.reg [Zv 7 2 2,Zo 8 (.call 81 [7]),Zo 9 (.un .not 8),Zm 10 9,Zg 11 (.mv 1) 10 false,Zg 12 (.len 11) 10 false,Zg 13 (.bin .gtr 12 (.c (.i 8))) 10 false,Zo 14 (.pick 10 (Zy true) 13)] []) [1,2,14] [2] XW) (.seqa (.reg [Zm 15 1,Zk 16 15,Zn 17 0] []) (.blk 0 (.loop Ol)) [] [] XB)))
def m24:aU A1 24 2 A24 aO=true:=by kernel_rfl
def A155:ar:=(Zs [Zo 2 (.box 10 0),Zh 3 false] (Zs [Za 4 0 2,Zl 5 4,Za 6 0 1,Zl 7 6,Zb 8 .eql 5 7,Zm 3 8] .ret))
def m155:aU A1 155 2 A155 rp=true:=by kernel_rfl
def Cv:ar:=(Zs [Zb 8 .lss 7 6] (.seq (.cond 8 .skip (.exit 0)) (.seq (.blk 1 (Zs [Zm 9 7,Zx 10 2 5 7,Zv 11 2 10,Zo 4 (.alloc (.agg [.i 0,.i 0])),Zm 3 9,Zw (.store 2 4 11)] (.seq (.drw [Za 12 0 4,Zl 13 12,Zo 14 (.call 76 [13,(.c (.i 1)),(.c (.i 20000))]),Zo 15 (.un .not 14),Zm 16 15,Zg 17 (.fad 1 4) 16 false,Zg 18 (.load 1 false 17) 16 false,Zg 19 (.call 76 [18,(.c (.i 1)),(.c (.i 1000))]) 16 false,Zg 20 (.un .not 19) 16 false,Zo 21 (.pick 16 (Zy true) 20),Zm 22 21,Zg 23 (.mv 3) 22 false,Zg 24 (.bin .gtr 23 (.c (.i 0))) 22 false,Zg 25 (.mv 24) 22 false,Zg 26 (.mv 0) 25 true,Zg 27 (.mv 3) 25 true,Zg 28 (.bin .sub 27 (.c (.i 1))) 25 true,Zg 29 (.idx 2 26 28) 25 true,Zg 30 (.fad 0 29) 25 true,Zg 31 (.load 1 false 30) 25 true,Zg 32 (.fad 0 4) 25 true,Zg 33 (.load 1 false 32) 25 true,Zg 34 (.bin .leq 31 33) 25 true,Zg 35 (.mv 34) 25 true,Zg 36 (.mv 0) 35 false,Zg 37 (.mv 3) 35 false,Zg 38 (.bin .sub 37 (.c (.i 1))) 35 false,Zg 39 (.idx 2 36 38) 35 false,Zg 40 (.fad 1 39) 35 false,Zg 41 (.load 1 false 40) 35 false,Zg 42 (.fad 1 4) 35 false,Zg 43 (.load 1 false 42) 35 false,Zg 44 (.bin .geq 41 43) 35 false,Zg 45 (.pick 35 (Zy true) 44) 25 true,Zg 46 (.pick 25 45 (Zy false)) 22 false,Zo 47 (.pick 22 (Zy true) 46)] []) (.cond 47 (Zs [Zh 2 false] .ret) .skip)))) (.reg [Zd 48 .add 7 1,Zm 7 48] []))))
def QR:ar:=(Zs [Zm 49 0,Zk 50 49,Zo 51 (.call 76 [50,(.c (.i 1)),(.c (.i 6))]),Zm 2 51] .ret)
def A219:ar:=(Zs [Zh 2 false] (.seqa (.reg [Zm 5 0,Zk 6 5,Zn 7 0] []) (.blk 0 (.loop Cv)) [0] [] QR))
def m219:aU A1 219 1 A219 bL=true:=by kernel_rfl
def A243:ar:=(Zs [Zo 2 (.box 2 0),Zo 3 (.box 4 1),Zh 4 false] (Zs [Za 6 0 2,Zl 7 6,Zk 8 7,Zd 9 .sub 8 1,Zm 5 9] (Zs [Za 10 0 3,Zl 11 10,Zm 12 5,Zo 13 (.call 76 [11,(.c (.i 0)),12]),Zm 14 13,Zg 15 (.fad 1 3) 14 true,Zg 16 (.load 1 false 15) 14 true,Zg 17 (.mv 5) 14 true,Zg 18 (.call 76 [16,(.c (.i 0)),17]) 14 true,Zo 19 (.pick 14 18 (Zy false)),Zm 20 19,Zg 21 (.fad 0 3) 20 true,Zg 22 (.load 1 false 21) 20 true,Zg 23 (.fad 1 3) 20 true,Zg 24 (.load 1 false 23) 20 true,Zg 25 (.bin .neq 22 24) 20 true,Zo 26 (.pick 20 25 (Zy false)),Zm 27 26,Zg 28 (.fad 2 3) 27 true,Zg 29 (.load 1 false 28) 27 true,Zg 30 (.call 76 [29,(.c (.i 1)),(.c (.i 1000))]) 27 true,Zo 31 (.pick 27 30 (Zy false)),Zm 32 31,Zg 33 (.fad 3 3) 32 true,Zg 34 (.load 1 false 33) 32 true,Zg 35 (.call 76 [34,(.c (.i 0)),(.c (.i 2))]) 32 true,Zo 36 (.pick 32 35 (Zy false)),Zm 4 36] .ret)))
def m243:aU A1 243 2 A243 aO=true:=by kernel_rfl
def A242:ar:=(Zs [Zo 2 (.box 4 0),Zh 3 false] (Zs [Zv 4 2 1,Zv 5 4 2,Zo 6 (.call 243 [4,5]),Zo 7 (.un .not 6),Zm 3 7] .ret))
def m242:aU A1 242 2 A242 rp=true:=by kernel_rfl
def Dc:ar:=(Zs [Zb 9 .lss 8 7] (.seq (.cond 9 .skip (.exit 0)) (.seq (.blk 1 (Zs [Zm 10 8,Zm 5 10] (Zs [Zm 11 1,Zm 12 0,Zm 13 5,Zx 14 4 12 13,Zv 15 4 14,Zo 16 (.dyn 11 [15])] (.cond 16 (Zs [Zm 17 5,Zm 4 17] .ret) .skip)))) (.reg [Zd 18 .add 8 1,Zm 8 18] []))))
def Mo:ar:=(Zs [Zn 4 (-1)] .ret)
def A262:ar:=(Zs [Zn 4 0] (.seqa (.reg [Zm 6 0,Zk 7 6,Zn 8 0] []) (.blk 0 (.loop Dc)) [] [] Mo))
def m262:aU A1 262 2 A262 aO=true:=by kernel_rfl
def A241:ar:=(Zs [Zh 4 false] (Zs [Zm 5 0,Zm 6 1,Zo 7 (.call 262 [5,6]),Zd 8 .geq 7 0,Zm 4 8] .ret))
def m241:aU A1 241 2 A241 aO=true:=by kernel_rfl
def A220:ar:=(Zs [Zo 2 (.box 2 0),Zh 4 false] (Zs [Zv 5 2 2,Zo 6 (.call 81 [5]),Zm 7 6,Zg 8 (.mv 1) 7 true,Zg 9 (.len 8) 7 true,Zg 10 (.bin .leq 9 (.c (.i 12))) 7 true,Zo 11 (.pick 7 10 (Zy false)),Zm 12 11,Zg 13 (.mv 1) 12 true,Zg 14 (.mkf 242 [2]) 12 true,Zg 15 (.call 241 [13,14]) 12 true,Zg 16 (.un .not 15) 12 true,Zo 17 (.pick 12 16 (Zy false)),Zm 4 17] .ret))
def m220:aU A1 220 2 A220 aO=true:=by kernel_rfl
def A263:ar:=(Zs [Zh 3 false] (Zs [Zm 4 0,Za 5 0 1,Zl 6 5,Zk 7 6,Zd 8 .sub 7 1,Zo 9 (.call 76 [4,(.c (.i 0)),8]),Zo 10 (.un .not 9),Zm 3 10] .ret))
def m263:aU A1 263 2 A263 rp=true:=by kernel_rfl
def Cl:ar:=(Zs [Zb 9 .lss 8 7] (.seq (.cond 9 .skip (.exit 0)) (.seq (.blk 1 (Zs [Zm 10 8,Zm 5 10] (Zs [Zm 11 1,Zm 12 0,Zm 13 5,Zx 14 1 12 13,Zl 15 14,Zo 16 (.dyn 11 [15])] (.cond 16 (Zs [Zm 17 5,Zm 4 17] .ret) .skip)))) (.reg [Zd 18 .add 8 1,Zm 8 18] []))))
def Ks:ar:=(Zs [Zn 4 (-1)] .ret)
def A217:ar:=(Zs [Zn 4 0] (.seqa (.reg [Zm 6 0,Zk 7 6,Zn 8 0] []) (.blk 0 (.loop Cl)) [] [] Ks))
def m217:aU A1 217 2 A217 aO=true:=by kernel_rfl
def A177:ar:=(Zs [Zh 4 false] (Zs [Zm 5 0,Zm 6 1,Zo 7 (.call 217 [5,6]),Zd 8 .geq 7 0,Zm 4 8] .ret))
def m177:aU A1 177 2 A177 aO=true:=by kernel_rfl
def A244:ar:=(Zs [Zo 2 (.box 2 0),Zh 4 false] (Zs [Zv 5 2 2,Zo 6 (.call 81 [5]),Zm 7 6,Zg 8 (.mv 1) 7 true,Zg 9 (.mkf 263 [2]) 7 true,Zg 10 (.call 177 [8,9]) 7 true,Zg 11 (.un .not 10) 7 true,Zo 12 (.pick 7 11 (Zy false)),Zm 4 12] .ret))
def m244:aU A1 244 2 A244 aO=true:=by kernel_rfl
def A80:ar:=(.seq (.reg [Zo 2 (.mv (.c (.lst .u 1 [])))] [.s 2]) (.seq (Zs [Zm 3 0,Zo 4 (.isn false 3)] (.cond 4 (.seq (.reg [Zo 2 (.mv (.c (.lst .u 1 [])))] [.s 2]) .ret) .skip)) (.seq (.reg [Zo 5 (.bsl 1 false []),Zm 6 0,Zo 7 (.app 1 8 false 5 6),Zm 2 7] [.s 2]) .ret)))
def m80:aU A1 80 1 A80 bL=true:=by kernel_rfl
def xC:ar:=(.cond 43 (.drw [Zo 44 (.ldv [] 1 false 7),Zm 45 13,Zm 46 1,Zm 47 13,Zo 48 (.bin .shl (.c (.i 1)) 47),Zb 49 .or 46 48,Zm 50 2,Zm 51 2,Zk 52 51,Zm 53 2,Zk 54 53,Zo 55 (.slc 1 50 none (some 52) (some 54)),Zm 56 11,Zo 57 (.bsl 1 true [56]),Zo 58 (.app 1 8 true 55 57),Zo 59 (.dynM 44 [45,49,58] [58,1000000001,1000000002,470000128,1000000004,1000000005,1000000006])] [.f true 470000128 1000000002 0]) .skip)
def qi:ar:=(Zs [Zb 28 .lss 27 26] (.seq (.cond 28 .skip (.exit 0)) (.seq (.blk 1 (Zs [Zm 29 27,Zx 30 4 25 27,Zv 31 4 30,Zo 12 (.alloc (.agg [.i 0,.i 0,.i 0,.i 0])),Zm 11 29,Zw (.store 4 12 31)] (Zs [Zv 32 4 12,Zm 33 0,Zo 34 (.call 215 [32,33]),Zm 13 34] (.seqr (.reg [Zm 35 13,Zd 36 .geq 35 0,Zm 37 36,Zg 38 (.mv 1) 37 true,Zg 39 (.mv 13) 37 true,Zg 40 (.bin .shr 38 39) 37 true,Zg 41 (.bin .and 40 (.c (.i 1))) 37 true,Zg 42 (.bin .eql 41 (.c (.i 0))) 37 true,Zo 43 (.pick 37 42 (Zy false))] []) [0,1,2,7,11,13,25,26,27,43] [470000128,1000000001,1000000002,1000000004,1000000005,1000000006] xC)))) (.reg [Zd 60 .add 27 1,Zm 27 60] []))))
def KN:ar:=(.seq (.seq (.reg [Zm 14 0,Zl 15 3,Zb 16 .eql 14 15] [.z 2,.f true 470000128 1000000002 0]) (.cond 16 (.seq (.drw [Zo 17 (.ldv [] 1 false 4),Zl 18 5,Zm 19 2,Zo 20 (.call 80 [19]),Zo 21 (.build [.i 0,.lst .u 1 []] [(0,1,18),(1,1,20)]),Zo 22 (.bsm 2 [21]),Zo 23 (.app 2 32 true 17 22),Zw (.store 1 4 23)] [.f true 470000128 1000000002 0]) .ret) .skip)) (Zs [Za 24 1 6,Zl 25 24,Zk 26 25,Zn 27 0] (.blk 0 (.loop qi))))
def YG:aU A1 264 8 KN bP=true:=by kernel_rfl
def zf:ar:=(.cond 43 (.drw [Zo 44 (.ldv [] 1 false 7),Zm 45 13,Zm 46 1,Zm 47 13,Zo 48 (.bin .shl (.c (.i 1)) 47),Zb 49 .or 46 48,Zm 50 2,Zm 51 2,Zk 52 51,Zm 53 2,Zk 54 53,Zo 55 (.slc 1 50 none (some 52) (some 54)),Zm 56 11,Zo 57 (.bsl 1 true [56]),Zo 58 (.app 1 8 true 55 57),Zo 59 (.dynM 44 [45,49,58] [58,1000000000,1000000001,470000064,1000000003,1000000004,1000000005])] [.f true 470000064 1000000001 0]) .skip)
def qd:ar:=(Zs [Zb 28 .lss 27 26] (.seq (.cond 28 .skip (.exit 0)) (.seq (.blk 1 (Zs [Zm 29 27,Zx 30 4 25 27,Zv 31 4 30,Zo 12 (.alloc (.agg [.i 0,.i 0,.i 0,.i 0])),Zm 11 29,Zw (.store 4 12 31)] (Zs [Zv 32 4 12,Zm 33 0,Zo 34 (.call 215 [32,33]),Zm 13 34] (.seqr (.reg [Zm 35 13,Zd 36 .geq 35 0,Zm 37 36,Zg 38 (.mv 1) 37 true,Zg 39 (.mv 13) 37 true,Zg 40 (.bin .shr 38 39) 37 true,Zg 41 (.bin .and 40 (.c (.i 1))) 37 true,Zg 42 (.bin .eql 41 (.c (.i 0))) 37 true,Zo 43 (.pick 37 42 (Zy false))] []) [0,1,2,7,11,13,25,26,27,43] [470000064,1000000000,1000000001,1000000003,1000000004,1000000005] zf)))) (.reg [Zd 60 .add 27 1,Zm 27 60] []))))
def Ns:ar:=(.seq (.seq (.reg [Zm 14 0,Zl 15 3,Zb 16 .eql 14 15] [.z 2,.f true 470000064 1000000001 0]) (.cond 16 (.seq (.drw [Zo 17 (.ldv [] 1 false 4),Zl 18 5,Zm 19 2,Zo 20 (.call 80 [19]),Zo 21 (.build [.i 0,.lst .u 1 []] [(0,1,18),(1,1,20)]),Zo 22 (.bsm 2 [21]),Zo 23 (.app 2 32 true 17 22),Zw (.store 1 4 23)] [.f true 470000064 1000000001 0]) .ret) .skip)) (Zs [Za 24 1 6,Zl 25 24,Zk 26 25,Zn 27 0] (.blk 0 (.loop qd))))
def abo:aU A1 264 8 Ns bP=true:=by kernel_rfl
def wl:ar:=(Zs [Zb 12 .lss 11 10] (.seq (.cond 12 .skip (.exit 0)) (.seq (.blk 1 (Zs [Zx 13 1 9 11,Zl 14 13,Zm 7 14] (.reg [Zm 15 5,Za 16 1 2,Zl 17 16,Zm 18 7,Zx 19 4 17 18,Za 20 2 19,Zl 21 20,Zb 22 .add 15 21,Zm 5 22] []))) (.reg [Zd 23 .add 11 1,Zm 11 23] []))))
def NP:ar:=(Zs [Zm 24 5,Zm 4 24] .ret)
def A223:ar:=(Zs [Zo 2 (.box 2 0),Zo 3 (.box 2 1),Zn 4 0] (Zs [Zn 5 0] (.seqa (.reg [Za 8 1 3,Zl 9 8,Zk 10 9,Zn 11 0] []) (.blk 0 (.loop wl)) [5] [] NP)))
def m223:aU A1 223 2 A223 aO=true:=by kernel_rfl
def Dn:ar:=(Zs [Zb 12 .lss 11 10] (.seq (.cond 12 .skip (.exit 0)) (.seq (.blk 1 (Zs [Zm 13 11,Zx 14 1 9 11,Zl 15 14,Zm 5 13,Zm 6 15] (.seq (Zs [Zm 16 5,Zm 17 1,Zk 18 17,Zb 19 .geq 16 18] (.cond 19 (Zs [Zn 4 1] .ret) .skip)) (Zs [Zm 20 1,Zm 21 5,Zx 22 1 20 21,Zl 23 22,Zm 7 23] (Zs [Zm 24 6,Zm 25 7,Zo 26 (.call 189 [24,25]),Zm 8 26] (Zs [Zm 27 8,Zd 28 .neq 27 0] (.cond 28 (Zs [Zm 29 8,Zm 4 29] .ret) .skip))))))) (.reg [Zd 30 .add 11 1,Zm 11 30] []))))
def NN:ar:=(.seq (Zs [Zm 31 0,Zk 32 31,Zm 33 1,Zk 34 33,Zb 35 .lss 32 34] (.cond 35 (Zs [Zn 4 (-1)] .ret) .skip)) (Zs [Zn 4 0] .ret))
def A225:ar:=(Zs [Zn 4 0] (.seqa (.reg [Zm 9 0,Zk 10 9,Zn 11 0] []) (.blk 0 (.loop Dn)) [0,1] [] NN))
def m225:aU A1 225 2 A225 aO=true:=by kernel_rfl
def A190:ar:=(Zs [Zo 3 (.box 2 0),Zo 4 (.box 2 1),Zo 5 (.box 2 2),Zn 6 0] (.seq (.drw [Zv 7 2 3,Zv 8 2 4,Zo 9 (.call 223 [7,8]),Zv 10 2 3,Zv 11 2 5,Zo 12 (.call 223 [10,11]),Zo 13 (.call 189 [9,12]),Za 14 1 4,Zl 15 14,Zk 16 15,Za 17 1 5,Zl 18 17,Zk 19 18,Zo 20 (.call 189 [16,19]),Za 21 1 4,Zl 22 21,Za 23 1 5,Zl 24 23,Zo 25 (.call 225 [22,24]),Za 26 0 4,Zl 27 26,Za 28 0 5,Zl 29 28,Zo 30 (.call 189 [27,29]),Zo 31 (.bsl 1 true [13,20,25,30]),Zo 32 (.call 188 [31]),Zm 6 32] []) .ret))
def m190:aU A1 190 3 A190 dx=true:=by kernel_rfl
def A266:ar:=(Zs [Zo 3 (.box 2 0),Zo 4 (.box 2 1),Zn 5 0] (Zs [Zv 6 2 2,Zv 7 2 3,Zv 8 2 4,Zo 9 (.call 190 [6,7,8]),Zm 5 9] .ret))
def Au:List RV:=[.t 5]
def m266:aU A1 266 3 A266 Au=true:=by kernel_rfl
def Ko:ar:=(Zs [Zl 19 7,Zo 20 (.mkf 266 [3]),Zo 21 (.callM 265 [19,20] [500000448,3])] (.seq (.reg [Zl 22 7,Zm 6 22] [.s 6]) .ret))
def A245:ar:=(.seq (.reg [Zo 3 (.box 2 0),Zo 4 (.box 1 1),Zo 5 (.box 1 2),Zo 6 (.mv (.c (.lst .u 2 [])))] [.s 6]) (.seq (.reg [Zo 9 (.bsl 2 false []),Zo 7 (.alloc (.lst .u 2 [])),Zw (.store 1 7 9)] [.f false 500000448 7 0]) (Zs [Zo 8 (.alloc (.sc .nilFunc))] (Zs [Zo 10 (.mkf 264 [5,7,4,3,8]),Zw (.store 1 8 10)] (.seqr (Zs [Zl 11 4,Zl 12 5,Zb 13 .neq 11 12] (.cond 13 (.drw [Zl 14 8,Zl 15 4,Zl 16 4,Zo 17 (.bin .shl (.c (.i 1)) 16),Zo 18 (.dynM 14 [15,17,(.c (.lst .u 1 []))] [5,7,500000448,4,3,8])] [.f false 500000448 7 0]) .skip)) [3,7] [3,7,500000448] Ko)))))
def m245:aU A1 245 3 A245 dx=true:=by kernel_rfl
def Lo:ar:=(.cond 19 (.seq (.reg [Zo 6 (.mv (.c (.lst .u 2 []))),Zh 7 false] [.s 6]) .ret) .skip)
def A221:ar:=(.seq (.reg [Zo 3 (.box 2 0),Zo 6 (.mv (.c (.lst .u 2 []))),Zh 7 false] [.s 6]) (.seq (.seqr (.reg [Zv 9 2 3,Zm 10 1,Zm 11 2,Zo 12 (.bsl 1 false [10,11]),Zo 13 (.call 244 [9,12]),Zo 14 (.un .not 13),Zm 15 14,Zg 16 (.mv 1) 15 false,Zg 17 (.mv 2) 15 false,Zg 18 (.bin .eql 16 17) 15 false,Zo 19 (.pick 15 (Zy true) 18)] []) [1,2,3,19] [3] Lo) (.seq (.reg [Zv 20 2 3,Zm 21 1,Zm 22 2,Zo 23 (.call 245 [20,21,22]),Zm 8 23] [.s 8]) (.seq (Zs [Zm 24 8,Zk 25 24,Zd 26 .gtr 25 200] (.cond 26 (.seq (.reg [Zo 6 (.mv (.c (.lst .u 2 []))),Zh 7 false] [.s 6]) .ret) .skip)) (.seq (.reg [Zm 27 8,Zm 6 27,Zh 7 true] [.s 6]) .ret)))))
def m221:aU A1 221 3 A221 io=true:=by kernel_rfl
def Le:ar:=(.cond 14 (Zs [Zn 4 0,Zh 5 false] .ret) .skip)
def Da:ar:=(.seq (Zs [Zm 18 6,Zd 19 .geq 18 0] (.cond 19 .skip (.exit 0))) (.seq (.blk 1 (Zs [Zm 22 0,Zm 23 6,Zx 24 2 22 23,Za 25 0 24,Zl 26 25,Zm 27 1,Zb 28 .geq 26 27] (.cond 28 (Zs [Zm 29 6,Zm 4 29,Zh 5 true] .ret) .skip))) (.reg [Zm 20 6,Zd 21 .sub 20 1,Zm 6 21] [])))
def KP:ar:=(Zs [Zn 4 0,Zh 5 false] .ret)
def A246:ar:=(Zs [Zn 4 0,Zh 5 false] (.seq (.seqr (.reg [Zm 7 0,Zo 8 (.call 219 [7]),Zo 9 (.un .not 8),Zm 10 9,Zg 11 (.mv 1) 10 false,Zg 12 (.call 76 [11,(.c (.i 0)),(.c (.i 20000))]) 10 false,Zg 13 (.un .not 12) 10 false,Zo 14 (.pick 10 (Zy true) 13)] []) [0,1,14] [] Le) (.seqa (.reg [Zm 15 0,Zk 16 15,Zd 17 .sub 16 1,Zm 6 17] []) (.blk 0 (.loop Da)) [] [] KP)))
def m246:aU A1 246 2 A246 nD=true:=by kernel_rfl
def RP:ar:=(.cond 23 (Zs [Zn 6 0,Zh 7 false] .ret) .skip)
def A222:ar:=(Zs [Zn 6 0,Zh 7 false] (Zs [Zm 12 0,Zm 13 1,Zo 14 (.call 246 [12,13]),Zm 11 14,Ze 15 11 0,Ze 16 11 1,Zm 8 15,Zm 9 16] (.seq (.seqr (.reg [Zm 17 9,Zo 18 (.un .not 17),Zm 19 18,Zg 20 (.mv 2) 19 false,Zg 21 (.call 76 [20,(.c (.i 1)),(.c (.i 1000))]) 19 false,Zg 22 (.un .not 21) 19 false,Zo 23 (.pick 19 (Zy true) 22)] []) [0,2,8,23] [] RP) (.seq (.drw [Zm 24 2,Zm 25 0,Zm 26 8,Zx 27 2 25 26,Za 28 1 27,Zl 29 28,Zb 30 .add 24 29,Zd 31 .sub 30 1,Zm 32 0,Zm 33 8,Zx 34 2 32 33,Za 35 1 34,Zl 36 35,Zb 37 .quo 31 36,Zm 10 37] []) (.seq (Zs [Zm 38 10,Zd 39 .gtr 38 24] (.cond 39 (Zs [Zn 6 0,Zh 7 false] .ret) .skip)) (Zs [Zm 40 10,Zm 6 40,Zh 7 true] .ret))))))
def m222:aU A1 222 3 A222 io=true:=by kernel_rfl
def yh:ar:=(.cond 24 (.seq (.reg [Zo 6 (.mv (.c (.lst .u 3 []))),Zh 7 false] [.s 6]) .ret) .skip)
def rh:ar:=(Zs [Zb 40 .lss 39 38] (.seq (.cond 40 .skip (.exit 0)) (.seq (.blk 1 (Zs [Zx 41 2 37 39,Zv 42 2 41,Zo 12 (.alloc (.agg [.i 0,.lst .u 1 []])),Zw (.store 2 12 42)] (.seq (.drw [Zm 44 1,Zv 45 2 3,Zv 46 2 12,Zo 47 (.call 223 [45,46]),Za 48 2 5,Zl 49 48,Zo 50 (.call 222 [44,47,49]),Zm 43 50,Ze 51 43 0,Ze 52 43 1,Zm 13 51,Zm 14 52] []) (Zs [Zm 53 14] (.cond 53 (.reg [Zm 54 10,Zv 55 2 12,Zm 56 13,Zo 57 (.build [.i 0,.lst .u 1 [],.i 0] [(0,2,55),(2,1,56)]),Zo 58 (.bsl 3 false [57]),Zo 59 (.app 3 40 true 54 58),Zm 10 59] [.s 10]) .skip))))) (.reg [Zd 60 .add 39 1,Zm 39 60] []))))
def Ab:ar:=(.seq (.reg [Zm 61 10,Zm 6 61,Zh 7 true] [.s 6]) .ret)
def Ru:ar:=(.seq (.reg [Zo 3 (.box 2 0),Zo 5 (.box 4 2),Zo 6 (.mv (.c (.lst .u 3 []))),Zh 7 false] [.s 6]) (.seq (.seqr (.reg [Zm 15 1,Zo 16 (.call 219 [15]),Zo 17 (.un .not 16),Zm 18 17,Zg 19 (.load 2 true 3) 18 false,Zg 20 (.load 4 true 5) 18 false,Zg 21 (.bsl 4 false [20]) 18 false,Zg 22 (.call 220 [19,21]) 18 false,Zg 23 (.un .not 22) 18 false,Zo 24 (.pick 18 (Zy true) 23)] []) [1,3,5,24] [3,5] yh) (.seq (.reg [Zv 26 2 3,Za 27 0 5,Zl 28 27,Za 29 1 5,Zl 30 29,Zo 31 (.call 221 [26,28,30]),Zm 25 31,Ze 32 25 0,Ze 33 25 1,Zm 8 32,Zm 9 33] [.s 8]) (.seq (Zs [Zm 34 9,Zo 35 (.un .not 34)] (.cond 35 (.seq (.reg [Zo 6 (.mv (.c (.lst .u 3 []))),Zh 7 false] [.s 6]) .ret) .skip)) (.seq (.reg [Zo 36 (.bsl 3 false []),Zm 10 36] [.s 10]) (.seqa (.reg [Zm 37 8,Zk 38 37,Zn 39 0] []) (.blk 0 (.loop rh)) [10] [10] Ab))))))
def ace:aU A1 186 3 Ru io=true:=by kernel_rfl
def A187:ar:=(Zs [Zo 1 (.box 3 0),Zn 2 0] (Zs [Za 3 2 1,Zl 4 3,Za 5 0 1,Za 6 1 5,Zl 7 6,Zk 8 7,Zb 9 .mul 4 8,Zm 2 9] .ret))
def m187:aU A1 187 1 A187 bL=true:=by kernel_rfl
def A238:ar:=(Zs [Zo 2 (.box 3 0),Zo 3 (.box 3 1),Zn 4 0] (.seq (.drw [Zv 5 3 2,Zo 6 (.call 187 [5]),Zv 7 3 3,Zo 8 (.call 187 [7]),Zo 9 (.call 189 [6,8]),Zm 4 9] []) .ret))
def m238:aU A1 238 2 A238 aO=true:=by kernel_rfl
def yo:ar:=(.cond 34 .skip (.exit 2))
def se:ar:=(.seq (.seqr (.drw [Zm 18 9,Zm 19 1,Zb 20 .gtr 18 19,Zm 21 20,Zg 22 (.mv 3) 21 true,Zg 23 (.mv 0) 21 true,Zg 24 (.mv 9) 21 true,Zg 25 (.idx 3 23 24) 21 true,Zg 26 (.load 3 true 25) 21 true,Zg 27 (.mv 0) 21 true,Zg 28 (.mv 9) 21 true,Zg 29 (.bin .sub 28 (.c (.i 1))) 21 true,Zg 30 (.idx 3 27 29) 21 true,Zg 31 (.load 3 true 30) 21 true,Zg 32 (.dyn 22 [26,31]) 21 true,Zg 33 (.bin .lss 32 (.c (.i 0))) 21 true,Zo 34 (.pick 21 33 (Zy false))] []) [0,1,2,3,8,9,34] [1000000000] yo) (.seq (.blk 3 (.drw [Zm 37 0,Zm 38 9,Zm 39 0,Zm 40 9,Zd 41 .sub 40 1,Zm 42 0,Zm 43 9,Zd 44 .sub 43 1,Zx 45 3 42 44,Zv 46 3 45,Zm 47 0,Zm 48 9,Zx 49 3 47 48,Zv 50 3 49,Zx 51 3 37 38,Zw (.store 3 51 46),Zx 52 3 39 41,Zw (.store 3 52 50)] [])) (.reg [Zm 35 9,Zd 36 .sub 35 1,Zm 9 36] [])))
def yS:ar:=(.reg [Zm 15 8,Zd 16 .add 15 1,Zm 8 16] [])
def sg:ar:=(.seq (Zs [Zm 12 8,Zm 13 2,Zb 14 .lss 12 13] (.cond 14 .skip (.exit 0))) (.seqr (.blk 1 (Zs [Zm 17 8,Zm 9 17] (.blk 2 (.loop se)))) [0,1,2,3,8] [1000000000] yS))
def LB:ar:=(Zs [Zm 10 1,Zd 11 .add 10 1,Zm 8 11] (.blk 0 (.loop sg)))
def YZ:aU A1 272 4 LB bP=true:=by kernel_rfl
def sO:ar:=(.seq (Zs [Zm 11 10,Zm 12 3,Zb 13 .lss 11 12] (.cond 13 .skip (.exit 0))) (.seq (.blk 1 (.drw [Zm 16 0,Zm 17 1,Zm 18 10,Zb 19 .add 17 18,Zm 20 0,Zm 21 2,Zm 22 10,Zb 23 .add 21 22,Zm 24 0,Zm 25 2,Zm 26 10,Zb 27 .add 25 26,Zx 28 3 24 27,Zv 29 3 28,Zm 30 0,Zm 31 1,Zm 32 10,Zb 33 .add 31 32,Zx 34 3 30 33,Zv 35 3 34,Zx 36 3 16 19,Zw (.store 3 36 29),Zx 37 3 20 23,Zw (.store 3 37 35)] [])) (.reg [Zm 14 10,Zd 15 .add 14 1,Zm 10 15] [])))
def PV:ar:=(Zs [Zn 10 0] (.blk 0 (.loop sO)))
def aag:aU A1 287 5 PV bP=true:=by kernel_rfl
def rB:ar:=(.seq (Zs [Zm 18 10,Zm 19 11,Zb 20 .neq 18 19] (.cond 20 .skip (.exit 0))) (.blk 1 (Zs [Zm 21 10,Zm 22 11,Zb 23 .gtr 21 22] (.cond 23 (Zs [Zm 24 0,Zm 25 2,Zm 26 10,Zb 27 .sub 25 26,Zm 28 2,Zm 29 11,Zm 30 4,Zo 31 (.callM 287 [24,27,28,29,30] [1000000000])] (.reg [Zm 32 10,Zm 33 11,Zb 34 .sub 32 33,Zm 10 34] [])) (Zs [Zm 35 0,Zm 36 2,Zm 37 10,Zb 38 .sub 36 37,Zm 39 2,Zm 40 11,Zb 41 .add 39 40,Zm 42 10,Zb 43 .sub 41 42,Zm 44 10,Zm 45 4,Zo 46 (.callM 287 [35,38,43,44,45] [1000000000])] (.reg [Zm 47 11,Zm 48 10,Zb 49 .sub 47 48,Zm 11 49] []))))))
def yI:ar:=(.reg [Zm 50 0,Zm 51 2,Zm 52 10,Zb 53 .sub 51 52,Zm 54 2,Zm 55 10,Zm 56 4,Zo 57 (.callM 287 [50,53,54,55,56] [1000000000])] [])
def Np:ar:=(Zs [Zm 12 2,Zm 13 1,Zb 14 .sub 12 13,Zm 10 14] (Zs [Zm 15 3,Zm 16 2,Zb 17 .sub 15 16,Zm 11 17] (.seqr (.blk 0 (.loop rB)) [0,2,4,10] [1000000000] yI)))
def adk:aU A1 277 5 Np bP=true:=by kernel_rfl
def rO:ar:=(.seq (Zs [Zm 31 10,Zm 32 11,Zb 33 .lss 31 32] (.cond 33 .skip (.exit 0))) (.blk 1 (Zs [Zm 34 10,Zm 35 11,Zb 36 .add 34 35,Zo 37 (.conv .u64 36),Zo 38 (.bin .shr 37 (.c (.sc (.int .u64 1)))),Zo 39 (.conv .i64 38),Zm 12 39] (.seq (.drw [Zm 40 4,Zm 41 0,Zm 42 12,Zx 43 3 41 42,Zv 44 3 43,Zm 45 0,Zm 46 1,Zx 47 3 45 46,Zv 48 3 47,Zo 49 (.dyn 40 [44,48]),Zd 50 .lss 49 0] []) (.cond 50 (.reg [Zm 51 12,Zd 52 .add 51 1,Zm 10 52] []) (.reg [Zm 53 12,Zm 11 53] []))))))
def rV:ar:=(.seq (Zs [Zm 55 13,Zm 56 10,Zd 57 .sub 56 1,Zb 58 .lss 55 57] (.cond 58 .skip (.exit 2))) (.seq (.blk 3 (.drw [Zm 61 0,Zm 62 13,Zm 63 0,Zm 64 13,Zd 65 .add 64 1,Zm 66 0,Zm 67 13,Zd 68 .add 67 1,Zx 69 3 66 68,Zv 70 3 69,Zm 71 0,Zm 72 13,Zx 73 3 71 72,Zv 74 3 73,Zx 75 3 61 62,Zw (.store 3 75 70),Zx 76 3 63 65,Zw (.store 3 76 74)] [])) (.reg [Zm 59 13,Zd 60 .add 59 1,Zm 13 60] [])))
def zZ:ar:=.ret
def Ax:ar:=(.seqa (.reg [Zm 54 1,Zm 13 54] []) (.blk 2 (.loop rV)) [] [1000000000] zZ)
def rl:ar:=(.seq (Zs [Zm 83 14,Zm 84 15,Zb 85 .lss 83 84] (.cond 85 .skip (.exit 4))) (.blk 5 (Zs [Zm 86 14,Zm 87 15,Zb 88 .add 86 87,Zo 89 (.conv .u64 88),Zo 90 (.bin .shr 89 (.c (.sc (.int .u64 1)))),Zo 91 (.conv .i64 90),Zm 16 91] (.seq (.drw [Zm 92 4,Zm 93 0,Zm 94 2,Zx 95 3 93 94,Zv 96 3 95,Zm 97 0,Zm 98 16,Zx 99 3 97 98,Zv 100 3 99,Zo 101 (.dyn 92 [96,100]),Zd 102 .lss 101 0,Zo 103 (.un .not 102)] []) (.cond 103 (.reg [Zm 104 16,Zd 105 .add 104 1,Zm 14 105] []) (.reg [Zm 106 16,Zm 15 106] []))))))
def pW:ar:=(.seq (Zs [Zm 108 17,Zm 109 14,Zb 110 .gtr 108 109] (.cond 110 .skip (.exit 6))) (.seq (.blk 7 (.drw [Zm 113 0,Zm 114 17,Zm 115 0,Zm 116 17,Zd 117 .sub 116 1,Zm 118 0,Zm 119 17,Zd 120 .sub 119 1,Zx 121 3 118 120,Zv 122 3 121,Zm 123 0,Zm 124 17,Zx 125 3 123 124,Zv 126 3 125,Zx 127 3 113 114,Zw (.store 3 127 122),Zx 128 3 115 117,Zw (.store 3 128 126)] [])) (.reg [Zm 111 17,Zd 112 .sub 111 1,Zm 17 112] [])))
def zW:ar:=.ret
def yc:ar:=(.seqa (.reg [Zm 107 2,Zm 17 107] []) (.blk 6 (.loop pW)) [] [1000000000] zW)
def nX:ar:=(.seq (Zs [Zm 149 20,Zm 150 21,Zb 151 .lss 149 150] (.cond 151 .skip (.exit 8))) (.blk 9 (Zs [Zm 152 20,Zm 153 21,Zb 154 .add 152 153,Zo 155 (.conv .u64 154),Zo 156 (.bin .shr 155 (.c (.sc (.int .u64 1)))),Zo 157 (.conv .i64 156),Zm 23 157] (.seq (.drw [Zm 158 4,Zm 159 0,Zm 160 22,Zm 161 23,Zb 162 .sub 160 161,Zx 163 3 159 162,Zv 164 3 163,Zm 165 0,Zm 166 23,Zx 167 3 165 166,Zv 168 3 167,Zo 169 (.dyn 158 [164,168]),Zd 170 .lss 169 0,Zo 171 (.un .not 170)] []) (.cond 171 (.reg [Zm 172 23,Zd 173 .add 172 1,Zm 20 173] []) (.reg [Zm 174 23,Zm 21 174] []))))))
def uD:ar:=(.cond 185 (.reg [Zm 186 0,Zm 187 20,Zm 188 2,Zm 189 24,Zm 190 4,Zo 191 (.callM 277 [186,187,188,189,190] [1000000000])] []) .skip)
def ux:ar:=(.cond 199 (.reg [Zm 200 0,Zm 201 1,Zm 202 20,Zm 203 18,Zm 204 4,Zo 205 (.callM 273 [200,201,202,203,204] [1000000000])] []) .skip)
def tQ:ar:=(.cond 213 (.reg [Zm 214 0,Zm 215 18,Zm 216 24,Zm 217 3,Zm 218 4,Zo 219 (.callM 273 [214,215,216,217,218] [1000000000])] []) .skip)
def uv:ar:=(.seqr (.reg [Zm 206 18,Zm 207 24,Zb 208 .lss 206 207,Zm 209 208,Zg 210 (.mv 24) 209 true,Zg 211 (.mv 3) 209 true,Zg 212 (.bin .lss 210 211) 209 true,Zo 213 (.pick 209 212 (Zy false))] []) [0,3,4,18,24,213] [1000000000] tQ)
def uz:ar:=(.seqr (.seqr (.reg [Zm 192 1,Zm 193 20,Zb 194 .lss 192 193,Zm 195 194,Zg 196 (.mv 20) 195 true,Zg 197 (.mv 18) 195 true,Zg 198 (.bin .lss 196 197) 195 true,Zo 199 (.pick 195 198 (Zy false))] []) [0,1,3,4,18,20,24,199] [1000000000] ux) [0,3,4,18,24] [1000000000] uv)
def uK:ar:=(Zs [Zm 175 19,Zm 176 20,Zb 177 .sub 175 176,Zm 24 177] (.seqr (.seqr (.reg [Zm 178 20,Zm 179 2,Zb 180 .lss 178 179,Zm 181 180,Zg 182 (.mv 2) 181 true,Zg 183 (.mv 24) 181 true,Zg 184 (.bin .lss 182 183) 181 true,Zo 185 (.pick 181 184 (Zy false))] []) [0,1,2,3,4,18,20,24,185] [1000000000] uD) [0,1,3,4,18,20,24] [1000000000] uz))
def Aa:ar:=(Zs [Zm 147 19,Zd 148 .sub 147 1,Zm 22 148] (.seqr (.blk 8 (.loop nX)) [0,1,2,3,4,18,19,20] [1000000000] uK))
def KG:ar:=(.seq (Zs [Zm 25 2,Zm 26 1,Zb 27 .sub 25 26,Zd 28 .eql 27 1] (.cond 28 (Zs [Zm 29 2,Zm 10 29] (Zs [Zm 30 3,Zm 11 30] (.seqr (.blk 0 (.loop rO)) [0,1,10] [1000000000] Ax))) .skip)) (.seq (Zs [Zm 77 3,Zm 78 2,Zb 79 .sub 77 78,Zd 80 .eql 79 1] (.cond 80 (Zs [Zm 81 1,Zm 14 81] (Zs [Zm 82 2,Zm 15 82] (.seqr (.blk 4 (.loop rl)) [0,2,14] [1000000000] yc))) .skip)) (Zs [Zm 129 1,Zm 130 3,Zb 131 .add 129 130,Zo 132 (.conv .u64 131),Zo 133 (.bin .shr 132 (.c (.sc (.int .u64 1)))),Zo 134 (.conv .i64 133),Zm 18 134] (Zs [Zm 135 18,Zm 136 2,Zb 137 .add 135 136,Zm 19 137] (Zs [Zn 20 0,Zn 21 0] (.seqr (Zs [Zm 138 2,Zm 139 18,Zb 140 .gtr 138 139] (.cond 140 (Zs [Zm 141 19,Zm 142 3,Zb 143 .sub 141 142,Zm 20 143] (.reg [Zm 144 18,Zm 21 144] [])) (Zs [Zm 145 1,Zm 20 145] (.reg [Zm 146 2,Zm 21 146] [])))) [0,1,2,3,4,18,19,20,21] [1000000000] Aa))))))
def acr:aU A1 273 5 KG bP=true:=by kernel_rfl
def qv:ar:=(.seq (Zs [Zm 11 8,Zm 12 1,Zb 13 .leq 11 12] (.cond 13 .skip (.exit 0))) (.blk 1 (Zs [Zm 14 0,Zm 15 7,Zm 16 8,Zm 17 2,Zo 18 (.callM 272 [14,15,16,17] [1000000000])] (Zs [Zm 19 8,Zm 7 19] (.reg [Zm 20 8,Zm 21 6,Zb 22 .add 20 21,Zm 8 22] [])))))
def rm:ar:=(.seq (Zs [Zm 33 8,Zm 34 1,Zb 35 .leq 33 34] (.cond 35 .skip (.exit 4))) (.blk 5 (Zs [Zm 36 0,Zm 37 7,Zm 38 7,Zm 39 6,Zb 40 .add 38 39,Zm 41 8,Zm 42 2,Zo 43 (.callM 273 [36,37,40,41,42] [1000000000])] (Zs [Zm 44 8,Zm 7 44] (.reg [Zm 45 8,Zm 46 6,Zo 47 (.bin .mul (.c (.i 2)) 46),Zb 48 .add 45 47,Zm 8 48] [])))))
def yr:ar:=(.seq (Zs [Zm 49 7,Zm 50 6,Zb 51 .add 49 50,Zm 9 51] (Zs [Zm 52 9,Zm 53 1,Zb 54 .lss 52 53] (.cond 54 (.reg [Zm 55 0,Zm 56 7,Zm 57 9,Zm 58 1,Zm 59 2,Zo 60 (.callM 273 [55,56,57,58,59] [1000000000])] []) .skip))) (.reg [Zm 61 6,Zd 62 .mul 61 2,Zm 6 62] []))
def qy:ar:=(.seq (Zs [Zm 28 6,Zm 29 1,Zb 30 .lss 28 29] (.cond 30 .skip (.exit 2))) (.blk 3 (Zs [Zm 31 6,Zo 32 (.bin .mul (.c (.i 2)) 31),Zn 7 0,Zm 8 32] (.seqr (.blk 4 (.loop rm)) [0,1,2,6,7] [1000000000] yr))))
def Az:ar:=(Zs [Zm 23 0,Zm 24 7,Zm 25 1,Zm 26 2,Zo 27 (.callM 272 [23,24,25,26] [1000000000])] (.blk 2 (.loop qy)))
def RD:ar:=(Zs [Zn 6 20] (Zs [Zm 10 6,Zn 7 0,Zm 8 10] (.seqr (.blk 0 (.loop qv)) [0,1,2,6,7] [1000000000] Az)))
def Zz:aU A1 260 3 RD bP=true:=by kernel_rfl
def NS:ar:=(.reg [Zm 4 0,Zm 5 0,Zk 6 5,Zm 7 1,Zo 8 (.callM 260 [4,6,7] [1000000000])] [])
def acg:aU A1 237 2 NS bP=true:=by kernel_rfl
def Kf:ar:=(.seq (.reg [Zo 2 (.mv (.c (.lst .u 3 [])))] [.s 2]) (Zs [Zm 3 0,Zo 4 (.callM 237 [3,(.c (.fn 238 []))] [1000000000])] (.seq (.reg [Zm 5 0,Zm 2 5] [.s 2]) .ret)))
def aat:aU A1 211 1 Kf bL=true:=by kernel_rfl
def zI:ar:=(.cond 23 (.seq (.reg [Zo 24 (.build [.i 0,.lst .u 1 [],.i 0] []),Zw (.store 3 6 24),Zh 7 false] [.w 6]) .ret) .skip)
def PC:ar:=(Zs [Zo 3 (.box 2 0),Zo 5 (.box 4 2),Zo 6 (.alloc (.agg [.i 0,.lst .u 1 [],.i 0])),Zh 7 false] (.seq (.reg [Zv 11 2 3,Zm 12 1,Zv 13 4 5,Zo 14 (.callM 186 [11,12,13] []),Zm 10 14,Ze 15 10 0,Ze 16 10 1,Zm 8 15,Zm 9 16] [.s 8]) (.seq (.seqr (.reg [Zm 17 9,Zo 18 (.un .not 17),Zm 19 18,Zg 20 (.mv 8) 19 false,Zg 21 (.len 20) 19 false,Zg 22 (.bin .eql 21 (.c (.i 0))) 19 false,Zo 23 (.pick 19 (Zy true) 22)] []) [6,8,23] [6,8] zI) (.seq (.reg [Zm 25 8,Zo 26 (.callM 211 [25] [8]),Zo 27 (.idx 3 26 (.c (.i 0))),Zv 28 3 27,Zw (.store 3 6 28),Zh 7 true] [.w 6]) .ret))))
def wU:List RV:=[.c 6 3 true,.t 7]
def YX:aU A1 156 3 PC wU=true:=by kernel_rfl
def Ad:ar:=(.cond 85 (.drw [Zv 86 2 3,Za 87 0 18,Zv 88 2 87,Za 89 0 11,Zv 90 2 89,Zo 91 (.call 190 [86,88,90]),Zv 92 2 3,Za 93 0 19,Zv 94 2 93,Za 95 0 12,Zv 96 2 95,Zo 97 (.call 190 [92,94,96]),Zo 98 (.bsl 1 true [91,97]),Zo 99 (.call 188 [98]),Zm 20 99] []) .skip)
def yM:ar:=(.cond 105 (.drw [Zv 106 3 18,Zo 107 (.ldv [11] 3 true 19),Zw (.stw 11 3 11 106),Zw (.stv 3 12 107),Zh 13 true] [.w 11,.w 12]) .skip)
def xc:ar:=(.seqr (.reg [Zm 100 13,Zo 101 (.un .not 100),Zm 102 101,Zg 103 (.mv 20) 102 false,Zg 104 (.bin .lss 103 (.c (.i 0))) 102 false,Zo 105 (.pick 102 (Zy true) 104)] []) [3,6,7,9,11,12,13,15,18,19,34,35,36,44,45,46,105] [3,6,7,9,11,12,15,18,19] yM)
def yK:ar:=(.seq (.drw [Zv 68 3 18,Zo 69 (.call 187 [68]),Zv 70 3 19,Zo 71 (.call 187 [70]),Zb 72 .add 69 71,Zv 73 3 11,Zo 74 (.call 187 [73]),Zv 75 3 12,Zo 76 (.call 187 [75]),Zb 77 .add 74 76,Zo 78 (.call 189 [72,77]),Zo 79 (.bsl 1 true [78,(.c (.i 0))]),Zo 80 (.call 188 [79]),Zm 20 80] []) (.seqr (.seqr (.reg [Zm 81 13,Zm 82 81,Zg 83 (.mv 20) 82 true,Zg 84 (.bin .eql 83 (.c (.i 0))) 82 true,Zo 85 (.pick 82 84 (Zy false))] []) [3,6,7,9,11,12,13,15,18,19,20,34,35,36,44,45,46,85] [3,6,7,9,11,12,15,18,19] Ad) [3,6,7,9,11,12,13,15,18,19,20,34,35,36,44,45,46] [3,6,7,9,11,12,15,18,19] xc))
def qG:ar:=(Zs [Zb 47 .lss 46 45] (.seq (.cond 47 .skip (.exit 2)) (.seq (.blk 3 (Zs [Zx 48 3 44 46,Zv 49 3 48,Zo 17 (.alloc (.agg [.i 0,.lst .u 1 [],.i 0])),Zw (.store 3 17 49)] (.seq (Zs [Zv 50 2 3,Za 51 0 15,Za 52 1 51,Zl 53 52,Za 54 0 17,Za 55 1 54,Zl 56 55,Zo 57 (.call 136 [50,53,56]),Zo 58 (.un .not 57)] (.cond 58 (.exit 3) .skip)) (.seq (.drw [Zo 59 (.ldv [] 3 true 15),Zo 60 (.ldv [] 3 true 17),Zo 18 (.alloc (.agg [.i 0,.lst .u 1 [],.i 0])),Zo 19 (.alloc (.agg [.i 0,.lst .u 1 [],.i 0])),Zw (.stv 3 18 59),Zw (.store 3 19 60)] []) (.seqr (.seq (.drw [Zv 61 3 17,Zo 62 (.call 187 [61]),Zv 63 3 15,Zo 64 (.call 187 [63]),Zb 65 .lss 62 64] []) (.cond 65 (.drw [Zv 66 3 17,Zo 67 (.ldv [18] 3 true 15),Zw (.stw 18 3 18 66),Zw (.store 3 19 67)] []) .skip)) [3,6,7,9,11,12,13,15,18,19,34,35,36,44,45,46] [3,6,7,9,11,12,15,18,19] yK))))) (.reg [Zd 108 .add 46 1,Zm 46 108] []))))
def xb:ar:=(.reg [Zd 109 .add 36 1,Zm 36 109] [])
def qk:ar:=(Zs [Zb 37 .lss 36 35] (.seq (.cond 37 .skip (.exit 0)) (.seqr (.blk 1 (Zs [Zm 38 36,Zx 39 3 34 36,Zv 40 3 39,Zo 15 (.alloc (.agg [.i 0,.lst .u 1 [],.i 0])),Zm 14 38,Zw (.store 3 15 40)] (Zs [Zm 41 9,Zm 42 14,Zd 43 .add 42 1,Zo 44 (.slc 3 41 (some 43) none none),Zk 45 44,Zn 46 0] (.blk 2 (.loop qG))))) [3,6,7,9,11,12,13,34,35,36] [3,6,7,9,11,12] xb)))
def yf:ar:=(.seq (.drw [Zv 110 3 11,Zo 111 (.ldv [6] 3 true 12),Zm 112 13,Zw (.stw 6 3 6 110),Zw (.stv 3 7 111),Zm 8 112] []) .ret)
def LO:ar:=(Zs [Zo 3 (.box 2 0),Zo 5 (.box 4 2),Zo 6 (.alloc (.agg [.i 0,.lst .u 1 [],.i 0])),Zo 7 (.alloc (.agg [.i 0,.lst .u 1 [],.i 0])),Zh 8 false] (.seq (.reg [Zv 22 2 3,Zm 23 1,Zv 24 4 5,Zo 25 (.callM 186 [22,23,24] []),Zm 21 25,Ze 26 21 0,Ze 27 21 1,Zm 9 26,Zm 10 27] [.s 9]) (.seq (.reg [Zo 28 (.build [.i 0,.lst .u 1 [],.i 0] []),Zo 29 (.build [.i 0,.lst .u 1 [],.i 0] []),Zo 11 (.alloc (.agg [.i 0,.lst .u 1 [],.i 0])),Zo 12 (.alloc (.agg [.i 0,.lst .u 1 [],.i 0])),Zw (.store 3 11 28),Zw (.store 3 12 29),Zh 13 false] [.w 11,.w 12]) (.seq (Zs [Zm 30 10,Zo 31 (.un .not 30)] (.cond 31 (.seq (.drw [Zv 32 3 11,Zo 33 (.ldv [6] 3 true 12),Zw (.stw 6 3 6 32),Zw (.stv 3 7 33),Zh 8 false] []) .ret) .skip)) (.seqa (.reg [Zm 34 9,Zk 35 34,Zn 36 0] []) (.blk 0 (.loop qk)) [6,7,11,12,13] [6,7,11,12] yf)))))
def ws:List RV:=[.c 6 3 true,.c 7 3 true,.t 8]
def adz:aU A1 124 3 LO ws=true:=by kernel_rfl
def A212:ar:=(Zs [Zo 3 (.box 10 0),Zh 4 false] (Zs [Zv 5 2 1,Zv 6 10 3,Zv 7 10 2,Zo 8 (.call 97 [5,6,7]),Zo 9 (.un .not 8),Zm 4 9] .ret))
def m212:aU A1 212 3 A212 aO=true:=by kernel_rfl
def A159:ar:=(Zs [Zo 3 (.box 2 0),Zo 5 (.box 10 2),Zh 6 false] (Zs [Zm 7 1,Zo 8 (.mkf 212 [3,5]),Zo 9 (.call 95 [7,8]),Zo 10 (.un .not 9),Zm 6 10] .ret))
def m159:aU A1 159 3 A159 dx=true:=by kernel_rfl
def Kl:ar:=(Zs [Zo 4 (.box 2 0),Zh 5 false] (Zs [Zv 6 2 4,Za 7 4 1,Zw (.store 2 7 6)] (Zs [Zv 8 2 2,Zl 9 3,Zv 10 10 1,Zo 11 (.call 159 [8,9,10]),Zm 5 11] .ret)))
def abt:aU A1 158 4 Kl Au=true:=by kernel_rfl
def rZ:ar:=(.seq (Zs [Zm 7 6,Zm 8 0,Zb 9 .add 7 8,Zd 10 .leq 9 24] (.cond 10 .skip (.exit 0))) (.seq (.blk 1 (Zs [Zm 13 1,Zm 14 6,Zm 15 0,Zo 16 (.build [.i 0,.i 0] [(0,1,14),(1,1,15)]),Zo 17 (.dynM 13 [16] [1000000002,1000000000,1000000001])] (.cond 17 (Zs [Zm 18 6,Zm 19 0,Zo 20 (.build [.i 0,.i 0] [(0,1,18),(1,1,19)]),Zw (.store 2 4 20),Zh 5 true] .ret) .skip))) (.reg [Zm 11 6,Zd 12 .add 11 1,Zm 6 12] [])))
def xj:ar:=(Zs [Zo 21 (.build [.i 0,.i 0] []),Zw (.store 2 4 21),Zh 5 false] .ret)
def QM:ar:=(Zs [Zo 4 (.alloc (.agg [.i 0,.i 0])),Zh 5 false] (.seqa (.reg [Zn 6 0] []) (.blk 0 (.loop rZ)) [4] [4,1000000000,1000000001,1000000002] xj))
def iQ:List RV:=[.c 4 2 true,.t 5]
def adr:aU A1 157 2 QM iQ=true:=by kernel_rfl
def PH:ar:=(Zs [Zo 4 (.box 2 0),Zh 5 false] (Zs [Zv 6 2 4,Za 7 8 1,Zw (.store 2 7 6)] (Zs [Zv 8 2 2,Zl 9 3,Zv 10 10 1,Zo 11 (.call 159 [8,9,10]),Zm 5 11] .ret)))
def aar:aU A1 160 4 PH Au=true:=by kernel_rfl
def rj:ar:=(.seq (Zs [Zm 7 6,Zm 8 0,Zb 9 .add 7 8,Zd 10 .leq 9 24] (.cond 10 .skip (.exit 0))) (.seq (.blk 1 (Zs [Zm 13 1,Zm 14 6,Zm 15 0,Zo 16 (.build [.i 0,.i 0] [(0,1,14),(1,1,15)]),Zo 17 (.dynM 13 [16] [1000000002,1000000000,1000000001])] (.cond 17 (Zs [Zm 18 6,Zm 19 0,Zo 20 (.build [.i 0,.i 0] [(0,1,18),(1,1,19)]),Zw (.store 2 4 20),Zh 5 true] .ret) .skip))) (.reg [Zm 11 6,Zd 12 .add 11 1,Zm 6 12] [])))
def zB:ar:=(Zs [Zo 21 (.build [.i 0,.i 0] []),Zw (.store 2 4 21),Zh 5 false] .ret)
def Lp:ar:=(Zs [Zo 4 (.alloc (.agg [.i 0,.i 0])),Zh 5 false] (.seqa (.reg [Zn 6 0] []) (.blk 0 (.loop rj)) [4] [4,1000000000,1000000001,1000000002] zB))
def acp:aU A1 157 2 Lp iQ=true:=by kernel_rfl
def vg:ar:=(.seq (Zs [Zl 15 6,Zo 16 (.mkf 155 [10]),Zo 17 (.call 95 [15,16])] (.cond 17 .skip (.exit 0))) (.blk 1 (.reg [Za 18 0 10,Zl 19 18,Zd 20 .add 19 1,Za 21 0 10,Zw (.store 1 21 20)] [])))
def EA:ar:=(.cond 64 (.seq (.reg [Zv 65 10 10,Zm 66 12,Zw (.store 10 8 65),Zm 9 66] [.w 8,.w 8]) .ret) .skip)
def Ff:ar:=(.seq (Zs [Zm 41 12,Zo 42 (.un .not 41)] (.cond 42 (.seq (.reg [Zo 43 (.build [.i 0,.i 0,.i 0,.lst .u 1 [],.i 0,.i 0,.i 0,.lst .u 1 [],.i 0,.i 0] []),Zw (.store 10 8 43),Zh 9 false] [.w 8,.w 8]) .ret) .skip)) (.seq (.reg [Za 44 0 11,Zv 45 2 44,Za 46 2 10,Zw (.store 2 46 45)] [.w 10]) (Zs [Za 48 2 11,Zl 49 48,Zo 50 (.mkf 158 [10,4,6]),Zo 51 (.callM 157 [49,50] [4,6,10]),Zm 47 51,Ze 52 47 0,Ze 53 47 1,Za 54 4 10,Zw (.store 2 54 52),Zm 12 53] (Zs [Za 55 3 7,Zl 56 55,Za 57 1 10,Zw (.store 1 57 56)] (.seq (.seqr (.reg [Zm 58 12,Zo 59 (.un .not 58),Zm 60 59,Zg 61 (.fad 3 7) 60 false,Zg 62 (.load 1 false 61) 60 false,Zg 63 (.bin .eql 62 (.c (.i 0))) 60 false,Zo 64 (.pick 60 (Zy true) 63)] []) [4,6,8,10,12,13,64] [4,6,8,10,13] EA) (.seq (.reg [Za 67 0 13,Zv 68 2 67,Za 69 6 10,Zw (.store 2 69 68)] [.w 10]) (Zs [Za 71 2 13,Zl 72 71,Zo 73 (.mkf 160 [10,4,6]),Zo 74 (.callM 157 [72,73] [4,6,10]),Zm 70 74,Ze 75 70 0,Ze 76 70 1,Za 77 8 10,Zw (.store 2 77 75),Zm 12 76] (.seq (.reg [Zv 78 10 10,Zm 79 12,Zw (.store 10 8 78),Zm 9 79] [.w 8,.w 8]) .ret))))))))
def DZ:ar:=(Zs [Zv 23 2 4,Zm 24 1,Zv 25 4 7,Zo 26 (.callM 156 [23,24,25] []),Zm 22 26,Ze 27 22 0,Ze 28 22 1,Zo 11 (.alloc (.agg [.i 0,.lst .u 1 [],.i 0])),Zw (.store 3 11 27),Zm 12 28] (.seq (.reg [Zo 29 (.build [.i 0,.lst .u 1 [],.i 0] []),Zo 13 (.alloc (.agg [.i 0,.lst .u 1 [],.i 0])),Zw (.store 3 13 29)] [.w 13]) (.seqr (Zs [Za 30 3 7,Zl 31 30,Zd 32 .neq 31 0] (.cond 32 (.reg [Zv 34 2 4,Zm 35 1,Zv 36 4 7,Zo 37 (.callM 124 [34,35,36] []),Zm 33 37,Ze 38 33 0,Ze 39 33 1,Ze 40 33 2,Zw (.store 3 11 38),Zw (.store 3 13 39),Zm 12 40] [.w 13]) .skip)) [4,6,7,8,10,11,12,13] [4,6,7,8,10,11,13] Ff)))
def Yg:ar:=(Zs [Zo 4 (.box 2 0),Zo 6 (.box 1 2),Zo 7 (.box 4 3),Zo 8 (.alloc (.agg [.i 0,.i 0,.i 0,.lst .u 1 [],.i 0,.i 0,.i 0,.lst .u 1 [],.i 0,.i 0])),Zh 9 false] (.seq (.reg [Zo 14 (.build [.i 0,.i 0,.i 0,.lst .u 1 [],.i 0,.i 0,.i 0,.lst .u 1 [],.i 0,.i 0] [(0,1,(.c (.i 1)))]),Zo 10 (.alloc (.agg [.i 0,.i 0,.i 0,.lst .u 1 [],.i 0,.i 0,.i 0,.lst .u 1 [],.i 0,.i 0])),Zw (.store 10 10 14)] [.w 10,.w 10]) (.seqr (.blk 0 (.loop vg)) [1,4,6,7,8,10] [4,6,7,8,10] DZ)))
def zX:List RV:=[.c 8 10 true,.t 9]
def afz:aU A1 85 4 Yg zX=true:=by kernel_rfl
def A161:ar:=(Zs [Zo 1 (.box 2 0),Zo 2 (.alloc (.agg [.i 0,.lst .u 1 []]))] (.seq (.drw [Zo 3 (.fdv [] 0 1),Zo 4 (.ldv [] 1 false 3),Zo 5 (.bsl 1 true []),Za 6 1 1,Zl 7 6,Zo 8 (.app 1 8 false 5 7),Zo 9 (.build [.i 0,.lst .u 1 []] [(0,1,4),(1,1,8)]),Zw (.store 2 2 9)] []) .ret))
def m161:aU A1 161 1 A161 V32=true:=by kernel_rfl
def NF:ar:=(Zs [Zb 10 .lss 9 8] (.seq (.cond 10 .skip (.exit 0)) (.seq (.blk 1 (Zs [Zx 11 10 7 9,Zv 12 10 11,Zo 5 (.alloc (.agg [.i 0,.i 0,.i 0,.lst .u 1 [],.i 0,.i 0,.i 0,.lst .u 1 [],.i 0,.i 0])),Zw (.store 10 5 12)] (.seq (.drw [Za 13 2 5,Zv 14 2 13,Zo 15 (.call 161 [14]),Za 16 6 5,Zv 17 2 16,Zo 18 (.call 161 [17]),Za 19 2 5,Zw (.store 2 19 15),Za 20 6 5,Zw (.store 2 20 18)] []) (.reg [Zm 21 3,Zv 22 10 5,Zo 23 (.bsl 10 false [22]),Zo 24 (.app 10 112 true 21 23),Zm 3 24] [.s 3])))) (.reg [Zd 25 .add 9 1,Zm 9 25] []))))
def Yp:ar:=(.seq (.reg [Zm 26 3,Zm 2 26] [.s 2]) .ret)
def A86:ar:=(.seq (.reg [Zo 2 (.mv (.c (.lst .u 10 [])))] [.s 2]) (.seq (.reg [Zo 6 (.bsl 10 false []),Zm 3 6] [.s 3]) (.seqa (.reg [Zm 7 0,Zk 8 7,Zn 9 0] []) (.blk 0 (.loop NF)) [3] [3] Yp)))
def m86:aU A1 86 1 A86 bL=true:=by kernel_rfl
def Xy:ar:=(.cond 23 (.seq (.reg [Zo 8 (.mv (.c (.lst .u 10 []))),Zn 9 0,Zh 10 false] [.s 8]) .ret) .skip)
def Ph:ar:=(.seq (.seq (.drw [Zm 36 14,Zm 37 2,Zk 38 37,Zb 39 .lss 36 38,Zm 40 39,Zg 41 (.mv 2) 40 true,Zg 42 (.mv 14) 40 true,Zg 43 (.idx 10 41 42) 40 true,Zg 44 (.fad 0 43) 40 true,Zg 45 (.load 1 false 44) 40 true,Zg 46 (.fad 0 11) 40 true,Zg 47 (.load 1 false 46) 40 true,Zg 48 (.bin .lss 45 47) 40 true,Zo 49 (.pick 40 48 (Zy false))] []) (.cond 49 .skip (.exit 0))) (.blk 1 (.reg [Zm 50 14,Zd 51 .add 50 1,Zm 14 51] [])))
def Yo:ar:=(.seq (.drw [Zm 52 13,Zm 53 14,Zv 54 10 11,Zo 55 (.bsm 10 [54]),Zo 56 (.call 86 [55]),Zo 57 (.callM 87 [52,53,56] [13,56]),Zo 58 (.fdv [13,56] 0 11),Zo 59 (.ldv [13,56] 1 false 58),Zm 8 57,Zm 9 59,Zh 10 true] [.s 8]) .ret)
def A22:ar:=(.seq (.reg [Zo 4 (.box 2 0),Zo 7 (.box 4 3),Zo 8 (.mv (.c (.lst .u 10 []))),Zn 9 0,Zh 10 false] [.s 8]) (.seq (.seqr (.reg [Zv 15 2 4,Zm 16 2,Zo 17 (.call 24 [15,16]),Zo 18 (.un .not 17),Zm 19 18,Zg 20 (.mv 2) 19 false,Zg 21 (.len 20) 19 false,Zg 22 (.bin .eql 21 (.c (.i 8))) 19 false,Zo 23 (.pick 19 (Zy true) 22)] []) [1,2,4,7,23] [4,7] Xy) (Zs [Zv 25 2 4,Zm 26 1,Zm 27 2,Zv 28 4 7,Zo 29 (.callM 85 [25,26,27,28] []),Zm 24 29,Ze 30 24 0,Ze 31 24 1,Zo 11 (.alloc (.agg [.i 0,.i 0,.i 0,.lst .u 1 [],.i 0,.i 0,.i 0,.lst .u 1 [],.i 0,.i 0])),Zw (.store 10 11 30),Zm 12 31] (.seq (Zs [Zm 32 12,Zo 33 (.un .not 32)] (.cond 33 (.seq (.reg [Zo 8 (.mv (.c (.lst .u 10 []))),Zn 9 0,Zh 10 false] [.s 8]) .ret) .skip)) (.seq (.reg [Zm 34 2,Zo 35 (.call 86 [34]),Zm 13 35,Zn 14 0] [.s 13]) (.seqr (.blk 0 (.loop Ph)) [11,13,14] [11,13] Yo))))))
def m22:aU A1 22 4 A22 oB=true:=by kernel_rfl
def DL:ar:=(.seq (Zs [Zm 11 5,Zm 12 0,Zk 13 12,Zb 14 .lss 11 13] (.cond 14 .skip (.exit 0))) (.seq (.blk 1 (.seq (.drw [Zm 17 0,Zm 18 5,Zx 19 1 17 18,Zl 20 19,Zm 21 1,Zm 22 5,Zx 23 1 21 22,Zl 24 23,Zb 25 .neq 20 24] []) (.cond 25 (Zs [Zh 4 false] .ret) .skip))) (.reg [Zm 15 5,Zd 16 .add 15 1,Zm 5 16] [])))
def Yj:ar:=(Zs [Zh 4 true] .ret)
def A36:ar:=(Zs [Zh 4 false] (.seq (Zs [Zm 6 0,Zk 7 6,Zm 8 1,Zk 9 8,Zb 10 .neq 7 9] (.cond 10 (Zs [Zh 4 false] .ret) .skip)) (.seqa (.reg [Zn 5 0] []) (.blk 0 (.loop DL)) [] [] Yj)))
def m36:aU A1 36 2 A36 aO=true:=by kernel_rfl
def A48:ar:=(Zs [Zo 2 (.box 2 0),Zo 3 (.box 2 1),Zh 4 false] (.seq (Zs [Za 5 0 2,Zl 6 5,Za 7 0 3,Zl 8 7,Zb 9 .neq 6 8] (.cond 9 (Zs [Zh 4 false] .ret) .skip)) (.seq (Zs [Za 10 1 2,Zl 11 10,Za 12 1 3,Zl 13 12,Zo 14 (.call 36 [11,13]),Zo 15 (.un .not 14)] (.cond 15 (Zs [Zh 4 false] .ret) .skip)) (Zs [Zh 4 true] .ret))))
def m48:aU A1 48 2 A48 aO=true:=by kernel_rfl
def A180:ar:=(Zs [Zo 2 (.box 2 0),Zo 3 (.box 2 1),Zh 4 false] (.seq (Zs [Za 5 0 2,Zl 6 5,Za 7 0 3,Zl 8 7,Zb 9 .neq 6 8] (.cond 9 (Zs [Zh 4 false] .ret) .skip)) (.seq (Zs [Za 10 1 2,Zl 11 10,Za 12 1 3,Zl 13 12,Zb 14 .neq 11 13] (.cond 14 (Zs [Zh 4 false] .ret) .skip)) (Zs [Zh 4 true] .ret))))
def m180:aU A1 180 2 A180 aO=true:=by kernel_rfl
def A118:ar:=(Zs [Zo 2 (.box 10 0),Zo 3 (.box 10 1),Zh 4 false] (.seq (Zs [Za 5 0 2,Zl 6 5,Za 7 0 3,Zl 8 7,Zb 9 .neq 6 8] (.cond 9 (Zs [Zh 4 false] .ret) .skip)) (.seq (Zs [Za 10 1 2,Zl 11 10,Za 12 1 3,Zl 13 12,Zb 14 .neq 11 13] (.cond 14 (Zs [Zh 4 false] .ret) .skip)) (.seq (Zs [Za 15 2 2,Zv 16 2 15,Za 17 2 3,Zv 18 2 17,Zo 19 (.call 48 [16,18]),Zo 20 (.un .not 19)] (.cond 20 (Zs [Zh 4 false] .ret) .skip)) (.seq (Zs [Za 21 4 2,Zv 22 2 21,Za 23 4 3,Zv 24 2 23,Zo 25 (.call 180 [22,24]),Zo 26 (.un .not 25)] (.cond 26 (Zs [Zh 4 false] .ret) .skip)) (.seq (Zs [Za 27 6 2,Zv 28 2 27,Za 29 6 3,Zv 30 2 29,Zo 31 (.call 48 [28,30]),Zo 32 (.un .not 31)] (.cond 32 (Zs [Zh 4 false] .ret) .skip)) (.seq (Zs [Za 33 8 2,Zv 34 2 33,Za 35 8 3,Zv 36 2 35,Zo 37 (.call 180 [34,36]),Zo 38 (.un .not 37)] (.cond 38 (Zs [Zh 4 false] .ret) .skip)) (Zs [Zh 4 true] .ret))))))))
def m118:aU A1 118 2 A118 aO=true:=by kernel_rfl
def KY:ar:=(.seq (Zs [Zm 11 5,Zm 12 0,Zk 13 12,Zb 14 .lss 11 13] (.cond 14 .skip (.exit 0))) (.seq (.blk 1 (.seq (.drw [Zm 17 0,Zm 18 5,Zx 19 10 17 18,Zv 20 10 19,Zm 21 1,Zm 22 5,Zx 23 10 21 22,Zv 24 10 23,Zo 25 (.call 118 [20,24]),Zo 26 (.un .not 25)] []) (.cond 26 (Zs [Zh 4 false] .ret) .skip))) (.reg [Zm 15 5,Zd 16 .add 15 1,Zm 5 16] [])))
def Xw:ar:=(Zs [Zh 4 true] .ret)
def A38:ar:=(Zs [Zh 4 false] (.seq (Zs [Zm 6 0,Zk 7 6,Zm 8 1,Zk 9 8,Zb 10 .neq 7 9] (.cond 10 (Zs [Zh 4 false] .ret) .skip)) (.seqa (.reg [Zn 5 0] []) (.blk 0 (.loop KY)) [] [] Xw)))
def m38:aU A1 38 2 A38 aO=true:=by kernel_rfl
def wJ:ar:=(.seq (Zs [Zm 11 5,Zm 12 0,Zk 13 12,Zb 14 .lss 11 13] (.cond 14 .skip (.exit 0))) (.seq (.blk 1 (.seq (.drw [Zm 17 0,Zm 18 5,Zx 19 1 17 18,Zl 20 19,Zm 21 1,Zm 22 5,Zx 23 1 21 22,Zl 24 23,Zb 25 .neq 20 24] []) (.cond 25 (Zs [Zh 4 false] .ret) .skip))) (.reg [Zm 15 5,Zd 16 .add 15 1,Zm 5 16] [])))
def Mi:ar:=(Zs [Zh 4 true] .ret)
def A116:ar:=(Zs [Zh 4 false] (.seq (Zs [Zm 6 0,Zk 7 6,Zm 8 1,Zk 9 8,Zb 10 .neq 7 9] (.cond 10 (Zs [Zh 4 false] .ret) .skip)) (.seqa (.reg [Zn 5 0] []) (.blk 0 (.loop wJ)) [] [] Mi)))
def m116:aU A1 116 2 A116 aO=true:=by kernel_rfl
def abu:ar:=(Zs [Zo 2 (.box 4 0),Zo 3 (.box 4 1),Zh 4 false] (.seq (Zs [Za 5 0 2,Zl 6 5,Za 7 0 3,Zl 8 7,Zb 9 .neq 6 8] (.cond 9 (Zs [Zh 4 false] .ret) .skip)) (.seq (Zs [Za 10 1 2,Zl 11 10,Za 12 1 3,Zl 13 12,Zb 14 .neq 11 13] (.cond 14 (Zs [Zh 4 false] .ret) .skip)) (.seq (Zs [Za 15 2 2,Zl 16 15,Za 17 2 3,Zl 18 17,Zb 19 .neq 16 18] (.cond 19 (Zs [Zh 4 false] .ret) .skip)) (.seq (Zs [Za 20 3 2,Zl 21 20,Za 22 3 3,Zl 23 22,Zb 24 .neq 21 23] (.cond 24 (Zs [Zh 4 false] .ret) .skip)) (Zs [Zh 4 true] .ret))))))
def m179:aU A1 179 2 abu aO=true:=by kernel_rfl
def wq:ar:=(.seq (Zs [Zm 11 5,Zm 12 0,Zk 13 12,Zb 14 .lss 11 13] (.cond 14 .skip (.exit 0))) (.seq (.blk 1 (.seq (.drw [Zm 17 0,Zm 18 5,Zx 19 4 17 18,Zv 20 4 19,Zm 21 1,Zm 22 5,Zx 23 4 21 22,Zv 24 4 23,Zo 25 (.call 179 [20,24]),Zo 26 (.un .not 25)] []) (.cond 26 (Zs [Zh 4 false] .ret) .skip))) (.reg [Zm 15 5,Zd 16 .add 15 1,Zm 5 16] [])))
def OL:ar:=(Zs [Zh 4 true] .ret)
def A117:ar:=(Zs [Zh 4 false] (.seq (Zs [Zm 6 0,Zk 7 6,Zm 8 1,Zk 9 8,Zb 10 .neq 7 9] (.cond 10 (Zs [Zh 4 false] .ret) .skip)) (.seqa (.reg [Zn 5 0] []) (.blk 0 (.loop wq)) [] [] OL)))
def m117:aU A1 117 2 A117 aO=true:=by kernel_rfl
def A37:ar:=(Zs [Zo 2 (.box 2 0),Zo 3 (.box 2 1),Zh 4 false] (.seq (Zs [Za 5 0 2,Zl 6 5,Za 7 0 3,Zl 8 7,Zo 9 (.call 116 [6,8]),Zo 10 (.un .not 9)] (.cond 10 (Zs [Zh 4 false] .ret) .skip)) (.seq (Zs [Za 11 1 2,Zl 12 11,Za 13 1 3,Zl 14 13,Zo 15 (.call 117 [12,14]),Zo 16 (.un .not 15)] (.cond 16 (Zs [Zh 4 false] .ret) .skip)) (Zs [Zh 4 true] .ret))))
def m37:aU A1 37 2 A37 aO=true:=by kernel_rfl
def A125:ar:=(Zs [Zo 2 (.box 2 0),Zo 3 (.box 2 1),Zh 4 false] (.seq (Zs [Za 5 0 2,Zl 6 5,Za 7 0 3,Zl 8 7,Zb 9 .neq 6 8] (.cond 9 (Zs [Zh 4 false] .ret) .skip)) (.seq (Zs [Za 10 1 2,Zl 11 10,Za 12 1 3,Zl 13 12,Zb 14 .neq 11 13] (.cond 14 (Zs [Zh 4 false] .ret) .skip)) (Zs [Zh 4 true] .ret))))
def m125:aU A1 125 2 A125 aO=true:=by kernel_rfl
def Qj:ar:=(.seq (Zs [Zm 11 5,Zm 12 0,Zk 13 12,Zb 14 .lss 11 13] (.cond 14 .skip (.exit 0))) (.seq (.blk 1 (.seq (.drw [Zm 17 0,Zm 18 5,Zx 19 2 17 18,Zv 20 2 19,Zm 21 1,Zm 22 5,Zx 23 2 21 22,Zv 24 2 23,Zo 25 (.call 125 [20,24]),Zo 26 (.un .not 25)] []) (.cond 26 (Zs [Zh 4 false] .ret) .skip))) (.reg [Zm 15 5,Zd 16 .add 15 1,Zm 5 16] [])))
def XM:ar:=(Zs [Zh 4 true] .ret)
def A49:ar:=(Zs [Zh 4 false] (.seq (Zs [Zm 6 0,Zk 7 6,Zm 8 1,Zk 9 8,Zb 10 .neq 7 9] (.cond 10 (Zs [Zh 4 false] .ret) .skip)) (.seqa (.reg [Zn 5 0] []) (.blk 0 (.loop Qj)) [] [] XM)))
def m49:aU A1 49 2 A49 aO=true:=by kernel_rfl
def Cc:ar:=(.seq (Zs [Zm 6 0,Zd 7 .gtr 6 0] (.cond 7 .skip (.exit 0))) (.blk 1 (Zs [Zm 8 0,Zd 9 .rem 8 10,Zo 10 (.bin .add (.c (.i 48)) 9),Zo 11 (.conv .u8 10),Zo 12 (.bsl 1 false [11]),Zo 13 (.b2s 12),Zm 14 3,Zb 15 .add 13 14,Zm 3 15] (.reg [Zm 16 0,Zd 17 .quo 16 10,Zm 0 17] []))))
def Py:ar:=(Zs [Zm 18 3,Zo 19 (.bin .add (.c (.z ⟨#[109]⟩)) 18),Zm 2 19] .ret)
def A181:ar:=(Zs [Zo 2 (.mv (.c (.z ⟨#[]⟩)))] (.seq (Zs [Zm 4 0,Zd 5 .leq 4 0] (.cond 5 (Zs [Zo 2 (.mv (.c (.z ⟨#[109,48]⟩)))] .ret) .skip)) (Zs [Zo 3 (.mv (.c (.z ⟨#[]⟩)))] (.seqr (.blk 0 (.loop Cc)) [3] [] Py))))
def m181:aU A1 181 1 A181 bL=true:=by kernel_rfl
def mT:ar:=(.seq (Zs [Zm 6 5,Zm 7 0,Zk 8 7,Zb 9 .lss 6 8] (.cond 9 .skip (.exit 0))) (.seq (.blk 1 (Zs [Zm 12 0,Zm 13 5,Zm 14 1,Zo 15 (.call 181 [14]),Zx 16 1 12 13,Zw (.store 1 16 15)] (.reg [Zm 17 1,Zd 18 .add 17 1,Zm 1 18] []))) (.reg [Zm 10 5,Zd 11 .add 10 1,Zm 5 11] [])))
def Aq:ar:=(Zs [Zm 19 1,Zm 4 19] .ret)
def Px:ar:=(Zs [Zn 4 0] (.seqa (.reg [Zn 5 0] []) (.blk 0 (.loop mT)) [1] [1000000000] Aq))
def aak:aU A1 119 2 Px aO=true:=by kernel_rfl
def qp:ar:=(.seq (Zs [Zm 6 5,Zm 7 0,Zk 8 7,Zb 9 .lss 6 8] (.cond 9 .skip (.exit 0))) (.seq (.blk 1 (Zs [Zm 12 0,Zm 13 5,Zm 14 1,Zx 15 4 12 13,Za 16 0 15,Zw (.store 1 16 14)] (Zs [Zm 17 1,Zd 18 .add 17 1,Zm 1 18] (Zs [Zm 19 0,Zm 20 5,Zm 21 1,Zx 22 4 19 20,Za 23 1 22,Zw (.store 1 23 21)] (Zs [Zm 24 1,Zd 25 .add 24 1,Zm 1 25] (Zs [Zm 26 0,Zm 27 5,Zm 28 1,Zx 29 4 26 27,Za 30 2 29,Zw (.store 1 30 28)] (Zs [Zm 31 1,Zd 32 .add 31 1,Zm 1 32] (Zs [Zm 33 0,Zm 34 5,Zm 35 1,Zx 36 4 33 34,Za 37 3 36,Zw (.store 1 37 35)] (.reg [Zm 38 1,Zd 39 .add 38 1,Zm 1 39] []))))))))) (.reg [Zm 10 5,Zd 11 .add 10 1,Zm 5 11] [])))
def xf:ar:=(Zs [Zm 40 1,Zm 4 40] .ret)
def PG:ar:=(Zs [Zn 4 0] (.seqa (.reg [Zn 5 0] []) (.blk 0 (.loop qp)) [1] [1000000000] xf))
def abh:aU A1 120 2 PG aO=true:=by kernel_rfl
def Xv:ar:=(Zs [Zo 2 (.box 2 0),Zn 4 0] (Zs [Za 5 0 2,Zl 6 5,Zm 7 1,Zo 8 (.callM 119 [6,7] [1000000000]),Zm 1 8] (Zs [Za 9 1 2,Zl 10 9,Zm 11 1,Zo 12 (.callM 120 [10,11] [1000000001]),Zm 1 12] (Zs [Zm 13 1,Zm 4 13] .ret))))
def ags:aU A1 39 2 Xv aO=true:=by kernel_rfl
def wh:ar:=(.seq (Zs [Zm 6 5,Zm 7 0,Zk 8 7,Zb 9 .lss 6 8] (.cond 9 .skip (.exit 0))) (.seq (.blk 1 (Zs [Zm 12 0,Zm 13 5,Zm 14 1,Zx 15 2 12 13,Za 16 0 15,Zw (.store 1 16 14)] (Zs [Zm 17 1,Zd 18 .add 17 1,Zm 1 18] (Zs [Zm 19 0,Zm 20 5,Zm 21 1,Zx 22 2 19 20,Za 23 1 22,Zw (.store 1 23 21)] (.reg [Zm 24 1,Zd 25 .add 24 1,Zm 1 25] []))))) (.reg [Zm 10 5,Zd 11 .add 10 1,Zm 5 11] [])))
def Dt:ar:=(Zs [Zm 26 1,Zm 4 26] .ret)
def Yu:ar:=(Zs [Zn 4 0] (.seqa (.reg [Zn 5 0] []) (.blk 0 (.loop wh)) [1] [1000000000] Dt))
def agx:aU A1 50 2 Yu aO=true:=by kernel_rfl
def pQ:ar:=(.seq (Zs [Zm 6 5,Zm 7 0,Zk 8 7,Zb 9 .lss 6 8] (.cond 9 .skip (.exit 0))) (.seq (.blk 1 (Zs [Zm 12 0,Zm 13 5,Zm 14 1,Zx 15 1 12 13,Zw (.store 1 15 14)] (.reg [Zm 16 1,Zd 17 .add 16 1,Zm 1 17] []))) (.reg [Zm 10 5,Zd 11 .add 10 1,Zm 5 11] [])))
def Fq:ar:=(Zs [Zm 18 1,Zm 4 18] .ret)
def Yn:ar:=(Zs [Zn 4 0] (.seqa (.reg [Zn 5 0] []) (.blk 0 (.loop pQ)) [1] [1000000000] Fq))
def aev:aU A1 41 2 Yn aO=true:=by kernel_rfl
def wC:ar:=(.seq (Zs [Zm 6 5,Zm 7 0,Zk 8 7,Zb 9 .lss 6 8] (.cond 9 .skip (.exit 0))) (.seq (.blk 1 (Zs [Zm 12 0,Zm 13 5,Zm 14 1,Zx 15 10 12 13,Za 16 0 15,Zw (.store 1 16 14)] (Zs [Zm 17 1,Zd 18 .add 17 1,Zm 1 18] (Zs [Zm 19 0,Zm 20 5,Zm 21 1,Zx 22 10 19 20,Za 23 1 22,Zw (.store 1 23 21)] (Zs [Zm 24 1,Zd 25 .add 24 1,Zm 1 25] (Zs [Zm 26 0,Zm 27 5,Zm 28 1,Zx 29 10 26 27,Za 30 2 29,Za 31 0 30,Zw (.store 1 31 28)] (Zs [Zm 32 1,Zd 33 .add 32 1,Zm 1 33] (.seq (.regh [Zm 34 0,Zm 35 5,Zx 36 10 34 35,Za 37 2 36,Za 38 1 37] (.inn 39 10 1 38 [(40,1)] 41 41 [39,40]) [Zm 1 41] []) (Zs [Zm 42 0,Zm 43 5,Zm 44 1,Zx 45 10 42 43,Za 46 4 45,Za 47 0 46,Zw (.store 1 47 44)] (Zs [Zm 48 1,Zd 49 .add 48 1,Zm 1 49] (Zs [Zm 50 0,Zm 51 5,Zm 52 1,Zx 53 10 50 51,Za 54 4 53,Za 55 1 54,Zw (.store 1 55 52)] (Zs [Zm 56 1,Zd 57 .add 56 1,Zm 1 57] (Zs [Zm 58 0,Zm 59 5,Zm 60 1,Zx 61 10 58 59,Za 62 6 61,Za 63 0 62,Zw (.store 1 63 60)] (Zs [Zm 64 1,Zd 65 .add 64 1,Zm 1 65] (.seq (.regh [Zm 66 0,Zm 67 5,Zx 68 10 66 67,Za 69 6 68,Za 70 1 69] (.inn 71 10 1 70 [(72,1)] 73 41 [71,72]) [Zm 1 73] []) (Zs [Zm 74 0,Zm 75 5,Zm 76 1,Zx 77 10 74 75,Za 78 8 77,Za 79 0 78,Zw (.store 1 79 76)] (Zs [Zm 80 1,Zd 81 .add 80 1,Zm 1 81] (Zs [Zm 82 0,Zm 83 5,Zm 84 1,Zx 85 10 82 83,Za 86 8 85,Za 87 1 86,Zw (.store 1 87 84)] (.reg [Zm 88 1,Zd 89 .add 88 1,Zm 1 89] []))))))))))))))))))) (.reg [Zm 10 5,Zd 11 .add 10 1,Zm 5 11] [])))
def Ft:ar:=(Zs [Zm 90 1,Zm 4 90] .ret)
def XJ:ar:=(Zs [Zn 4 0] (.seqa (.reg [Zn 5 0] []) (.blk 0 (.loop wC)) [1] [1000000000] Ft))
def afo:aU A1 40 2 XJ aO=true:=by kernel_rfl
def Fj:ar:=(.seq (Zs [Zm 6 5,Zm 7 0,Zk 8 7,Zb 9 .lss 6 8] (.cond 9 .skip (.exit 0))) (.seq (.blk 1 (.seq (Zs [Zm 12 0,Zm 13 5,Zx 14 1 12 13,Zl 15 14,Zm 16 1,Zb 17 .neq 15 16] (.cond 17 (Zs [Zn 4 (-1)] .ret) .skip)) (.reg [Zm 18 1,Zd 19 .add 18 1,Zm 1 19] []))) (.reg [Zm 10 5,Zd 11 .add 10 1,Zm 5 11] [])))
def Yy:ar:=(Zs [Zm 20 1,Zm 4 20] .ret)
def A42:ar:=(Zs [Zn 4 0] (.seqa (.reg [Zn 5 0] []) (.blk 0 (.loop Fj)) [1] [] Yy))
def m42:aU A1 42 2 A42 aO=true:=by kernel_rfl
def Qm:ar:=(.seq (Zs [Zm 6 5,Zm 7 0,Zk 8 7,Zb 9 .lss 6 8] (.cond 9 .skip (.exit 0))) (.seq (.blk 1 (.seq (Zs [Zm 12 0,Zm 13 5,Zx 14 10 12 13,Za 15 0 14,Zl 16 15,Zm 17 1,Zb 18 .neq 16 17] (.cond 18 (Zs [Zn 4 (-1)] .ret) .skip)) (Zs [Zm 19 1,Zd 20 .add 19 1,Zm 1 20] (.seq (Zs [Zm 21 0,Zm 22 5,Zx 23 10 21 22,Za 24 1 23,Zl 25 24,Zm 26 1,Zb 27 .neq 25 26] (.cond 27 (Zs [Zn 4 (-1)] .ret) .skip)) (Zs [Zm 28 1,Zd 29 .add 28 1,Zm 1 29] (.seq (Zs [Zm 30 0,Zm 31 5,Zx 32 10 30 31,Za 33 2 32,Za 34 0 33,Zl 35 34,Zm 36 1,Zb 37 .neq 35 36] (.cond 37 (Zs [Zn 4 (-1)] .ret) .skip)) (Zs [Zm 38 1,Zd 39 .add 38 1,Zm 1 39] (Zs [Zm 40 0,Zm 41 5,Zx 42 10 40 41,Za 43 2 42,Za 44 1 43,Zl 45 44,Zm 46 1,Zo 47 (.call 42 [45,46]),Zm 1 47] (.seq (Zs [Zm 48 1,Zd 49 .lss 48 0] (.cond 49 (Zs [Zn 4 (-1)] .ret) .skip)) (.seq (Zs [Zm 50 0,Zm 51 5,Zx 52 10 50 51,Za 53 4 52,Za 54 0 53,Zl 55 54,Zm 56 1,Zb 57 .neq 55 56] (.cond 57 (Zs [Zn 4 (-1)] .ret) .skip)) (Zs [Zm 58 1,Zd 59 .add 58 1,Zm 1 59] (.seq (Zs [Zm 60 0,Zm 61 5,Zx 62 10 60 61,Za 63 4 62,Za 64 1 63,Zl 65 64,Zm 66 1,Zb 67 .neq 65 66] (.cond 67 (Zs [Zn 4 (-1)] .ret) .skip)) (Zs [Zm 68 1,Zd 69 .add 68 1,Zm 1 69] (.seq (Zs [Zm 70 0,Zm 71 5,Zx 72 10 70 71,Za 73 6 72,Za 74 0 73,Zl 75 74,Zm 76 1,Zb 77 .neq 75 76] (.cond 77 (Zs [Zn 4 (-1)] .ret) .skip)) (Zs [Zm 78 1,Zd 79 .add 78 1,Zm 1 79] (Zs [Zm 80 0,Zm 81 5,Zx 82 10 80 81,Za 83 6 82,Za 84 1 83,Zl 85 84,Zm 86 1,Zo 87 (.call 42 [85,86]),Zm 1 87] (.seq (Zs [Zm 88 1,Zd 89 .lss 88 0] (.cond 89 (Zs [Zn 4 (-1)] .ret) .skip)) (.seq (Zs [Zm 90 0,Zm 91 5,Zx 92 10 90 91,Za 93 8 92,Za 94 0 93,Zl 95 94,Zm 96 1,Zb 97 .neq 95 96] (.cond 97 (Zs [Zn 4 (-1)] .ret) .skip)) (Zs [Zm 98 1,Zd 99 .add 98 1,Zm 1 99] (.seq (Zs [Zm 100 0,Zm 101 5,Zx 102 10 100 101,Za 103 8 102,Za 104 1 103,Zl 105 104,Zm 106 1,Zb 107 .neq 105 106] (.cond 107 (Zs [Zn 4 (-1)] .ret) .skip)) (.reg [Zm 108 1,Zd 109 .add 108 1,Zm 1 109] []))))))))))))))))))))) (.reg [Zm 10 5,Zd 11 .add 10 1,Zm 5 11] [])))
def XR:ar:=(Zs [Zm 110 1,Zm 4 110] .ret)
def A63:ar:=(Zs [Zn 4 0] (.seqa (.reg [Zn 5 0] []) (.blk 0 (.loop Qm)) [1] [] XR))
def m63:aU A1 63 2 A63 aO=true:=by kernel_rfl
def A9R1:ar:=(.cond 82 (Zs [Zh 8 false] .ret) .skip)
def A9R2:ar:=(.cond 124 (Zs [Zh 8 false] .ret) .skip)
def A9R3:ar:=(.cond 162 (Zs [Zh 8 false] .ret) .skip)
def A9:ar:=(Zs [Zo 4 (.box 2 0),Zo 7 (.box 4 3),Zh 8 false] (Zs [Zn 9 1048576] (Zs [Zv 25 2 4,Zm 26 9,Zo 27 (.call 29 [25,26]),Zm 9 27] (.seq (Zs [Zm 28 9,Zd 29 .lss 28 0] (.cond 29 (Zs [Zh 8 true] .ret) .skip)) (Zs [Zm 30 1,Zm 31 9,Zo 32 (.call 43 [30,31]),Zm 9 32] (.seq (Zs [Zm 33 9,Zd 34 .lss 33 0] (.cond 34 (Zs [Zh 8 true] .ret) .skip)) (Zs [Zm 35 2,Zm 36 9,Zo 37 (.call 30 [35,36]),Zm 9 37] (.seq (Zs [Zm 38 9,Zd 39 .lss 38 0] (.cond 39 (Zs [Zh 8 true] .ret) .skip)) (.seq (.drw [Zv 41 2 4,Zo 42 (.call 32 [41]),Zm 43 1,Zo 44 (.call 45 [43]),Zm 45 2,Zo 46 (.call 33 [45]),Zv 47 4 7,Zo 48 (.call 46 [47]),Zo 49 (.callM 23 [42,44,46,48] [42,1042,44,46]),Zm 40 49,Ze 50 40 0,Ze 51 40 1,Ze 52 40 2,Zm 10 50,Zm 11 51,Zm 12 52] [.s 10]) (Zs [Zv 53 2 4,Zo 54 (.call 32 [53]),Zo 13 (.alloc (.agg [.lst .u 1 [],.lst .u 4 []])),Zw (.store 2 13 54)] (.seq (.reg [Zm 55 1,Zo 56 (.call 45 [55]),Zm 14 56] [.s 14]) (.seq (.reg [Zm 57 2,Zo 58 (.call 33 [57]),Zm 15 58] [.s 15]) (.seq (.drw [Zv 60 2 13,Zm 61 14,Zm 62 15,Zv 63 4 7,Zo 64 (.call 46 [63]),Zo 65 (.call 22 [60,61,62,64]),Zm 59 65,Ze 66 59 0,Ze 67 59 1,Ze 68 59 2,Zm 16 66,Zm 17 67,Zm 18 68] [.s 16]) (.seq (.seqr (.reg [Zm 69 16,Zm 70 10,Zo 71 (.call 38 [69,70]),Zo 72 (.un .not 71),Zm 73 72,Zg 74 (.mv 17) 73 false,Zg 75 (.mv 11) 73 false,Zg 76 (.bin .neq 74 75) 73 false,Zo 77 (.pick 73 (Zy true) 76),Zm 78 77,Zg 79 (.mv 18) 78 false,Zg 80 (.mv 12) 78 false,Zg 81 (.beq true 79 80) 78 false,Zo 82 (.pick 78 (Zy true) 81)] []) [1,2,4,7,10,11,12,13,14,15,16,17,18,82] [4,7,10,13,14,15,16,54,1054] A9R1) (.seq (.seq (.drw [Zv 83 2 13,Zv 84 2 4,Zo 85 (.call 32 [84]),Zo 86 (.call 37 [83,85]),Zo 87 (.un .not 86)] []) (.cond 87 (Zs [Zh 8 false] .ret) .skip)) (.seq (Zs [Zm 88 14,Zm 89 1,Zo 90 (.call 45 [89]),Zo 91 (.call 49 [88,90]),Zo 92 (.un .not 91)] (.cond 92 (Zs [Zh 8 false] .ret) .skip)) (.seq (Zs [Zm 93 15,Zm 94 2,Zo 95 (.call 33 [94]),Zo 96 (.call 38 [93,95]),Zo 97 (.un .not 96)] (.cond 97 (Zs [Zh 8 false] .ret) .skip)) (Zs [Zn 19 1] (Zs [Zv 98 2 13,Zm 99 19,Zo 100 (.callM 39 [98,99] [54,1054]),Zm 19 100] (Zs [Zm 101 14,Zm 102 19,Zo 103 (.callM 50 [101,102] [14]),Zm 19 103] (.seq (.regh [Zm 104 15,Zm 105 19] (.har 106 40 [104,105] [15]) [Zm 19 106] []) (.seq (.seqr (.reg [Zm 107 19,Zd 108 .lss 107 0,Zm 109 108,Zg 110 (.mv 16) 109 false,Zg 111 (.mv 10) 109 false,Zg 112 (.call 38 [110,111]) 109 false,Zg 113 (.un .not 112) 109 false,Zo 114 (.pick 109 (Zy true) 113),Zm 115 114,Zg 116 (.mv 17) 115 false,Zg 117 (.mv 11) 115 false,Zg 118 (.bin .neq 116 117) 115 false,Zo 119 (.pick 115 (Zy true) 118),Zm 120 119,Zg 121 (.mv 18) 120 false,Zg 122 (.mv 12) 120 false,Zg 123 (.beq true 121 122) 120 false,Zo 124 (.pick 120 (Zy true) 123)] []) [1,2,4,7,10,11,12,16,124] [4,7,10,16] A9R2) (Zs [Zn 20 1] (.seq (.regh [Zm 125 16,Zm 126 20] (.har 127 40 [125,126] [16]) [Zm 20 127] []) (Zs [Zn 21 1] (Zs [Zm 128 16,Zm 129 21,Zo 130 (.call 63 [128,129]),Zm 21 130] (.seq (Zs [Zm 131 21,Zd 132 .lss 131 0] (.cond 132 (Zs [Zh 8 false] .ret) .skip)) (.seq (Zs [Zm 133 21,Zm 134 20,Zb 135 .neq 133 134] (.cond 135 (Zs [Zh 8 false] .ret) .skip)) (.seq (.drw [Zv 137 2 4,Zo 138 (.call 32 [137]),Zm 139 1,Zo 140 (.call 45 [139]),Zm 141 2,Zo 142 (.call 33 [141]),Zv 143 4 7,Zo 144 (.call 46 [143]),Zo 145 (.call 22 [138,140,142,144]),Zm 136 145,Ze 146 136 0,Ze 147 136 1,Ze 148 136 2,Zm 22 146,Zm 23 147,Zm 24 148] [.s 22]) (.seq (.seqr (.reg [Zm 149 22,Zm 150 10,Zo 151 (.call 38 [149,150]),Zo 152 (.un .not 151),Zm 153 152,Zg 154 (.mv 23) 153 false,Zg 155 (.mv 11) 153 false,Zg 156 (.bin .neq 154 155) 153 false,Zo 157 (.pick 153 (Zy true) 156),Zm 158 157,Zg 159 (.mv 24) 158 false,Zg 160 (.mv 12) 158 false,Zg 161 (.beq true 159 160) 158 false,Zo 162 (.pick 158 (Zy true) 161)] []) [16,20,162] [16] A9R3) (Zs [Zn 21 1] (Zs [Zm 163 16,Zm 164 21,Zo 165 (.call 63 [163,164]),Zm 21 165] (.seq (Zs [Zm 166 21,Zd 167 .lss 166 0] (.cond 167 (Zs [Zh 8 false] .ret) .skip)) (.seq (Zs [Zm 168 21,Zm 169 20,Zb 170 .neq 168 169] (.cond 170 (Zs [Zh 8 false] .ret) .skip)) (Zs [Zh 8 true] .ret)))))))))))))))))))))))))))))))))))
def m9:aU A1 9 4 A9 vy=true:=by kernel_rfl
end Vs

