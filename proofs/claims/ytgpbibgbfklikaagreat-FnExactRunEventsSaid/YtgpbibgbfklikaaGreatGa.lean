/-
  Part of the proof that FnExactRunEvents returns true at every input.
-/
import Derived.Test.YtgpbibgbfklikaaGreatTe
import Derived.Test.YtgpbibgbfklikaaGreatChecked
import Derived.KernelRfl
import Derived.WalkKit
import Derived.Lib.Walk
import Derived.Lib.SliceRun
import Derived.Lib.JoinLaws
import Derived.Lib.AppendZeros
import Derived.Lib.Overlaps
import Derived.Laws.Externs
import Derived.Laws.IdiomCopy
import Derived.Shelf.RegionOpenPlain
import Derived.Lib.AppendZerosOnto
import Derived.Laws.NewBlocks
import Derived.Deep.AppendSrc
import Derived.Deep.MidRow
import Derived.Shelf.SlSortCmp.NoneTotal
set_option linter.defProp false
set_option linter.unusedSimpArgs false
set_option linter.unusedVariables false
open Go.IntKind renaming wrap -> A0, bits -> A4, wrap_i64 -> B1, i64 -> E3
open Go.Proofs.Tryz renaming prog -> A1, checked -> A7, func214 -> A8, ntmps214 -> A9, underlying184 -> B5, underlying214 -> B6, underlying216 -> B7, underlying211 -> B8, underlying206 -> B9, underlying207 -> C0, underlying227 -> C1, underlying231 -> C2, underlying241 -> C3, underlying242 -> C4, zeroValue184 -> C6, zeroValue214 -> C7, zeroValue216 -> C8, zeroValue211 -> C9, zeroValue206 -> D0, zeroValue207 -> D1, zeroValue227 -> D2, zeroValue231 -> D3, zeroValue241 -> D4, zeroValue242 -> D5, underlying0 -> D8, underlying3 -> D9, underlying4 -> E0, underlying5 -> E1, underlying9 -> E2, zeroValue0 -> E4, zeroValue3 -> E5, zeroValue4 -> E6, zeroValue5 -> E7, zeroValue9 -> E8, sizeOf184 -> E9, sizeOf214 -> F0, sizeOf216 -> F1, sizeOf211 -> F2, sizeOf206 -> F3, sizeOf207 -> F4, sizeOf227 -> F5, sizeOf231 -> F6, sizeOf241 -> F7, sizeOf242 -> F8, isAgg184 -> F9, isAgg214 -> G0, isAgg216 -> G1, isAgg211 -> G2, isAgg206 -> G3, isAgg207 -> G4, isAgg227 -> G5, isAgg231 -> G6, isAgg241 -> G7, isAgg242 -> G8, func172 -> G9, func210 -> H0, func211 -> H1, func111 -> H2, func229 -> H3, func230 -> H4, sizeOf0 -> H5, sizeOf3 -> H6, sizeOf4 -> H7, sizeOf5 -> H8, sizeOf9 -> H9, func242 -> I0, isAgg0 -> I1, isAgg3 -> I2, isAgg4 -> I3, isAgg5 -> I4, isAgg9 -> I5
open Int renaming toNat -> A2
open List renaming replicate -> A3, getElem?_eq_getElem -> B0, mem_of_mem_drop -> B3, getElem?_drop -> B4, length_drop -> D6, length_take -> D7
open Nat renaming add_assoc -> A5, min_def -> B2, min -> C5
open Option renaming map_eq_some_iff -> A6
namespace Vs
open Go
def eqm{α:Type}{g h:α->AV}{k:AV->AV}(e:∀x,k (g x)=h x)(xs:List α):(xs.map g).map k=xs.map h:=by simp[e]
def eqc{α:Type}{g h:α->AV}{k:AV->AV}(e:∀x,k (g x)=h x):k∘g=h:=funext e
structure aw where
 A:Int
 B:Int
 F:Int
 N:Int
 deriving DecidableEq
def au(f:Fl)(x:aw):AV:=.agg [.i x.A,.i x.B,.i x.F,.i x.N]
theorem eW(f:Fl)(x:aw):(au f x).nrm=au .o x:=by simp[au,dN,fO,gf,dN]
def ug(f:Fl):=eqm (eW f)
theorem el(f:Fl)(x:aw):(au f x).als=au f.als x:=by simp[au,eL,fV,ga,dN]
def ue(f:Fl):=eqm (el f)
def uD(f:Fl):=eqc (el f)
theorem en(f:Fl)(x:aw):(au f x).fix=au f.fix x:=by simp[au,fe,fu,ft,dN]
def mN(f:Fl):=eqm (en f)
def qd(x:aw):(au .o x).fz=true:=by simp[au,AV.i,AV.b,AV.z,dU,ck,cY,cm,bK,cU,cR,cQ,cS,ce,da,ch,dS,cg,cZ,cn,bL,cX,cV,db]
def du:=jr qd
def pO(x:aw):(au .u x).ouB=true:=by simp[au,AV.i,AV.b,AV.z,dU,ck,cY,cm,bK,cU,cR,cQ,cS,ce,da,ch,dS,cg,cZ,cn,bL,cX,cV,db]
def dt:=ju pO
structure ah where
 N:List ByteArray
 F:List aw
def aG(f:Fl)(x:ah):AV:=.agg [.lst f 1 (x.N.map AV.z),.lst f 4 (x.F.map (au f))]
def lq(f:Fl)(x:ah):(aG f x).nrm=aG .o x:=by simp[aG,dN,fO,gf,eW,fd,jU]
def qq(f:Fl):=eqm (lq f)
def il(f:Fl)(x:ah):(aG f x).als=aG f.als x:=by simp[aG,eL,fV,ga,el,eZ,jG]
def qw(f:Fl):=eqm (il f)
def qD(f:Fl):=eqc (il f)
def iB(f:Fl)(x:ah):(aG f x).fix=aG f.fix x:=by simp[aG,fe,fu,ft,en,eK,ie]
def kI(f:Fl):=eqm (iB f)
def mP(x:ah):(aG .o x).fz=true:=by simp[aG,AV.i,AV.b,AV.z,dU,ck,cY,cm,bK,cU,cR,cQ,cS,ce,da,ch,dS,cg,cZ,cn,bL,cX,cV,db,du,dt]
def ti:=jr mP
def mL(x:ah):(aG .u x).ouB=true:=by simp[aG,AV.i,AV.b,AV.z,dU,ck,cY,cm,bK,cU,cR,cQ,cS,ce,da,ch,dS,cg,cZ,cn,bL,cX,cV,db,du,dt]
def sP:=ju mL
structure aj where
 N:Int
 F:List Int
 deriving DecidableEq
def ay(f:Fl)(x:aj):AV:=.agg [.i x.N,.lst f 1 (x.F.map AV.i)]
theorem hY(f:Fl)(x:aj):(ay f x).nrm=ay .o x:=by simp[ay,dN,fO,gf,fd]
def tW(f:Fl):=eqm (hY f)
theorem hU(f:Fl)(x:aj):(ay f x).als=ay f.als x:=by simp[ay,eL,fV,ga,eZ]
def uG(f:Fl):=eqm (hU f)
def uy(f:Fl):=eqc (hU f)
theorem gZ(f:Fl)(x:aj):(ay f x).fix=ay f.fix x:=by simp[ay,fe,fu,ft,eK]
def mR(f:Fl):=eqm (gZ f)
def pY(x:aj):(ay .o x).fz=true:=by simp[ay,AV.i,AV.b,AV.z,dU,ck,cY,cm,bK,cU,cR,cQ,cS,ce,da,ch,dS,cg,cZ,cn,bL,cX,cV,db]
def kq:=jr pY
def pX(x:aj):(ay .u x).ouB=true:=by simp[ay,AV.i,AV.b,AV.z,dU,ck,cY,cm,bK,cU,cR,cQ,cS,ce,da,ch,dS,cg,cZ,cn,bL,cX,cV,db]
def kt:=ju pX
structure aX where
 N:Int
 F:Int
 deriving DecidableEq
def bN(f:Fl)(x:aX):AV:=.agg [.i x.N,.i x.F]
def od(f:Fl)(x:aX):(bN f x).nrm=bN .o x:=by simp[bN,dN,fO,gf,dN]
def ua(f:Fl):=eqm (od f)
def kr(f:Fl)(x:aX):(bN f x).als=bN f.als x:=by simp[bN,eL,fV,ga,dN]
def tX(f:Fl):=eqm (kr f)
def uA(f:Fl):=eqc (kr f)
def kc(f:Fl)(x:aX):(bN f x).fix=bN f.fix x:=by simp[bN,fe,fu,ft,dN]
def mU(f:Fl):=eqm (kc f)
def qg(x:aX):(bN .o x).fz=true:=by simp[bN,AV.i,AV.b,AV.z,dU,ck,cY,cm,bK,cU,cR,cQ,cS,ce,da,ch,dS,cg,cZ,cn,bL,cX,cV,db]
def wO:=jr qg
def pQ(x:aX):(bN .u x).ouB=true:=by simp[bN,AV.i,AV.b,AV.z,dU,ck,cY,cm,bK,cU,cR,cQ,cS,ce,da,ch,dS,cg,cZ,cn,bL,cX,cV,db]
def wZ:=ju pQ
structure af where
 Id:Int
 F:aj
 N:aX
 deriving DecidableEq
def ai(f:Fl)(x:af):AV:=.agg [.i x.Id,.i x.F.N,.lst f 1 (x.F.F.map AV.i),.i x.N.N,.i x.N.F]
theorem ia(f:Fl)(x:af):(ai f x).nrm=ai .o x:=by simp[ai,dN,fO,gf,fd]
def ud(f:Fl):=eqm (ia f)
theorem fR(f:Fl)(x:af):(ai f x).als=ai f.als x:=by simp[ai,eL,fV,ga,eZ]
def uh(f:Fl):=eqm (fR f)
def uj(f:Fl):=eqc (fR f)
theorem fW(f:Fl)(x:af):(ai f x).fix=ai f.fix x:=by simp[ai,fe,fu,ft,eK]
def mQ(f:Fl):=eqm (fW f)
def pN(x:af):(ai .o x).fz=true:=by simp[ai,AV.i,AV.b,AV.z,dU,ck,cY,cm,bK,cU,cR,cQ,cS,ce,da,ch,dS,cg,cZ,cn,bL,cX,cV,db]
def fY:=jr pN
def qi(x:af):(ai .u x).ouB=true:=by simp[ai,AV.i,AV.b,AV.z,dU,ck,cY,cm,bK,cU,cR,cQ,cS,ce,da,ch,dS,cg,cZ,cn,bL,cX,cV,db]
def gb:=ju qi
structure aB where
 F:ah
 N:List af
def bv(f:Fl)(x:aB):AV:=.agg [.lst f 1 (x.F.N.map AV.z),.lst f 4 (x.F.F.map (au f)),.lst f 5 (x.N.map (ai f))]
def pJ(f:Fl)(x:aB):(bv f x).nrm=bv .o x:=by simp[bv,dN,fO,gf,eW,ia,fd,jU]
def wo(f:Fl):=eqm (pJ f)
def kU(f:Fl)(x:aB):(bv f x).als=bv f.als x:=by simp[bv,eL,fV,ga,el,fR,eZ,jG]
def wM(f:Fl):=eqm (kU f)
def xQ(f:Fl):=eqc (kU f)
def lU(f:Fl)(x:aB):(bv f x).fix=bv f.fix x:=by simp[bv,fe,fu,ft,en,fW,eK,ie]
def nT(f:Fl):=eqm (lU f)
def rn(x:aB):(bv .o x).fz=true:=by simp[bv,AV.i,AV.b,AV.z,dU,ck,cY,cm,bK,cU,cR,cQ,cS,ce,da,ch,dS,cg,cZ,cn,bL,cX,cV,db,du,dt,fY,gb]
def AC:=jr rn
def rx(x:aB):(bv .u x).ouB=true:=by simp[bv,AV.i,AV.b,AV.z,dU,ck,cY,cm,bK,cU,cR,cQ,cS,ce,da,ch,dS,cg,cZ,cn,bL,cX,cV,db,du,dt,fY,gb]
def Aa:=ju rx
structure ax where
 N:Bool
 F:List Int
 deriving DecidableEq
def aF(f:Fl)(x:ax):AV:=.agg [.b x.N,.lst f 1 (x.F.map AV.i)]
def je(f:Fl)(x:ax):(aF f x).nrm=aF .o x:=by simp[aF,dN,fO,gf,fd]
def mY(f:Fl):=eqm (je f)
def fX(f:Fl)(x:ax):(aF f x).als=aF f.als x:=by simp[aF,eL,fV,ga,eZ]
def nC(f:Fl):=eqm (fX f)
def ny(f:Fl):=eqc (fX f)
def fP(f:Fl)(x:ax):(aF f x).fix=aF f.fix x:=by simp[aF,fe,fu,ft,eK]
def iE(f:Fl):=eqm (fP f)
def jS(x:ax):(aF .o x).fz=true:=by simp[aF,AV.i,AV.b,AV.z,dU,ck,cY,cm,bK,cU,cR,cQ,cS,ce,da,ch,dS,cg,cZ,cn,bL,cX,cV,db]
def oc:=jr jS
def jX(x:ax):(aF .u x).ouB=true:=by simp[aF,AV.i,AV.b,AV.z,dU,ck,cY,cm,bK,cU,cR,cQ,cS,ce,da,ch,dS,cg,cZ,cn,bL,cX,cV,db]
def nM:=ju jX
structure ae where
 F:aB
 N:List af
 L:List Int
def aI(f:Fl)(x:ae):AV:=.agg [.lst f 1 (x.F.F.N.map AV.z),.lst f 4 (x.F.F.F.map (au f)),.lst f 5 (x.F.N.map (ai f)),.lst f 5 (x.N.map (ai f)),.lst f 1 (x.L.map AV.i)]
def ix(f:Fl)(x:ae):(aI f x).nrm=aI .o x:=by simp[aI,dN,fO,gf,eW,ia,fd,jU]
def mD(f:Fl):=eqm (ix f)
def fF(f:Fl)(x:ae):(aI f x).als=aI f.als x:=by simp[aI,eL,fV,ga,el,fR,eZ,jG]
def mE(f:Fl):=eqm (fF f)
def my(f:Fl):=eqc (fF f)
def fB(f:Fl)(x:ae):(aI f x).fix=aI f.fix x:=by simp[aI,fe,fu,ft,en,fW,eK,ie]
def gS(f:Fl):=eqm (fB f)
def iR(x:ae):(aI .o x).fz=true:=by simp[aI,AV.i,AV.b,AV.z,dU,ck,cY,cm,bK,cU,cR,cQ,cS,ce,da,ch,dS,cg,cZ,cn,bL,cX,cV,db,du,dt,fY,gb]
def nh:=jr iR
def iQ(x:ae):(aI .u x).ouB=true:=by simp[aI,AV.i,AV.b,AV.z,dU,ck,cY,cm,bK,cU,cR,cQ,cS,ce,da,ch,dS,cg,cZ,cn,bL,cX,cV,db,du,dt,fY,gb]
def nf:=ju iQ
structure ig where
 n:ah
 N:Int
 F:List aj
def cA(f:Fl)(x:ig):AV:=.agg [.lst f 1 (x.n.N.map AV.z),.lst f 4 (x.n.F.map (au f)),.i x.N,.lst f 2 (x.F.map (ay f))]
def kK(f:Fl)(x:ig):(cA f x).nrm=cA .o x:=by simp[cA,dN,fO,gf,eW,hY,fd,jU]
def pb(f:Fl):=eqm (kK f)
def gK(f:Fl)(x:ig):(cA f x).als=cA f.als x:=by simp[cA,eL,fV,ga,el,hU,eZ,jG]
def pu(f:Fl):=eqm (gK f)
def pE(f:Fl):=eqc (gK f)
def gL(f:Fl)(x:ig):(cA f x).fix=cA f.fix x:=by simp[cA,fe,fu,ft,en,gZ,eK,ie]
def jT(f:Fl):=eqm (gL f)
def kZ(x:ig):(cA .o x).fz=true:=by simp[cA,AV.i,AV.b,AV.z,dU,ck,cY,cm,bK,cU,cR,cQ,cS,ce,da,ch,dS,cg,cZ,cn,bL,cX,cV,db,du,dt,kq,kt]
def qk:=jr kZ
def kT(x:ig):(cA .u x).ouB=true:=by simp[cA,AV.i,AV.b,AV.z,dU,ck,cY,cm,bK,cU,cR,cQ,cS,ce,da,ch,dS,cg,cZ,cn,bL,cX,cV,db,du,dt,kq,kt]
def qp:=ju kT
def iM(f:Fl)(xs:List Int):AV:=.lst f 1 (xs.map AV.i)
def zA(f:Fl)(x:List Int):(iM f x).nrm=iM .o x:=by simp[iM,dN,fO,gf,fd]
def FZ(f:Fl):=eqm (zA f)
def tD(f:Fl)(x:List Int):(iM f x).als=iM f.als x:=by simp[iM,eL,fV,ga,eZ]
def Jp(f:Fl):=eqm (tD f)
def HV(f:Fl):=eqc (tD f)
def rY(f:Fl)(x:List Int):(iM f x).fix=iM f.fix x:=by simp[iM,fe,fu,ft,eK]
def uL(f:Fl):=eqm (rY f)
def FB(x:List Int):(iM .o x).fz=true:=by simp[iM,AV.i,AV.b,AV.z,dU,ck,cY,cm,bK,cU,cR,cQ,cS,ce,da,ch,dS,cg,cZ,cn,bL,cX,cV,db]
def LZ:=jr FB
def FM(x:List Int):(iM .u x).ouB=true:=by simp[iM,AV.i,AV.b,AV.z,dU,ck,cY,cm,bK,cU,cR,cQ,cS,ce,da,ch,dS,cg,cZ,cn,bL,cX,cV,db]
def NZ:=ju FM
def gr{H:World->Prop}:Tok H ai 5:=⟨(⟨0,(⟨0,[]⟩:aj),(⟨0,0⟩:aX)⟩:af),#[.int .i64 0,.int .i64 0,.slice none 0 0,.int .i64 0,.int .i64 0],rfl,by simp[Value.oneCell'],fun W S B _=>(dK (v:=.agg #[.int .i64 0,.int .i64 0,.slice none 0 0,.int .i64 0,.int .i64 0]) (a:=ai .s (⟨0,(⟨0,[]⟩:aj),(⟨0,0⟩:aX)⟩:af)) rfl W S B).1⟩
theorem zW{H:World->Prop}:co (gr (H:=H))=.agg [.i 0,.i 0,.sc (.slice none 0 0),.i 0,.i 0]:=rfl
def zZ{H:World->Prop}:(gr (H:=H)).Free:=fun W S B=>(dK (v:=.agg #[.int .i64 0,.int .i64 0,.slice none 0 0,.int .i64 0,.int .i64 0]) (a:=ai .u (⟨0,(⟨0,[]⟩:aj),(⟨0,0⟩:aX)⟩:af)) rfl W S B).1
def Hg(x:af):(ai .u x).shs=ai .s x:=by simp[ai,AV.shs,oe,zn AV.i AV.i fun _=>rfl]
def M_c(b:List ByteArray)(a:Int×Int):Option ((Int×Int)⊕(Int⊕Int)):=
 cond (decide (a.2<(b.length:Int))) ((bG b a.2).bind fun c=>cond (decide ((A0 .i64 (a.1-(c.size:Int)))<0)) (some (.inr (.inr (-1)))) (some (.inl (A0 .i64 (a.1-(c.size:Int)),A0 .i64 (a.2+1))))) (some (.inr (.inl a.1)))
def LA(a:List ByteArray)(b:Int):Option Int:=
 cond (decide ((A0 .i64 (b-(a.length:Int)))<0)) (some (-1)) ((aY (M_c a) N0 (A0 .i64 (b-(a.length:Int)),0)).bind fun c=>(match c with| .inl d=>some d| .inr g=>some g))
def Sa(a:List aw)(b:Int):Option Int:=
 cond (decide ((A0 .i64 (b-(a.length:Int)))<0)) (some (-1)) (some (A0 .i64 (b-(a.length:Int))))
def PL(a:ah)(d:Int):Option Int:=
 (LA a.N d).bind fun b=>cond (decide (b<0)) (some (-1)) ((Sa a.F b).bind fun c=>cond (decide (c<0)) (some (-1)) (some c))
def GZ(a:List Int)(b:Int):Option Int:=
 cond (decide ((A0 .i64 (b-(a.length:Int)))<0)) (some (-1)) (some (A0 .i64 (b-(a.length:Int))))
def Sq(b:aj)(c:Int):Option Int:=
 (GZ b.F c).bind fun a=>cond (decide (a<0)) (some (-1)) (some a)
def MR(b:af)(c:Int):Option Int:=
 (Sq b.F c).bind fun a=>cond (decide (a<0)) (some (-1)) (some a)
def Hx(b:List af)(a:Int×Int):Option ((Int×Int)⊕(Int⊕Int)):=
 cond (decide (a.2<(b.length:Int))) ((bG b a.2).bind fun d=>(MR d a.1).bind fun c=>cond (decide (c<0)) (some (.inr (.inr (-1)))) (some (.inl (c,A0 .i64 (a.2+1))))) (some (.inr (.inl a.1)))
def SQ(a:List af)(b:Int):Option Int:=
 cond (decide ((A0 .i64 (b-(a.length:Int)))<0)) (some (-1)) ((aY (Hx a) N0 (A0 .i64 (b-(a.length:Int)),0)).bind fun c=>(match c with| .inl d=>some d| .inr g=>some g))
def MD(a:aB)(d:Int):Option Int:=
 (PL a.F d).bind fun b=>cond (decide (b<0)) (some (-1)) ((SQ a.N b).bind fun c=>cond (decide (c<0)) (some (-1)) (some c))
def Ny(b:ax)(c:Int):Option Int:=
 (GZ b.F c).bind fun a=>cond (decide (a<0)) (some (-1)) (some a)
def Hk(b:List ax)(a:Int×Int):Option ((Int×Int)⊕(Int⊕Int)):=
 cond (decide (a.2<(b.length:Int))) ((bG b a.2).bind fun d=>(Ny d a.1).bind fun c=>cond (decide (c<0)) (some (.inr (.inr (-1)))) (some (.inl (c,A0 .i64 (a.2+1))))) (some (.inr (.inl a.1)))
def Pz(a:List ax)(b:Int):Option Int:=
 cond (decide ((A0 .i64 (b-(a.length:Int)))<0)) (some (-1)) ((aY (Hk a) N0 (A0 .i64 (b-(a.length:Int)),0)).bind fun c=>(match c with| .inl d=>some d| .inr g=>some g))
def GG(b:List ByteArray)(a:Int×List ByteArray):Option ((Int×List ByteArray)⊕(List ByteArray)):=
 cond (decide (a.1<(b.length:Int))) ((bG b a.1).bind fun c=>(grd (0<=a.1/\a.1<(a.2.length:Int))).bind fun g=>(a.2[(A2 a.1)]?).bind fun i=>bnd (a.2.set (A2 a.1) c) fun d=>some (.inl (A0 .i64 (a.1+1),d))) (some (.inr a.2))
def Sr(a:List ByteArray):Option (List ByteArray):=
 (grd (0<=(a.length:Int)/\(a.length:Int)<=(a.length:Int)/\(a.length:Int)*((16:Nat):Int)<=140737488355328/\(a.length:Int)<=9223372036854775807)).bind fun d=>bnd (A3 (A2 (a.length:Int)) (⟨#[]⟩:ByteArray)) fun b=>(aY (GG a) N0 (0,b)).bind fun c=>some c
def Jb(a:aw):Option aw:=
 some (⟨a.A,a.B,a.F,a.N⟩:aw)
def HW(b:List aw)(a:Int×List aw):Option ((Int×List aw)⊕(List aw)):=
 cond (decide (a.1<(b.length:Int))) ((bG b a.1).bind fun c=>(Jb c).bind fun d=>(grd (0<=a.1/\a.1<(a.2.length:Int))).bind fun i=>(a.2[(A2 a.1)]?).bind fun j=>bnd (a.2.set (A2 a.1) d) fun g=>some (.inl (A0 .i64 (a.1+1),g))) (some (.inr a.2))
def Qr(a:List aw):Option (List aw):=
 (grd (0<=(a.length:Int)/\(a.length:Int)<=(a.length:Int)/\(a.length:Int)*((32:Nat):Int)<=140737488355328/\(a.length:Int)<=9223372036854775807)).bind fun d=>bnd (A3 (A2 (a.length:Int)) (⟨0,0,0,0⟩:aw)) fun b=>(aY (HW a) N0 (0,b)).bind fun c=>some c
def SK(a:ah):Option ah:=
 (Sr a.N).bind fun b=>(Qr a.F).bind fun c=>some (⟨b,c⟩:ah)
def M_g(b:List Int)(a:Int×List Int):Option ((Int×List Int)⊕(List Int)):=
 cond (decide (a.1<(b.length:Int))) ((bG b a.1).bind fun c=>(grd (0<=a.1/\a.1<(a.2.length:Int))).bind fun g=>(a.2[(A2 a.1)]?).bind fun i=>bnd (a.2.set (A2 a.1) c) fun d=>some (.inl (A0 .i64 (a.1+1),d))) (some (.inr a.2))
def Iv(a:List Int):Option (List Int):=
 (grd (0<=(a.length:Int)/\(a.length:Int)<=(a.length:Int)/\(a.length:Int)*((8:Nat):Int)<=140737488355328/\(a.length:Int)<=9223372036854775807)).bind fun d=>bnd (A3 (A2 (a.length:Int)) 0) fun b=>(aY (M_g a) N0 (0,b)).bind fun c=>some c
def QD(a:aj):Option aj:=
 (Iv a.F).bind fun b=>some (⟨a.N,b⟩:aj)
def NI(a:aX):Option aX:=
 some (⟨a.N,a.F⟩:aX)
def IH(a:af):Option af:=
 (QD a.F).bind fun b=>(NI a.N).bind fun c=>some (⟨a.Id,(⟨b.N,b.F⟩:aj),(⟨c.N,c.F⟩:aX)⟩:af)
def M_q(c:List af)(a:Int×List af):Option ((Int×List af)⊕(List af)):=
 cond (decide (a.1<(c.length:Int))) ((bG c a.1).bind fun d=>(IH d).bind fun b=>(grd (0<=a.1/\a.1<(a.2.length:Int))).bind fun i=>(a.2[(A2 a.1)]?).bind fun j=>bnd (a.2.set (A2 a.1) (⟨b.Id,(⟨b.F.N,b.F.F⟩:aj),(⟨b.N.N,b.N.F⟩:aX)⟩:af)) fun g=>some (.inl (A0 .i64 (a.1+1),g))) (some (.inr a.2))
def OC(a:List af):Option (List af):=
 (grd (0<=(a.length:Int)/\(a.length:Int)<=(a.length:Int)/\(a.length:Int)*((56:Nat):Int)<=140737488355328/\(a.length:Int)<=9223372036854775807)).bind fun d=>bnd (A3 (A2 (a.length:Int)) (⟨0,(⟨0,[]⟩:aj),(⟨0,0⟩:aX)⟩:af)) fun b=>(aY (M_q a) N0 (0,b)).bind fun c=>some c
def Ae(a:aB):Option aB:=
 (SK a.F).bind fun b=>(OC a.N).bind fun c=>some (⟨(⟨b.N,b.F⟩:ah),c⟩:aB)
def Kb(a:ax):Option ax:=
 (Iv a.F).bind fun b=>some (⟨a.N,b⟩:ax)
def Ja(b:List ax)(a:Int×List ax):Option ((Int×List ax)⊕(List ax)):=
 cond (decide (a.1<(b.length:Int))) ((bG b a.1).bind fun d=>(Kb d).bind fun c=>(grd (0<=a.1/\a.1<(a.2.length:Int))).bind fun i=>(a.2[(A2 a.1)]?).bind fun j=>bnd (a.2.set (A2 a.1) (⟨c.N,c.F⟩:ax)) fun g=>some (.inl (A0 .i64 (a.1+1),g))) (some (.inr a.2))
def zY(a:List ax):Option (List ax):=
 (grd (0<=(a.length:Int)/\(a.length:Int)<=(a.length:Int)/\(a.length:Int)*((32:Nat):Int)<=140737488355328/\(a.length:Int)<=9223372036854775807)).bind fun d=>bnd (A3 (A2 (a.length:Int)) (⟨false,[]⟩:ax)) fun b=>(aY (Ja a) N0 (0,b)).bind fun c=>some c
def M_u(a:Int)(b:Int)(c:Int):Option Bool:=
 cond (decide (b<=a)) (some (decide (a<=c))) (some false)
def Ro(a:Int):Option Bool:=
 cond (decide (97<=a)) (cond (decide (a<=122)) (some true) (cond (decide (48<=a)) (some (decide (a<=57))) (some false))) (cond (decide (48<=a)) (some (decide (a<=57))) (some false))
def M_a(b:ByteArray)(a:Int):Option (Int⊕(Unit⊕Bool)):=
 cond (decide (a<(b.size:Int))) ((wG b a).bind fun c=>(Ro (c.toNat:Int)).bind fun d=>cond (!d) (some (.inr (.inr false))) (some (.inl (A0 .i64 (a+1))))) (some (.inr (.inl ())))
def Sj(a:ByteArray):Option Bool:=
 ((M_u (a.size:Int) 1 8).bind fun c=>cond (!c) (some true) ((wG a 0).bind fun b=>cond (decide ((b.toNat:Int)<97)) (some true) (some (decide (122<(b.toNat:Int))))):Option Bool).bind fun d=>cond (d) (some false) ((aY (M_a a) N0 0).bind fun g=>(match g with| .inl j=>some true| .inr i=>some i))
def Jd(b:List ByteArray)(c:ByteArray)(a:Int):Option (Int⊕(Unit⊕Int)):=
 cond (decide (a<(b.length:Int))) ((bG b a).bind fun d=>cond (d.toList==c.toList) (some (.inr (.inr a))) (some (.inl (A0 .i64 (a+1))))) (some (.inr (.inl ())))
def Qg(a:List ByteArray)(b:ByteArray):Option Int:=
 (aY (Jd a b) N0 0).bind fun c=>(match c with| .inl g=>some (-1)| .inr d=>some d)
def Sk(a:aw)(b:Int):Option Bool:=
 (M_u a.A 0 (A0 .i64 (b-1))).bind fun c=>cond (c) ((M_u a.B (A0 .i64 (a.A+1)) (A0 .i64 (b-1))).bind fun d=>cond (d) ((M_u a.F 1 5000).bind fun g=>cond (g) ((M_u a.N 0 9).bind fun i=>some i) (some false)) (some false)) (some false)
def Lp(a:aw)(b:aw):Option Int:=
 cond (a.A !=b.A) (some (A0 .i64 (a.A-b.A))) (cond (a.B !=b.B) (some (A0 .i64 (a.B-b.B))) (cond (a.F !=b.F) (some (A0 .i64 (a.F-b.F))) (some (A0 .i64 (a.N-b.N)))))
def M_k(b:ah)(a:Int):Option (Int⊕(Unit⊕Bool)):=
 cond (decide (a<(b.N.length:Int))) (((bG b.N a).bind fun c=>(Sj c).bind fun d=>cond (!d) (some true) ((Qg b.N c).bind fun g=>some (g !=a)):Option Bool).bind fun i=>cond (i) (some (.inr (.inr false))) (some (.inl (A0 .i64 (a+1))))) (some (.inr (.inl ())))
def IY(b:ah)(a:Int):Option (Int⊕(Unit⊕Bool)):=
 cond (decide (a<(b.F.length:Int))) (((bG b.F a).bind fun c=>(Sk c (b.N.length:Int)).bind fun d=>cond (!d) (some true) (cond (decide (0<a)) ((bG b.F (A0 .i64 (a-1))).bind fun g=>(Lp g c).bind fun i=>some (decide (0<i))) (some false)):Option Bool).bind fun j=>cond (j) (some (.inr (.inr false))) (some (.inl (A0 .i64 (a+1))))) (some (.inr (.inl ())))
def BF(a:ah):Option Bool:=
 ((M_u (a.N.length:Int) 2 8).bind fun b=>cond (!b) (some true) (some (decide (14<(a.F.length:Int)))):Option Bool).bind fun c=>cond (c) (some false) ((aY (M_k a) N0 0).bind fun d=>(match d with| .inl k=>(aY (IY a) N0 0).bind fun g=>(match g with| .inl l=>some true| .inr i=>some i)| .inr j=>some j))
def BQ(c:ah)(d:Int)(b:Int):Option Int:=
 (bG c.F d).bind fun a=>cond (b==a.A) (some a.B) (cond (b==a.B) (some a.A) (some (-1)))
def GH(b:List Int)(c:Int)(a:Int):Option (Int⊕(Unit⊕Bool)):=
 cond (decide (a<(b.length:Int))) ((bG b a).bind fun d=>cond (d==c) (some (.inr (.inr true))) (some (.inl (A0 .i64 (a+1))))) (some (.inr (.inl ())))
def tV(a:List Int)(b:Int):Option Bool:=
 (aY (GH a b) N0 0).bind fun c=>(match c with| .inl g=>some false| .inr d=>some d)
def M_v(c:ah)(d:aj)(a:Int×List Int):Option ((Int×List Int)⊕((List Int)⊕(List Int×Bool))):=
 cond (decide (a.1<(d.F.length:Int))) ((bG d.F a.1).bind fun g=>(M_u g 0 (A0 .i64 ((c.F.length:Int)-1))).bind fun i=>cond (!i) (some (.inr (.inr (a.2,false)))) ((grd (0<=(A0 .i64 ((a.2.length:Int)-1))/\(A0 .i64 ((a.2.length:Int)-1))<(a.2.length:Int))).bind fun q=>(a.2[(A2 (A0 .i64 ((a.2.length:Int)-1)))]?).bind fun j=>(BQ c g j).bind fun b=>(cond (decide (b<0)) (some true) ((tV a.2 b).bind fun k=>some k):Option Bool).bind fun l=>cond (l) (some (.inr (.inr (a.2,false)))) (bnd ([b]) fun m=>(grd ((a.2.length+1)*8<=140737488355328)).bind fun s=>bnd (a.2++m) fun p=>some (.inl (A0 .i64 (a.1+1),p))))) (some (.inr (.inl a.2)))
def Hj(b:ah)(a:aj):Option (List Int×Bool):=
 bnd ([a.N]) fun c=>((M_u a.N 0 (A0 .i64 ((b.N.length:Int)-1))).bind fun d=>cond (!d) (some true) (some ((a.F.length:Int)==0)):Option Bool).bind fun g=>cond (g) (some (c,false)) ((aY (M_v b a) N0 (0,c)).bind fun i=>(match i with| .inl j=>some (j,true)| .inr k=>some k))
def Ga(a:ah)(b:aj):Option Bool:=
 (BF a).bind fun c=>cond (!c) (some false) ((Hj a b).bind fun d=>some d.2)
def NU(a:aX):Option Bool:=
 (M_u a.N 0 23).bind fun b=>cond (b) ((M_u a.F 1 (A0 .i64 (24-a.N))).bind fun c=>some c) (some false)
def RI(b:ah)(a:af):Option Bool:=
 (M_u a.Id 1 999).bind fun c=>cond (c) ((Ga b a.F).bind fun d=>cond (d) ((NU a.N).bind fun g=>some g) (some false)) (some false)
def GM(b:aj)(c:List Int)(a:Int):Option (Int⊕(Unit⊕Bool)):=
 cond (decide (a<(b.F.length:Int))) ((bG b.F a).bind fun d=>(tV c d).bind fun g=>cond (g) (some (.inr (.inr true))) (some (.inl (A0 .i64 (a+1))))) (some (.inr (.inl ())))
def vW(a:aj)(b:List Int):Option Bool:=
 (aY (GM a b) N0 0).bind fun c=>(match c with| .inl g=>some false| .inr d=>some d)
def rJ(a:aX):Option Int:=
 (grd (0<=(A0 .u64 a.F))).bind fun b=>(grd (0<=(A0 .u64 a.N))).bind fun c=>some (A0 .i64 ((A0 .i64 ((A0 .i64 (1*2^(min (A2 (A0 .u64 a.F)) (A4 .i64))))-1))*2^(min (A2 (A0 .u64 a.N)) (A4 .i64))))
def RM(a:af)(b:af):Option Bool:=
 (vW a.F b.F.F).bind fun c=>cond (c) ((rJ a.N).bind fun d=>(rJ b.N).bind fun g=>some ((bits .and .i64 d g) !=0)) (some false)
def Dm(b:aB)(c:Int)(a:Int):Option (Int⊕(Unit⊕Bool)):=
 cond (decide (a<c)) ((bG b.N a).bind fun d=>(bG b.N c).bind fun g=>(RM d g).bind fun i=>cond (i) (some (.inr (.inr false))) (some (.inl (A0 .i64 (a+1))))) (some (.inr (.inl ())))
def HC(b:aB)(a:Int):Option (Int⊕(Unit⊕Bool)):=
 cond (decide (a<(b.N.length:Int))) ((((bG b.N a).bind fun c=>(RI b.F c).bind fun d=>cond (!d) (some true) (cond (decide (0<a)) ((bG b.N (A0 .i64 (a-1))).bind fun g=>some (decide (c.Id<=g.Id))) (some false)):Option Bool).bind fun i=>cond (i) (some (.inr false)) ((aY (Dm b a) N0 0).bind fun j=>(match j with| .inl p=>some (.inl ())| .inr k=>some (.inr k))):Option (Unit⊕Bool)).bind fun l=>(match l with| .inl q=>some (.inl (A0 .i64 (a+1)))| .inr m=>some (.inr (.inr m)))) (some (.inr (.inl ())))
def MQ(a:aB):Option Bool:=
 ((BF a.F).bind fun b=>cond (!b) (some true) (some (decide (12<(a.N.length:Int)))):Option Bool).bind fun c=>cond (c) (some false) ((aY (HC a) N0 0).bind fun d=>(match d with| .inl i=>some true| .inr g=>some g))
def UE(a:ah):Option ah:=
 (grd (a.N.length*16<=140737488355328)).bind fun b=>(grd (a.F.length*32<=140737488355328)).bind fun c=>some (⟨a.N,a.F⟩:ah)
def M_t(a:List Int):Option (List Int):=
 (grd (a.length*8<=140737488355328)).bind fun b=>some a
def Jy(a:aj):Option aj:=
 (M_t a.F).bind fun b=>some (⟨a.N,b⟩:aj)
def qj(a:af):Option af:=
 (Jy a.F).bind fun b=>some (⟨a.Id,(⟨b.N,b.F⟩:aj),(⟨a.N.N,a.N.F⟩:aX)⟩:af)
def M_w(c:aB)(a:Int×List af):Option ((Int×List af)⊕(List af)):=
 cond (decide (a.1<(c.N.length:Int))) ((bG c.N a.1).bind fun d=>(qj d).bind fun b=>bnd ([(⟨b.Id,(⟨b.F.N,b.F.F⟩:aj),(⟨b.N.N,b.N.F⟩:aX)⟩:af)]) fun g=>(grd ((a.2.length+1)*56<=140737488355328)).bind fun j=>bnd (a.2++g) fun i=>some (.inl (A0 .i64 (a.1+1),i))) (some (.inr a.2))
def ng(a:aB):Option aB:=
 (UE a.F).bind fun b=>(aY (M_w a) N0 (0,[])).bind fun c=>some (⟨(⟨b.N,b.F⟩:ah),c⟩:aB)
def Jh(c:List af)(a:Int×List af):Option ((Int×List af)⊕(List af)):=
 cond (decide (a.1<(c.length:Int))) ((bG c a.1).bind fun d=>(qj d).bind fun b=>bnd ([(⟨b.Id,(⟨b.F.N,b.F.F⟩:aj),(⟨b.N.N,b.N.F⟩:aX)⟩:af)]) fun g=>(grd ((a.2.length+1)*56<=140737488355328)).bind fun j=>bnd (a.2++g) fun i=>some (.inl (A0 .i64 (a.1+1),i))) (some (.inr a.2))
def Gv(a:List af):Option (List af):=
 (aY (Jh a) N0 (0,[])).bind fun b=>some b
def LD(a:aB):Option (ae×Bool):=
 (MQ a).bind fun c=>cond (!c) (some ((⟨(⟨(⟨[],[]⟩:ah),[]⟩:aB),[],[]⟩:ae),false)) ((ng a).bind fun b=>(Gv a.N).bind fun d=>some ((⟨(⟨(⟨b.F.N,b.F.F⟩:ah),b.N⟩:aB),d,[]⟩:ae),true))
def Ho(b:List Int)(d:Int)(g:Int)(a:Int):Option (Int⊕(Unit⊕Bool)):=
 cond (decide (a<(b.length:Int))) (((bG b a).bind fun c=>(M_u c d g).bind fun i=>cond (!i) (some true) (cond (decide (0<a)) ((bG b (A0 .i64 (a-1))).bind fun j=>some (decide (c<=j))) (some false)):Option Bool).bind fun k=>cond (k) (some (.inr (.inr false))) (some (.inl (A0 .i64 (a+1))))) (some (.inr (.inl ())))
def Sm(a:List Int)(b:Int)(c:Int):Option Bool:=
 (aY (Ho a b c) N0 0).bind fun d=>(match d with| .inl i=>some true| .inr g=>some g)
def li(a:ae):Option ae:=
 (ng a.F).bind fun b=>(Gv a.N).bind fun c=>(M_t a.L).bind fun d=>some (⟨(⟨(⟨b.F.N,b.F.F⟩:ah),b.N⟩:aB),c,d⟩:ae)
def JP(c:Int)(b:List Int)(a:Int):Option (Int⊕Int):=
 cond (decide (a<(b.length:Int))) ((grd (0<=a/\a<(b.length:Int))).bind fun g=>(b[(A2 a)]?).bind fun d=>cond (decide (d<c)) (some (.inl (A0 .i64 (a+1)))) (some (.inr a))) (some (.inr a))
def LI(c:Int)(b:List Int):Option (List Int):=
 (aY (JP c b) N0 0).bind fun a=>(cond (decide (a<(b.length:Int))) ((grd (0<=a/\a<(b.length:Int))).bind fun p=>(b[(A2 a)]?).bind fun j=>some (j==c)) (some false):Option Bool).bind fun k=>cond (k) (some b) ((grd (True/\0<=a/\True/\A2 a<=b.length)).bind fun q=>bnd (ca b 0 (A2 a)) fun d=>(grd (d.length*8<=140737488355328)).bind fun s=>bnd ([c]) fun l=>(grd ((d.length+1)*8<=140737488355328)).bind fun t=>bnd (d++l) fun g=>(grd (0<=a/\True/\A2 a<=b.length/\True)).bind fun u=>bnd (ca b (A2 a) (b.length-(A2 a))) fun i=>(grd ((g.length+i.length)*8<=140737488355328)).bind fun v=>bnd (g++i) fun m=>some m)
def Js(b:aB)(c:Int)(a:Int):Option (Int⊕(Unit⊕Int)):=
 cond (decide (a<(b.N.length:Int))) ((bG b.N a).bind fun d=>cond (d.Id==c) (some (.inr (.inr a))) (some (.inl (A0 .i64 (a+1))))) (some (.inr (.inl ())))
def CR(a:aB)(b:Int):Option Int:=
 (aY (Js a b) N0 0).bind fun c=>(match c with| .inl g=>some (-1)| .inr d=>some d)
def KX(a:Int)(d:List ByteArray)(g:List aw)(i:List af):Option (List ByteArray×List af×List aw×List ByteArray×List aw×List af):=
 (ng (⟨(⟨d,g⟩:ah),i⟩:aB)).bind fun b=>(grd (True/\0<=a/\True/\A2 a<=b.N.length)).bind fun l=>bnd (ca b.N 0 (A2 a)) fun c=>(grd (c.length*56<=140737488355328)).bind fun m=>(grd (0<=(A0 .i64 (a+1))/\True/\A2 (A0 .i64 (a+1))<=b.N.length/\True)).bind fun p=>bnd (ca b.N (A2 (A0 .i64 (a+1))) (b.N.length-(A2 (A0 .i64 (a+1))))) fun j=>(grd ((c.length+j.length)*56<=140737488355328)).bind fun q=>bnd (c++j) fun k=>some (b.F.N,k,b.F.F,d,g,i)
def Ge(b:ae)(d:List Int)(a:Int×List Int):Option ((Int×List Int)⊕(List Int)):=
 cond (decide (a.1<(b.L.length:Int))) ((bG b.L a.1).bind fun c=>(tV d c).bind fun g=>cond (!g) (bnd ([c]) fun i=>(grd ((a.2.length+1)*8<=140737488355328)).bind fun k=>bnd (a.2++i) fun j=>some (.inl (A0 .i64 (a.1+1),j))) (some (.inl (A0 .i64 (a.1+1),a.2)))) (some (.inr a.2))
def Nh(b:ae)(c:List Int):Option ae:=
 (li b).bind fun a=>(aY (Ge b c) N0 (0,[])).bind fun d=>some (⟨(⟨(⟨a.F.F.N,a.F.F.F⟩:ah),a.F.N⟩:aB),a.N,d⟩:ae)
def GD(b:ae)(a:Int×List Int):Option ((Int×List Int)⊕(List Int)):=
 cond (decide (a.1<(b.N.length:Int))) ((bG b.N a.1).bind fun c=>(CR b.F c.Id).bind fun d=>cond (decide (d<0)) (bnd ([a.1]) fun g=>(grd ((a.2.length+1)*8<=140737488355328)).bind fun j=>bnd (a.2++g) fun i=>some (.inl (A0 .i64 (a.1+1),i))) (some (.inl (A0 .i64 (a.1+1),a.2)))) (some (.inr a.2))
def DI(a:ae):Option (List Int):=
 (aY (GD a) N0 (0,[])).bind fun b=>some b
def M_f(b:aB)(d:Int)(a:Int×Int):Option ((Int×Int)⊕Int):=
 cond (decide (a.2<(b.N.length:Int))) ((bG b.N a.2).bind fun c=>(tV c.F.F d).bind fun g=>cond (g) ((rJ c.N).bind fun i=>some (.inl (bits .or .i64 a.1 i,A0 .i64 (a.2+1)))) (some (.inl (a.1,A0 .i64 (a.2+1))))) (some (.inr a.1))
def LJ(a:aB)(b:Int):Option Int:=
 (aY (M_f a b) N0 (0,0)).bind fun c=>some c
def CP(c:aB)(b:aj)(a:Int×Int):Option ((Int×Int)⊕Int):=
 cond (decide (a.2<(b.F.length:Int))) ((bG b.F a.2).bind fun d=>(LJ c d).bind fun g=>some (.inl (bits .or .i64 a.1 g,A0 .i64 (a.2+1)))) (some (.inr a.1))
def yE(a:aB)(b:aj):Option Int:=
 (aY (CP a b) N0 (0,0)).bind fun c=>some c
def Tj(a:ah)(b:aj):Option (List Int):=
 (Hj a b).bind fun c=>some c.1
def RN(b:ah)(c:aj):Option Int:=
 (Tj b c).bind fun a=>(grd (0<=(A0 .i64 ((a.length:Int)-1))/\(A0 .i64 ((a.length:Int)-1))<(a.length:Int))).bind fun g=>(a[(A2 (A0 .i64 ((a.length:Int)-1)))]?).bind fun d=>some d
def Sh(a:ah)(b:Int)(c:Int):Option Bool:=
 (BF a).bind fun d=>cond (d) ((M_u b 0 (A0 .i64 ((a.N.length:Int)-1))).bind fun g=>cond (g) ((M_u c 0 (A0 .i64 ((a.N.length:Int)-1))).bind fun i=>cond (i) (some (b !=c)) (some false)) (some false)) (some false)
def JU(c:ah)(b:aj)(a:Int×Int):Option ((Int×Int)⊕Int):=
 cond (decide (a.2<(b.F.length:Int))) ((bG b.F a.2).bind fun d=>(bG c.F d).bind fun g=>some (.inl (A0 .i64 (a.1+g.F),A0 .i64 (a.2+1)))) (some (.inr a.1))
def JF(a:ah)(b:aj):Option Int:=
 (aY (JU a b) N0 (0,0)).bind fun c=>some c
def yg(a:Int):Option Int:=
 cond (decide (a<0)) (some (-1)) (cond (decide (0<a)) (some 1) (some 0))
def Gl(b:aj)(g:aj)(a:Int):Option (Int⊕(Unit⊕Int)):=
 cond (decide (a<(b.F.length:Int))) ((bG b.F a).bind fun c=>(bG g.F a).bind fun d=>cond (c !=d) ((yg (A0 .i64 (c-d))).bind fun i=>some (.inr (.inr i))) (some (.inl (A0 .i64 (a+1))))) (some (.inr (.inl ())))
def Im(c:ah)(a:aj)(b:aj):Option Int:=
 (JF c a).bind fun d=>(JF c b).bind fun g=>cond ((A0 .i64 (d-g)) !=0) ((yg (A0 .i64 (d-g))).bind fun i=>some i) (cond ((A0 .i64 ((a.F.length:Int)-(b.F.length:Int))) !=0) ((yg (A0 .i64 ((a.F.length:Int)-(b.F.length:Int)))).bind fun j=>some j) ((aY (Gl a b) N0 0).bind fun k=>(match k with| .inl p=>(yg (A0 .i64 (a.N-b.N))).bind fun l=>some l| .inr m=>some m)))
def adk(c:aj)(d:List ByteArray)(g:List aw)(b:List aj)(a:Int):Option (Int⊕Int):=
 cond (decide (0<a)) ((grd (0<=(A0 .i64 (a-1))/\(A0 .i64 (a-1))<(b.length:Int))).bind fun k=>(b[(A2 (A0 .i64 (a-1)))]?).bind fun i=>(Im (⟨d,g⟩:ah) c i).bind fun j=>cond (decide (j<0)) (some (.inl (A0 .i64 (a-1)))) (some (.inr a))) (some (.inr a))
def agp(d:aj)(g:List ByteArray)(i:List aw)(l:Int)(a:List aj):Option (List ByteArray×List aw×Int×List aj×List aj):=
 (aY (adk d g i a) N0 (a.length:Int)).bind fun b=>(grd (True/\0<=b/\True/\A2 b<=a.length)).bind fun q=>bnd (ca a 0 (A2 b)) fun c=>(grd (c.length*32<=140737488355328)).bind fun s=>bnd ([d]) fun m=>(grd ((c.length+1)*32<=140737488355328)).bind fun t=>bnd (c++m) fun j=>(grd (0<=b/\True/\A2 b<=a.length/\True)).bind fun u=>bnd (ca a (A2 b) (a.length-(A2 b))) fun k=>(grd ((j.length+k.length)*32<=140737488355328)).bind fun v=>bnd (j++k) fun p=>some (g,i,l,p,a)
def Io(c:aj)(d:List ByteArray)(g:List aw)(b:List aj)(a:Int):Option (Int⊕Int):=
 cond (decide (0<a)) ((grd (0<=(A0 .i64 (a-1))/\(A0 .i64 (a-1))<(b.length:Int))).bind fun k=>(b[(A2 (A0 .i64 (a-1)))]?).bind fun i=>(Im (⟨d,g⟩:ah) c i).bind fun j=>cond (decide (j<0)) (some (.inl (A0 .i64 (a-1)))) (some (.inr a))) (some (.inr a))
def Nn(d:aj)(g:List ByteArray)(i:List aw)(l:Int)(a:List aj):Option (List ByteArray×List aw×Int×List aj×List aj):=
 (aY (Io d g i a) N0 (a.length:Int)).bind fun b=>(grd (True/\0<=b/\True/\A2 b<=a.length)).bind fun q=>bnd (ca a 0 (A2 b)) fun c=>(grd (c.length*32<=140737488355328)).bind fun s=>bnd ([d]) fun m=>(grd ((c.length+1)*32<=140737488355328)).bind fun t=>bnd (c++m) fun j=>(grd (0<=b/\True/\A2 b<=a.length/\True)).bind fun u=>bnd (ca a (A2 b) (a.length-(A2 b))) fun k=>(grd ((j.length+k.length)*32<=140737488355328)).bind fun v=>bnd (j++k) fun p=>some (g,i,l,p,a)
def M_o(j:Int)(k:List Int)(d:List Int)(l:Int->List ByteArray->List aw->Int->List aj->List Int->List Int->Option (List ByteArray×List aw×Int×List aj×List Int))(m:Int)(a:Int×List ByteArray×List aw×Int×List aj):Option ((Int×List ByteArray×List aw×Int×List aj)⊕(List ByteArray×List aw×Int×List aj)):=
 (cond (decide (a.1<(a.2.2.1.length:Int))) (some (decide ((a.2.2.2.2.length:Int)<=200))) (some false):Option Bool).bind fun p=>cond (p) ((BQ (⟨a.2.1,a.2.2.1⟩:ah) a.1 m).bind fun c=>(cond (decide (0<=c)) ((tV d c).bind fun q=>some (!q)) (some false):Option Bool).bind fun s=>cond (s) ((M_t k).bind fun g=>bnd ([a.1]) fun t=>(grd ((g.length+1)*8<=140737488355328)).bind fun x=>bnd (g++t) fun u=>(M_t d).bind fun i=>bnd ([c]) fun v=>(grd ((i.length+1)*8<=140737488355328)).bind fun y=>bnd (i++v) fun w=>(l j a.2.1 a.2.2.1 a.2.2.2.1 a.2.2.2.2 u w).bind fun b=>some (.inl (A0 .i64 (a.1+1),b.1,b.2.1,b.2.2.1,b.2.2.2.1))) (some (.inl (A0 .i64 (a.1+1),a.2.1,a.2.2.1,a.2.2.2.1,a.2.2.2.2)))) (some (.inr (a.2.1,a.2.2.1,a.2.2.2.1,a.2.2.2.2)))
def IV(p:Int->List ByteArray->List aw->Int->List aj->List Int->List Int->Option (List ByteArray×List aw×Int×List aj×List Int))(g:Int)(i:List ByteArray)(j:List aw)(d:Int)(k:List aj)(l:List Int)(a:List Int):Option (List ByteArray×List aw×Int×List aj×List Int):=
 (grd (0<=(A0 .i64 ((a.length:Int)-1))/\(A0 .i64 ((a.length:Int)-1))<(a.length:Int))).bind fun q=>(a[(A2 (A0 .i64 ((a.length:Int)-1)))]?).bind fun m=>cond (m==d) ((Nn (⟨g,l⟩:aj) i j d k).bind fun b=>some (b.1,b.2.1,b.2.2.1,b.2.2.2.1,a)) ((aY (M_o g l a p m) N0 (0,i,j,d,k)).bind fun c=>some (c.1,c.2.1,c.2.2.1,c.2.2.2,a))
def Bv:Nat->Int->List ByteArray->List aw->Int->List aj->List Int->List Int->Option (List ByteArray×List aw×Int×List aj×List Int)
 |0,_,_,_,_,_,_,_=>none
 |n+1,a,b,c,d,g,i,j=>IV (Bv n) a b c d g i j
def acn(j:Int)(d:List Int)(k:Int)(a:Int×List ByteArray×List aw×Int×List aj):Option ((Int×List ByteArray×List aw×Int×List aj)⊕(List ByteArray×List aw×Int×List aj)):=
 (cond (decide (a.1<(a.2.2.1.length:Int))) (some (decide ((a.2.2.2.2.length:Int)<=200))) (some false):Option Bool).bind fun l=>cond (l) ((BQ (⟨a.2.1,a.2.2.1⟩:ah) a.1 k).bind fun c=>(cond (decide (0<=c)) ((tV d c).bind fun m=>some (!m)) (some false):Option Bool).bind fun p=>cond (p) ((M_t ([])).bind fun g=>bnd ([a.1]) fun q=>(grd ((g.length+1)*8<=140737488355328)).bind fun v=>bnd (g++q) fun s=>(M_t d).bind fun i=>bnd ([c]) fun t=>(grd ((i.length+1)*8<=140737488355328)).bind fun w=>bnd (i++t) fun u=>(Bv N0 j a.2.1 a.2.2.1 a.2.2.2.1 a.2.2.2.2 s u).bind fun b=>some (.inl (A0 .i64 (a.1+1),b.1,b.2.1,b.2.2.1,b.2.2.2.1))) (some (.inl (A0 .i64 (a.1+1),a.2.1,a.2.2.1,a.2.2.2.1,a.2.2.2.2)))) (some (.inr (a.2.1,a.2.2.1,a.2.2.2.1,a.2.2.2.2)))
def TQ(g:Int)(i:List ByteArray)(j:List aw)(d:Int)(a:List Int):Option (List ByteArray×List aw×Int×List aj×List Int):=
 (grd (0<=(A0 .i64 ((a.length:Int)-1))/\(A0 .i64 ((a.length:Int)-1))<(a.length:Int))).bind fun l=>(a[(A2 (A0 .i64 ((a.length:Int)-1)))]?).bind fun k=>cond (k==d) ((agp (⟨g,[]⟩:aj) i j d ([])).bind fun b=>some (b.1,b.2.1,b.2.2.1,b.2.2.2.1,a)) ((aY (acn g a k) N0 (0,i,j,d,[])).bind fun c=>some (c.1,c.2.1,c.2.2.1,c.2.2.2,a))
def GL(b:ah)(c:Int)(d:Int):Option (Bool×List aj):=
 bnd ([c]) fun g=>(TQ c ((b).N) ((b).F) d g).bind fun a=>cond (decide (200<(a.2.2.2.1.length:Int))) (some (false,[])) ((grd (a.2.2.2.1.length*32<=140737488355328)).bind fun i=>some (true,a.2.2.2.1))
def PE(a:ah)(b:Int)(c:Int):Option (Bool×List aj):=
 (Sh a b c).bind fun g=>cond (!g) (some (false,[])) ((GL a b c).bind fun d=>some (d.1,d.2))
def M_e(c:Int)(b:Int)(a:Int×List Int):Option ((Int×List Int)⊕(List Int)):=
 cond (decide ((A0 .i64 (a.1+b))<=24)) ((rJ (⟨a.1,b⟩:aX)).bind fun d=>cond ((bits .and .i64 c d)==0) (bnd ([a.1]) fun g=>(grd ((a.2.length+1)*8<=140737488355328)).bind fun j=>bnd (a.2++g) fun i=>some (.inl (A0 .i64 (a.1+1),i))) (some (.inl (A0 .i64 (a.1+1),a.2)))) (some (.inr a.2))
def NA(a:Int)(b:Int):Option (List Int):=
 (aY (M_e a b) N0 (0,[])).bind fun c=>some c
def Gz(i:ae)(c:af)(b:Bool×List aj)(a:Int):Option (Int⊕(Unit⊕(af×Bool))):=
 (cond (decide (a<(b.2.length:Int))) (some b.1) (some false):Option Bool).bind fun k=>cond (k) ((grd (0<=a/\a<(b.2.length:Int))).bind fun q=>(b.2[(A2 a)]?).bind fun d=>(vW d i.L).bind fun l=>cond (l) (some (.inl (A0 .i64 (a+1)))) ((yE i.F d).bind fun m=>(NA m c.N.F).bind fun g=>cond (decide (0<(g.length:Int))) ((Jy d).bind fun j=>(grd (0<=0/\0<(g.length:Int))).bind fun s=>(g[(A2 0)]?).bind fun p=>some (.inr (.inr ((⟨c.Id,(⟨j.N,j.F⟩:aj),(⟨p,c.N.F⟩:aX)⟩:af),true)))) (some (.inl (A0 .i64 (a+1)))))) (some (.inr (.inl ())))
def Kw(b:ae)(a:af):Option (af×Bool):=
 ((vW a.F b.L).bind fun d=>cond (!d) ((yE b.F a.F).bind fun g=>(rJ a.N).bind fun i=>some ((bits .and .i64 g i)==0)) (some false):Option Bool).bind fun j=>cond (j) ((qj a).bind fun c=>some ((⟨c.Id,(⟨c.F.N,c.F.F⟩:aj),(⟨c.N.N,c.N.F⟩:aX)⟩:af),true)) ((RN b.F.F a.F).bind fun k=>(PE b.F.F a.F.N k).bind fun l=>(aY (Gz b a l) N0 0).bind fun m=>(match m with| .inl q=>some ((⟨0,(⟨0,[]⟩:aj),(⟨0,0⟩:aX)⟩:af),false)| .inr p=>some p))
def M_x(c:Int)(b:aB)(a:Int):Option (Int⊕Int):=
 cond (decide (a<(b.N.length:Int))) ((grd (0<=a/\a<(b.N.length:Int))).bind fun g=>(b.N[(A2 a)]?).bind fun d=>cond (decide (d.Id<c)) (some (.inl (A0 .i64 (a+1)))) (some (.inr a))) (some (.inr a))
def NL(g:Int)(q:Int)(s:Int)(t:Int)(i:List ByteArray)(j:List aw)(k:List af)(l:List Int):Option (List ByteArray×List af×List aw×List ByteArray×List aw×List af×List Int):=
 (ng (⟨(⟨i,j⟩:ah),k⟩:aB)).bind fun a=>(aY (M_x g a) N0 0).bind fun b=>(grd (True/\0<=b/\True/\A2 b<=a.N.length)).bind fun w=>bnd (ca a.N 0 (A2 b)) fun d=>(grd (d.length*56<=140737488355328)).bind fun x=>(qj (⟨g,(⟨q,l⟩:aj),(⟨s,t⟩:aX)⟩:af)).bind fun c=>bnd ([(⟨c.Id,(⟨c.F.N,c.F.F⟩:aj),(⟨c.N.N,c.N.F⟩:aX)⟩:af)]) fun u=>(grd ((d.length+1)*56<=140737488355328)).bind fun y=>bnd (d++u) fun m=>(grd (0<=b/\True/\A2 b<=a.N.length/\True)).bind fun z=>bnd (ca a.N (A2 b) (a.N.length-(A2 b))) fun p=>(grd ((m.length+p.length)*56<=140737488355328)).bind fun a1=>bnd (m++p) fun v=>some (a.F.N,v,a.F.F,i,j,k,l)
def SA(k:Int)(d:List ByteArray)(g:List aw)(i:List af)(c:List af)(j:List Int):Option (Bool×List ByteArray×List aw×List af×List af×List Int×List ByteArray×List aw×List af×List af×List Int):=
 (grd (0<=k/\k<(c.length:Int))).bind fun p=>(c[(A2 k)]?).bind fun m=>(Kw (⟨(⟨(⟨d,g⟩:ah),i⟩:aB),c,j⟩:ae) m).bind fun b=>(li (⟨(⟨(⟨d,g⟩:ah),i⟩:aB),c,j⟩:ae)).bind fun a=>cond (b.2) ((NL b.1.Id b.1.F.N b.1.N.N b.1.N.F a.F.F.N a.F.F.F a.F.N b.1.F.F).bind fun l=>some (b.2,l.1,l.2.2.1,l.2.1,a.N,a.L,d,g,i,c,j)) (some (b.2,a.F.F.N,a.F.F.F,a.F.N,a.N,a.L,d,g,i,c,j))
def M_l(g:List af)(d:List Int)(a:Int×List Int×List ByteArray×List aw×List af×List af×List Int):Option ((Int×List Int×List ByteArray×List aw×List af×List af×List Int)⊕(List Int×List ByteArray×List aw×List af×List af×List Int)):=
 cond (decide (a.1<(d.length:Int))) ((grd (0<=a.1/\a.1<(d.length:Int))).bind fun l=>(d[(A2 a.1)]?).bind fun c=>(SA c a.2.2.1 a.2.2.2.1 a.2.2.2.2.1 a.2.2.2.2.2.1 a.2.2.2.2.2.2).bind fun b=>cond (b.1) ((grd (0<=c/\c<(g.length:Int))).bind fun m=>(g[(A2 c)]?).bind fun i=>bnd ([i.Id]) fun j=>(grd ((a.2.1.length+1)*8<=140737488355328)).bind fun p=>bnd (a.2.1++j) fun k=>some (.inl (A0 .i64 (a.1+1),k,b.2.1,b.2.2.1,b.2.2.2.1,b.2.2.2.2.1,b.2.2.2.2.2.1))) (some (.inl (A0 .i64 (a.1+1),a.2.1,b.2.1,b.2.2.1,b.2.2.2.1,b.2.2.2.2.1,b.2.2.2.2.2.1)))) (some (.inr (a.2.1,a.2.2.1,a.2.2.2.1,a.2.2.2.2.1,a.2.2.2.2.2.1,a.2.2.2.2.2.2)))
def SN(d:List ByteArray)(g:List aw)(i:List af)(c:List af)(j:List Int):Option (List Int×List ByteArray×List aw×List af×List af×List Int×List ByteArray×List aw×List af×List af×List Int):=
 (li (⟨(⟨(⟨d,g⟩:ah),i⟩:aB),c,j⟩:ae)).bind fun b=>(DI (⟨(⟨(⟨d,g⟩:ah),i⟩:aB),c,j⟩:ae)).bind fun k=>(aY (M_l c k) N0 (0,[],b.F.F.N,b.F.F.F,b.F.N,b.N,b.L)).bind fun a=>some (a.1,a.2.1,a.2.2.1,a.2.2.2.1,a.2.2.2.2.1,a.2.2.2.2.2,d,g,i,c,j)
def Um(b:List Int)(c:List Int)(a:Int):Option (Int⊕(Unit⊕Bool)):=
 cond (decide (a<(b.length:Int))) ((bG b a).bind fun d=>(bG c a).bind fun g=>cond (d !=g) (some (.inr (.inr false))) (some (.inl (A0 .i64 (a+1))))) (some (.inr (.inl ())))
def KZ(a:List Int)(b:List Int):Option Bool:=
 cond ((a.length:Int) !=(b.length:Int)) (some false) ((aY (Um a b) N0 0).bind fun c=>(match c with| .inl g=>some true| .inr d=>some d))
def Yh(a:aj)(b:aj):Option Bool:=
 cond (a.N==b.N) ((KZ a.F b.F).bind fun c=>some c) (some false)
def RD(a:af)(b:af):Option Bool:=
 cond (a.Id==b.Id) ((Yh a.F b.F).bind fun c=>cond (c) (some (a.N.N==b.N.N&&a.N.F==b.N.F)) (some false)) (some false)
def SH(c:Int)(b:aB)(a:Int):Option (Int⊕Int):=
 cond (decide (a<(b.N.length:Int))) ((grd (0<=a/\a<(b.N.length:Int))).bind fun g=>(b.N[(A2 a)]?).bind fun d=>cond (decide (d.Id<c)) (some (.inl (A0 .i64 (a+1)))) (some (.inr a))) (some (.inr a))
def KL(g:Int)(q:Int)(s:Int)(t:Int)(i:List ByteArray)(j:List aw)(k:List af)(l:List Int):Option (List ByteArray×List af×List aw×List ByteArray×List aw×List af×List Int):=
 (ng (⟨(⟨i,j⟩:ah),k⟩:aB)).bind fun a=>(aY (SH g a) N0 0).bind fun b=>(grd (True/\0<=b/\True/\A2 b<=a.N.length)).bind fun w=>bnd (ca a.N 0 (A2 b)) fun d=>(grd (d.length*56<=140737488355328)).bind fun x=>(qj (⟨g,(⟨q,l⟩:aj),(⟨s,t⟩:aX)⟩:af)).bind fun c=>bnd ([(⟨c.Id,(⟨c.F.N,c.F.F⟩:aj),(⟨c.N.N,c.N.F⟩:aX)⟩:af)]) fun u=>(grd ((d.length+1)*56<=140737488355328)).bind fun y=>bnd (d++u) fun m=>(grd (0<=b/\True/\A2 b<=a.N.length/\True)).bind fun z=>bnd (ca a.N (A2 b) (a.N.length-(A2 b))) fun p=>(grd ((m.length+p.length)*56<=140737488355328)).bind fun a1=>bnd (m++p) fun v=>some (a.F.N,v,a.F.F,i,j,k,l)
def NW(k:Nat)(l:Nat)(m:Nat)(p:Nat)(q:Nat)(s:Nat)(a:Int)(d:List ByteArray)(g:List aw)(i:List af):Option (List ByteArray×List af×List aw×List ByteArray×List aw×List af):=
 bnd (ca d k l) fun t=>bnd (ca g m p) fun u=>bnd (ca i q s) fun v=>(ng (⟨(⟨t,u⟩:ah),v⟩:aB)).bind fun b=>(grd (True/\0<=a/\True/\A2 a<=b.N.length)).bind fun x=>bnd (ca b.N 0 (A2 a)) fun c=>(grd (c.length*56<=140737488355328)).bind fun y=>(grd (0<=(A0 .i64 (a+1))/\True/\A2 (A0 .i64 (a+1))<=b.N.length/\True)).bind fun z=>bnd (ca b.N (A2 (A0 .i64 (a+1))) (b.N.length-(A2 (A0 .i64 (a+1))))) fun j=>(grd ((c.length+j.length)*56<=140737488355328)).bind fun a1=>bnd (c++j) fun w=>some (b.F.N,w,b.F.F,d,g,i)
def M_h(j:List af)(k:List Int)(a:Int×Nat×Nat×Nat×List Int×List ByteArray×List aw×List af):Option ((Int×Nat×Nat×Nat×List Int×List ByteArray×List aw×List af)⊕(Nat×Nat×Nat×List Int×List ByteArray×List aw×List af)):=
 cond (decide (a.1<(j.length:Int))) ((grd (0<=a.1/\a.1<(j.length:Int))).bind fun z=>(j[(A2 a.1)]?).bind fun c=>bnd (ca a.2.2.2.2.2.1 0 a.2.1) fun l=>bnd (ca a.2.2.2.2.2.2.1 0 a.2.2.1) fun m=>bnd (ca a.2.2.2.2.2.2.2 0 a.2.2.2.1) fun p=>(CR (⟨(⟨l,m⟩:ah),p⟩:aB) c.Id).bind fun g=>(cond (decide (g<0)) (some true) ((grd (0<=g/\g<(a.2.2.2.1:Int))).bind fun a1=>(a.2.2.2.2.2.2.2[(A2 g)]?).bind fun q=>(RD q c).bind fun s=>cond (s) (some true) ((vW c.F k).bind fun t=>some t)):Option Bool).bind fun u=>cond (u) (some (.inl (A0 .i64 (a.1+1),a.2.1,a.2.2.1,a.2.2.2.1,a.2.2.2.2.1,a.2.2.2.2.2.1,a.2.2.2.2.2.2.1,a.2.2.2.2.2.2.2))) ((NW 0 a.2.1 0 a.2.2.1 0 a.2.2.2.1 g a.2.2.2.2.2.1 a.2.2.2.2.2.2.1 a.2.2.2.2.2.2.2).bind fun b=>(yE (⟨(⟨b.1,b.2.2.1⟩:ah),b.2.1⟩:aB) c.F).bind fun v=>(rJ c.N).bind fun w=>cond ((bits .and .i64 v w)==0) ((qj c).bind fun i=>(KL i.Id i.F.N i.N.N i.N.F b.1 b.2.2.1 b.2.1 i.F.F).bind fun d=>bnd ([c.Id]) fun x=>(grd ((a.2.2.2.2.1.length+1)*8<=140737488355328)).bind fun b1=>bnd (a.2.2.2.2.1++x) fun y=>some (.inl (A0 .i64 (a.1+1),d.1.length,d.2.2.1.length,d.2.1.length,y,d.1,d.2.2.1,d.2.1))) (some (.inl (A0 .i64 (a.1+1),a.2.1,a.2.2.1,a.2.2.2.1,a.2.2.2.2.1,b.2.2.2.1,b.2.2.2.2.1,b.2.2.2.2.2))))) (some (.inr (a.2.1,a.2.2.1,a.2.2.2.1,a.2.2.2.2.1,a.2.2.2.2.2.1,a.2.2.2.2.2.2.1,a.2.2.2.2.2.2.2)))
def LX(g:List ByteArray)(i:List aw)(j:List af)(c:List af)(d:List Int):Option (Nat×Nat×Nat×Nat×Nat×Nat×List Int×List ByteArray×List aw×List af×List af×List Int×List ByteArray×List aw×List af×List af×List Int):=
 (li (⟨(⟨(⟨g,i⟩:ah),j⟩:aB),c,d⟩:ae)).bind fun a=>(aY (M_h c d) N0 (0,a.F.F.N.length,a.F.F.F.length,a.F.N.length,[],a.F.F.N,a.F.F.F,a.F.N)).bind fun b=>some (0,b.1,0,b.2.1,0,b.2.2.1,b.2.2.2.1,b.2.2.2.2.1,b.2.2.2.2.2.1,b.2.2.2.2.2.2,a.N,a.L,g,i,j,c,d)
def M_m(b:List Int)(a:Int×List Int):Option ((Int×List Int)⊕(List Int)):=
 cond (decide (a.1<(b.length:Int))) ((bG b a.1).bind fun c=>(LI c a.2).bind fun d=>some (.inl (A0 .i64 (a.1+1),d))) (some (.inr a.2))
def M_n(g:Nat)(d:Nat)(i:List Int)(j:List af)(a:Int×List Int×List ByteArray×List aw×List af):Option ((Int×List Int×List ByteArray×List aw×List af)⊕(List Int×List ByteArray×List aw×List af)):=
 cond (decide (a.1<(d:Int))) ((grd (0<=a.1/\a.1<(d:Int))).bind fun q=>(j[(g+(A2 a.1))]?).bind fun b=>(vW b.F i).bind fun k=>cond (k) (bnd ([b.Id]) fun l=>(grd ((a.2.1.length+1)*8<=140737488355328)).bind fun s=>bnd (a.2.1++l) fun m=>(CR (⟨(⟨a.2.2.1,a.2.2.2.1⟩:ah),a.2.2.2.2⟩:aB) b.Id).bind fun p=>(KX p a.2.2.1 a.2.2.2.1 a.2.2.2.2).bind fun c=>some (.inl (A0 .i64 (a.1+1),m,c.1,c.2.2.1,c.2.1))) (some (.inl (A0 .i64 (a.1+1),a.2.1,a.2.2.1,a.2.2.2.1,a.2.2.2.2)))) (some (.inr (a.2.1,a.2.2.1,a.2.2.2.1,a.2.2.2.2)))
def Rg(p:Nat)(q:Nat)(s:Nat)(t:Nat)(d:Nat)(g:Nat)(i:List Int)(j:List ByteArray)(k:List aw)(c:List af)(l:List af)(m:List Int):Option (List Int×List ByteArray×List aw×List af×List af×List Int×List ByteArray×List aw×List af×List af×List Int):=
 bnd (ca j p q) fun u=>bnd (ca k s t) fun v=>bnd (ca c d g) fun w=>(li (⟨(⟨(⟨u,v⟩:ah),w⟩:aB),l,m⟩:ae)).bind fun a=>(aY (M_m i) N0 (0,a.L)).bind fun x=>(aY (M_n d g i c) N0 (0,[],a.F.F.N,a.F.F.F,a.F.N)).bind fun b=>some (b.1,b.2.1,b.2.2.1,b.2.2.2,a.N,x,j,k,c,l,m)
def Bu(m:List ByteArray)(l:List aw)(p:List af)(j:List ax)(a:Int×List Int×Nat×Nat×Nat×Nat×Nat×Nat×List ByteArray×List aw×List af×List af×List Int):Option ((Int×List Int×Nat×Nat×Nat×Nat×Nat×Nat×List ByteArray×List aw×List af×List af×List Int)⊕((List Int×Nat×Nat×Nat×Nat×Nat×Nat×List ByteArray×List aw×List af×List af×List Int)⊕(Nat×Nat×Nat×Nat×Nat×Nat×Bool×List Int×List ByteArray×List aw×List af×List af×List Int×List ByteArray×List aw×List af×List ax))):=
 cond (decide (a.1<(j.length:Int))) ((grd (0<=a.1/\a.1<(j.length:Int))).bind fun b1=>(j[(A2 a.1)]?).bind fun k=>(Sm k.F 0 (A0 .i64 ((l.length:Int)-1))).bind fun q=>cond (!q) (some (.inr (.inr (0,0,0,0,0,0,false,[],[],[],[],[],[],m,l,p,j)))) ((cond (k.N) ((Rg a.2.2.1 a.2.2.2.1 a.2.2.2.2.1 a.2.2.2.2.2.1 a.2.2.2.2.2.2.1 a.2.2.2.2.2.2.2.1 k.F a.2.2.2.2.2.2.2.2.1 a.2.2.2.2.2.2.2.2.2.1 a.2.2.2.2.2.2.2.2.2.2.1 a.2.2.2.2.2.2.2.2.2.2.2.1 a.2.2.2.2.2.2.2.2.2.2.2.2).bind fun c=>some (c.2.1,c.2.2.1,c.2.2.2.1,c.2.2.2.2.1,c.2.2.2.2.2.1)) (bnd (ca a.2.2.2.2.2.2.2.2.1 a.2.2.1 a.2.2.2.1) fun s=>bnd (ca a.2.2.2.2.2.2.2.2.2.1 a.2.2.2.2.1 a.2.2.2.2.2.1) fun t=>bnd (ca a.2.2.2.2.2.2.2.2.2.2.1 a.2.2.2.2.2.2.1 a.2.2.2.2.2.2.2.1) fun u=>(Nh (⟨(⟨(⟨s,t⟩:ah),u⟩:aB),a.2.2.2.2.2.2.2.2.2.2.2.1,a.2.2.2.2.2.2.2.2.2.2.2.2⟩:ae) k.F).bind fun d=>some (d.F.F.N,d.F.F.F,d.F.N,d.N,d.L)):Option (List ByteArray×List aw×List af×List af×List Int)).bind fun g=>(SN g.1 g.2.1 g.2.2.1 g.2.2.2.1 g.2.2.2.2).bind fun i=>(LX i.2.1 i.2.2.1 i.2.2.2.1 i.2.2.2.2.1 i.2.2.2.2.2.1).bind fun b=>bnd (ca b.2.2.2.2.2.2.2.1 b.1 b.2.1) fun v=>bnd (ca b.2.2.2.2.2.2.2.2.1 b.2.2.1 b.2.2.2.1) fun w=>bnd (ca b.2.2.2.2.2.2.2.2.2.1 b.2.2.2.2.1 b.2.2.2.2.2.1) fun x=>(DI (⟨(⟨(⟨v,w⟩:ah),x⟩:aB),b.2.2.2.2.2.2.2.2.2.2.1,b.2.2.2.2.2.2.2.2.2.2.2.1⟩:ae)).bind fun y=>bnd ([(y.length:Int)]) fun z=>(grd ((a.2.1.length+1)*8<=140737488355328)).bind fun c1=>bnd (a.2.1++z) fun a1=>some (.inl (A0 .i64 (a.1+1),a1,b.1,b.2.1,b.2.2.1,b.2.2.2.1,b.2.2.2.2.1,b.2.2.2.2.2.1,b.2.2.2.2.2.2.2.1,b.2.2.2.2.2.2.2.2.1,b.2.2.2.2.2.2.2.2.2.1,b.2.2.2.2.2.2.2.2.2.2.1,b.2.2.2.2.2.2.2.2.2.2.2.1)))) (some (.inr (.inl (a.2.1,a.2.2.1,a.2.2.2.1,a.2.2.2.2.1,a.2.2.2.2.2.1,a.2.2.2.2.2.2.1,a.2.2.2.2.2.2.2.1,a.2.2.2.2.2.2.2.2.1,a.2.2.2.2.2.2.2.2.2.1,a.2.2.2.2.2.2.2.2.2.2.1,a.2.2.2.2.2.2.2.2.2.2.2.1,a.2.2.2.2.2.2.2.2.2.2.2.2))))
def MP(c:List ByteArray)(d:List aw)(g:List af)(i:List ax):Option (Nat×Nat×Nat×Nat×Nat×Nat×Bool×List Int×List ByteArray×List aw×List af×List af×List Int×List ByteArray×List aw×List af×List ax):=
 (LD (⟨(⟨c,d⟩:ah),g⟩:aB)).bind fun b=>(cond (!b.2) (some true) (some (decide (20<(i.length:Int)))):Option Bool).bind fun j=>cond (j) (some (0,0,0,0,0,0,false,[],[],[],[],[],[],c,d,g,i)) ((aY (Bu c d g i) N0 (0,[],0,b.1.F.F.N.length,0,b.1.F.F.F.length,0,b.1.F.N.length,b.1.F.F.N,b.1.F.F.F,b.1.F.N,b.1.N,b.1.L)).bind fun k=>(match k with| .inl a=>some (a.2.1,a.2.2.1,a.2.2.2.1,a.2.2.2.2.1,a.2.2.2.2.2.1,a.2.2.2.2.2.2.1,true,a.1,a.2.2.2.2.2.2.2.1,a.2.2.2.2.2.2.2.2.1,a.2.2.2.2.2.2.2.2.2.1,a.2.2.2.2.2.2.2.2.2.2.1,a.2.2.2.2.2.2.2.2.2.2.2,c,d,g,i)| .inr l=>some l))
def mF(a:Int)(b:Int)(c:Int):Option Bool:=
 cond (decide (b<=a)) (some (decide (a<=c))) (some false)
def HY(c:ByteArray)(b:Int):Option (Int⊕(Unit⊕Bool)):=
 cond (decide (b<(c.size:Int))) (((wG c b).bind fun a=>cond (decide (97<=(a.toNat:Int))) (cond (decide (48<=(a.toNat:Int))) (some (decide ((a.toNat:Int)<=122),decide ((a.toNat:Int)<=57))) (some (decide ((a.toNat:Int)<=122),false))) (cond (decide (48<=(a.toNat:Int))) (some (false,decide ((a.toNat:Int)<=57))) (some (false,false))):Option (Bool×Bool)).bind fun d=>cond (!d.1) (cond (!d.2) (some (.inr (.inr false))) (cond (b==0) (some (.inr (.inr false))) (some (.inl (A0 .i64 (b+1)))))) (some (.inl (A0 .i64 (b+1))))) (some (.inr (.inl ())))
def Nw(a:ByteArray):Option Bool:=
 (aY (HY a) N0 0).bind fun b=>(match b with| .inl g=>(mF (a.size:Int) 1 8).bind fun c=>some c| .inr d=>some d)
def GF(b:List ByteArray)(c:ByteArray)(a:Int):Option (Int⊕(Unit⊕Int)):=
 cond (decide (a<(b.length:Int))) ((bG b a).bind fun d=>cond (c.toList==d.toList) (some (.inr (.inr a))) (some (.inl (A0 .i64 (a+1))))) (some (.inr (.inl ())))
def Ww(a:List ByteArray)(b:ByteArray):Option Int:=
 (aY (GF a b) N0 0).bind fun c=>(match c with| .inl g=>some (-1)| .inr d=>some d)
def RS(a:List ByteArray)(b:ByteArray):Option Bool:=
 (Ww a b).bind fun c=>some (decide (0<=c))
def OY(a:Int):Option Bool:=
 some (a !=a)
def qn(a:Int)(b:Int):Option Int:=
 (OY a).bind fun d=>(OY b).bind fun c=>cond (d) (cond (c) (some 0) (some (-1))) (cond (c) (some 1) (cond (decide (a<b)) (some (-1)) (cond (decide (b<a)) (some 1) (some 0))))
def M_y(b:List Int)(a:Int):Option (Int⊕(Unit⊕Int)):=
 cond (decide (a<(b.length:Int))) ((bG b a).bind fun c=>cond (c !=0) (some (.inr (.inr c))) (some (.inl (A0 .i64 (a+1))))) (some (.inr (.inl ())))
def CH(a:List Int):Option Int:=
 (aY (M_y a) N0 0).bind fun b=>(match b with| .inl d=>some 0| .inr c=>some c)
def Ra(a:aw)(b:aw):Option Int:=
 (qn a.A b.A).bind fun c=>(qn a.B b.B).bind fun d=>(qn a.F b.F).bind fun g=>(qn a.N b.N).bind fun i=>bnd ([c,d,g,i]) fun j=>(CH j).bind fun k=>some k
def HP(b:ah)(a:Int):Option (Int⊕(Unit⊕Bool)):=
 cond (decide (a<(b.N.length:Int))) ((bG b.N a).bind fun c=>(Nw c).bind fun d=>cond (!d) (some (.inr (.inr false))) ((slT b.N a).bind fun g=>(RS g c).bind fun i=>cond (i) (some (.inr (.inr false))) (some (.inl (A0 .i64 (a+1)))))) (some (.inr (.inl ())))
def Gn(c:ah)(b:Int):Option (Int⊕(Unit⊕Bool)):=
 cond (decide (b<(c.F.length:Int))) ((bG c.F b).bind fun a=>cond (decide (a.A<0)) (some (.inr (.inr false))) (cond (decide (a.B<=a.A)) (some (.inr (.inr false))) (cond (decide ((c.N.length:Int)<=a.B)) (some (.inr (.inr false))) ((mF a.F 1 5000).bind fun d=>cond (!d) (some (.inr (.inr false))) ((mF a.N 0 9).bind fun g=>cond (!g) (some (.inr (.inr false))) (cond (decide (0<b)) ((bG c.F (A0 .i64 (b-1))).bind fun i=>(Ra i a).bind fun j=>cond (decide (0<j)) (some (.inr (.inr false))) (some (.inl (A0 .i64 (b+1))))) (some (.inl (A0 .i64 (b+1)))))))))) (some (.inr (.inl ())))
def Hn(a:ah):Option Bool:=
 (aY (HP a) N0 0).bind fun b=>(match b with| .inl j=>(aY (Gn a) N0 0).bind fun c=>(match c with| .inl k=>(mF (a.N.length:Int) 2 8).bind fun d=>cond (d) (some (decide ((a.F.length:Int)<=14))) (some false)| .inr g=>some g)| .inr i=>some i)
def Dn(a:aw)(b:Int):Option Int:=
 cond (b==a.A) (some a.B) (cond (b==a.B) (some a.A) (some (-1)))
def JK(b:List Int)(c:Int)(a:Int):Option (Int⊕(Unit⊕Int)):=
 cond (decide (a<(b.length:Int))) ((bG b a).bind fun d=>cond (c==d) (some (.inr (.inr a))) (some (.inl (A0 .i64 (a+1))))) (some (.inr (.inl ())))
def Vn(a:List Int)(b:Int):Option Int:=
 (aY (JK a b) N0 0).bind fun c=>(match c with| .inl g=>some (-1)| .inr d=>some d)
def CT(a:List Int)(b:Int):Option Bool:=
 (Vn a b).bind fun c=>some (decide (0<=c))
def Gu(c:ah)(d:aj)(a:Int×Int×List Int):Option ((Int×Int×List Int)⊕((List Int)⊕(List Int×Bool))):=
 cond (decide (a.2.1<(d.F.length:Int))) ((bG d.F a.2.1).bind fun g=>(mF g 0 (A0 .i64 ((c.F.length:Int)-1))).bind fun i=>cond (!i) (some (.inr (.inr (([]),false)))) ((bG c.F g).bind fun j=>(Dn j a.1).bind fun b=>(cond (decide (b<0)) (some true) ((CT a.2.2 b).bind fun k=>some k):Option Bool).bind fun l=>cond (l) (some (.inr (.inr (([]),false)))) (bnd ([b]) fun m=>(grd ((a.2.2.length+1)*8<=140737488355328)).bind fun q=>bnd (a.2.2++m) fun p=>some (.inl (b,A0 .i64 (a.2.1+1),p))))) (some (.inr (.inl a.2.2)))
def GS(b:ah)(a:aj):Option (List Int×Bool):=
 ((mF a.N 0 (A0 .i64 ((b.N.length:Int)-1))).bind fun c=>cond (!c) (some true) (some ((a.F.length:Int)==0)):Option Bool).bind fun d=>cond (d) (some (([]),false)) (bnd ([a.N]) fun g=>(aY (Gu b a) N0 (a.N,0,g)).bind fun i=>(match i with| .inl j=>some (j,true)| .inr k=>some k))
def KA(a:aX):Option Bool:=
 cond (decide (0<=a.N)) ((mF a.F 1 24).bind fun b=>cond (b) (some (decide (a.N<=(A0 .i64 (24-a.F))))) (some false)) (some false)
def Om(b:ah)(a:af):Option Bool:=
 (GS b a.F).bind fun c=>cond (c.2) ((mF a.Id 1 999).bind fun d=>cond (d) ((KA a.N).bind fun g=>some g) (some false)) (some false)
def zg(a:aX):Option Int:=
 (grd (0<=a.F)).bind fun b=>(grd (0<=a.N)).bind fun c=>some (A0 .i64 ((A0 .i64 ((A0 .i64 (1*2^(min (A2 a.F) (A4 .i64))))-1))*2^(min (A2 a.N) (A4 .i64))))
def BS(c:Nat)(d:Nat)(b:Int)(a:Int×Int×List Int):Option ((Int×Int×List Int)⊕(Int×List Int)):=
 cond (decide (a.2.1<(((d-(A2 b)):Nat):Int))) ((grd (0<=a.2.1/\a.2.1<(((d-(A2 b)):Nat):Int))).bind fun k=>(a.2.2[((c+(A2 b))+(A2 a.2.1))]?).bind fun g=>(grd (0<=(A0 .i64 (a.2.1-1))/\(A0 .i64 (a.2.1-1))<(((d-(A2 b)):Nat):Int))).bind fun l=>(a.2.2[((c+(A2 b))+(A2 (A0 .i64 (a.2.1-1))))]?).bind fun i=>cond (g !=i) ((grd (0<=a.1/\a.1<(d:Int))).bind fun m=>(a.2.2[(c+(A2 a.1))]?).bind fun p=>bnd (a.2.2.set (c+(A2 a.1)) g) fun j=>some (.inl (A0 .i64 (a.1+1),A0 .i64 (a.2.1+1),j))) (some (.inl (a.1,A0 .i64 (a.2.1+1),a.2.2)))) (some (.inr (a.1,a.2.2)))
def Jr(d:Nat)(b:Nat)(g:List Int)(a:Int):Option (Int⊕(Unit⊕(Nat×Nat×List Int))):=
 cond (decide (a<(b:Int))) ((grd (0<=a/\a<(b:Int))).bind fun l=>(g[(d+(A2 a))]?).bind fun i=>(grd (0<=(A0 .i64 (a-1))/\(A0 .i64 (a-1))<(b:Int))).bind fun m=>(g[(d+(A2 (A0 .i64 (a-1))))]?).bind fun j=>cond (i==j) ((grd (0<=a/\True/\A2 a<=b/\True)).bind fun p=>(aY (BS d b a) N0 (a,1,g)).bind fun c=>(grd (0<=c.1/\True/\A2 c.1<=b/\True)).bind fun q=>bnd (dz c.2 (d+(A2 c.1)) (A3 (b-(A2 c.1)) 0)) fun k=>(grd (True/\0<=c.1/\True/\A2 c.1<=b)).bind fun s=>some (.inr (.inr (d,(A2 c.1),k)))) (some (.inl (A0 .i64 (a+1))))) (some (.inr (.inl ())))
def JD(b:Nat)(a:Nat)(c:List Int):Option (Nat×Nat×List Int):=
 cond (decide ((a:Int)<2)) (some (b,a,c)) ((aY (Jr b a c) N0 1).bind fun d=>(match d with| .inl i=>some (b,a,c)| .inr g=>some g))
def BN(b:List Int)(d:List Int)(a:Int×List Int):Option ((Int×List Int)⊕(List Int)):=
 cond (decide (a.1<(b.length:Int))) ((bG b a.1).bind fun c=>(CT d c).bind fun g=>cond (g) (bnd ([c]) fun i=>(grd ((a.2.length+1)*8<=140737488355328)).bind fun k=>bnd (a.2++i) fun j=>some (.inl (A0 .i64 (a.1+1),j))) (some (.inl (A0 .i64 (a.1+1),a.2)))) (some (.inr a.2))
def wy(c:List Int)(d:List Int):Option (List Int):=
 (aY (BN c d) N0 (0,[])).bind fun b=>(oA b).bind fun g=>(JD 0 b.length g).bind fun a=>bnd (ca a.2.2 a.1 a.2.1) fun i=>some i
def He(a:af)(b:af):Option Bool:=
 (zg a.N).bind fun c=>(zg b.N).bind fun d=>cond ((bits .and .i64 c d) !=0) ((wy a.F.F b.F.F).bind fun g=>some (decide (0<(g.length:Int)))) (some false)
def BU(a:af)(p1Z0:af):Option Bool:=
 (He a p1Z0).bind fun b=>some b
def wD(b:List af)(c:af->Option Bool)(a:Int):Option (Int⊕(Unit⊕Int)):=
 cond (decide (a<(b.length:Int))) ((bG b a).bind fun d=>(c d).bind fun g=>cond (g) (some (.inr (.inr a))) (some (.inl (A0 .i64 (a+1))))) (some (.inr (.inl ())))
def AN(a:List af)(b:af->Option Bool):Option Int:=
 (aY (wD a b) N0 0).bind fun c=>(match c with| .inl g=>some (-1)| .inr d=>some d)
def xo(a:List af)(b:af->Option Bool):Option Bool:=
 (AN a b).bind fun c=>some (decide (0<=c))
def HX(b:aB)(a:Int):Option (Int⊕(Unit⊕Bool)):=
 cond (decide (a<(b.N.length:Int))) ((bG b.N a).bind fun c=>(Om b.F c).bind fun d=>cond (!d) (some (.inr (.inr false))) (cond (decide (0<a)) ((bG b.N (A0 .i64 (a-1))).bind fun g=>cond (decide (c.Id<=g.Id)) (some (.inr (.inr false))) ((slT b.N a).bind fun i=>(xo i (fun x0=>BU x0 c)).bind fun j=>cond (j) (some (.inr (.inr false))) (some (.inl (A0 .i64 (a+1)))))) ((slT b.N a).bind fun k=>(xo k (fun x0=>BU x0 c)).bind fun l=>cond (l) (some (.inr (.inr false))) (some (.inl (A0 .i64 (a+1))))))) (some (.inr (.inl ())))
def zo(a:aB):Option Bool:=
 ((Hn a.F).bind fun b=>cond (!b) (some true) (some (decide (12<(a.N.length:Int)))):Option Bool).bind fun c=>cond (c) (some false) ((aY (HX a) N0 0).bind fun d=>(match d with| .inl i=>some true| .inr g=>some g))
def Xh(a:ah):Option ah:=
 (grd (a.N.length*16<=140737488355328)).bind fun b=>(grd (a.F.length*32<=140737488355328)).bind fun c=>some (⟨a.N,a.F⟩:ah)
def zO(a:aj):Option aj:=
 (grd (a.F.length*8<=140737488355328)).bind fun b=>some (⟨a.N,a.F⟩:aj)
def HA(c:aB)(a:Int×List af):Option ((Int×List af)⊕(List af)):=
 cond (decide (a.1<(c.N.length:Int))) ((bG c.N a.1).bind fun b=>(zO b.F).bind fun d=>bnd ([(⟨b.Id,(⟨d.N,d.F⟩:aj),(⟨b.N.N,b.N.F⟩:aX)⟩:af)]) fun g=>(grd ((a.2.length+1)*56<=140737488355328)).bind fun j=>bnd (a.2++g) fun i=>some (.inl (A0 .i64 (a.1+1),i))) (some (.inr a.2))
def Cx(a:aB):Option aB:=
 (Xh a.F).bind fun b=>(aY (HA a) N0 (0,[])).bind fun c=>some (⟨(⟨b.N,b.F⟩:ah),c⟩:aB)
def TV(a:List Int):Option (List Int):=
 (grd (a.length*8<=140737488355328)).bind fun b=>some a
def sv(a:ae):Option ae:=
 (Cx a.F).bind fun b=>(Cx (⟨(⟨[],[]⟩:ah),a.N⟩:aB)).bind fun c=>(TV a.L).bind fun d=>some (⟨(⟨(⟨b.F.N,b.F.F⟩:ah),b.N⟩:aB),c.N,d⟩:ae)
def Rs(a:aB):Option (ae×Bool):=
 (zo a).bind fun c=>cond (!c) (some ((⟨(⟨(⟨[],[]⟩:ah),[]⟩:aB),[],[]⟩:ae),false)) ((sv (⟨(⟨(⟨a.F.N,a.F.F⟩:ah),a.N⟩:aB),a.N,[]⟩:ae)).bind fun b=>some ((⟨(⟨(⟨b.F.F.N,b.F.F.F⟩:ah),b.F.N⟩:aB),b.N,b.L⟩:ae),true))
def Kx(b:List Int)(d:Int)(a:Int):Option (Int⊕(Unit⊕Bool)):=
 cond (decide (a<(b.length:Int))) ((bG b a).bind fun c=>(mF c 0 (A0 .i64 (d-1))).bind fun g=>cond (!g) (some (.inr (.inr false))) (cond (decide (0<a)) ((bG b (A0 .i64 (a-1))).bind fun i=>cond (decide (c<=i)) (some (.inr (.inr false))) (some (.inl (A0 .i64 (a+1))))) (some (.inl (A0 .i64 (a+1)))))) (some (.inr (.inl ())))
def JV(a:List Int)(b:Int):Option Bool:=
 (aY (Kx a b) N0 0).bind fun c=>(match c with| .inl g=>some true| .inr d=>some d)
def Sc(a:af)(p1Z0:Int):Option Bool:=
 some (a.Id==p1Z0)
def Cp(a:ae)(b:Int):Option Int:=
 (AN a.N (fun x0=>Sc x0 b)).bind fun c=>some c
def Cn(b:ah)(c:aj):Option Int:=
 (GS b c).bind fun a=>(grd (0<=(A0 .i64 ((a.1.length:Int)-1))/\(A0 .i64 ((a.1.length:Int)-1))<(a.1.length:Int))).bind fun g=>(a.1[(A2 (A0 .i64 ((a.1.length:Int)-1)))]?).bind fun d=>some d
def Gm(a:af)(p1Z0:ae)(p2Z0:ah):Option Bool:=
 (Cp p1Z0 a.Id).bind fun c=>(cond (decide (c<0)) (some true) ((wy a.F.F p1Z0.L).bind fun d=>some (decide (0<(d.length:Int)))):Option Bool).bind fun g=>cond (g) (some true) ((bG p1Z0.N c).bind fun b=>cond (b.F.N !=a.F.N) (some true) ((Cn p2Z0 b.F).bind fun i=>(Cn p2Z0 a.F).bind fun j=>cond (i !=j) (some true) (some (b.N.F !=a.N.F))))
def Bh(a:ae):Option Bool:=
 ((zo a.F).bind fun b=>cond (!b) (some true) ((zo (⟨(⟨a.F.F.N,a.F.F.F⟩:ah),a.N⟩:aB)).bind fun c=>cond (!c) (some true) ((JV a.L (a.F.F.F.length:Int)).bind fun d=>some (!d))):Option Bool).bind fun g=>cond (g) (some false) ((xo a.F.N (fun x0=>Gm x0 a a.F.F)).bind fun i=>some (!i))
def Dy(a:ae)(b:List Int):Option Bool:=
 (Bh a).bind fun c=>cond (c) ((JV b (a.F.F.F.length:Int)).bind fun d=>some d) (some false)
def Mb(a:Int):Option (Nat×Nat×List Int):=
 cond (decide (a<0)) (none) (cond (decide (0<(A0 .i64 (a-(A0 .i64 (0-((0:Nat):Int))))))) ((grd (0<A0 .i64 (a-(A0 .i64 (0-((0:Nat):Int))))/\(A0 .i64 (a-(A0 .i64 (0-((0:Nat):Int)))))*((8:Nat):Int)<=140737488355328)).bind fun c=>bnd (A3 (A2 (A0 .i64 (a-(A0 .i64 (0-((0:Nat):Int)))))) 0) fun b=>(grd (True/\0<=0/\True/\A2 0<=(A2 (A0 .i64 (a-(A0 .i64 (0-((0:Nat):Int)))))))).bind fun d=>some (0,(A2 0),b)) (some (0,0,[])))
def M_z(b:List (List Int))(a:Int×Int):Option ((Int×Int)⊕Int):=
 cond (decide (a.2<(b.length:Int))) ((bG b a.2).bind fun c=>cond (decide ((A0 .i64 (a.1+(c.length:Int)))<0)) (none) (some (.inl (A0 .i64 (a.1+(c.length:Int)),A0 .i64 (a.2+1))))) (some (.inr a.1))
def Qm(c:List (List Int))(a:Nat×Nat×Int×List Int):Option ((Nat×Nat×Int×List Int)⊕(Nat×Nat×List Int)):=
 cond (decide (a.2.2.1<(c.length:Int))) ((bG c a.2.2.1).bind fun b=>bnd (ca a.2.2.2 a.1 a.2.1) fun d=>(grd ((a.2.1+b.length)*8<=140737488355328)).bind fun i=>bnd (d++b) fun g=>some (.inl (0,(a.2.1+b.length),A0 .i64 (a.2.2.1+1),g))) (some (.inr (a.1,a.2.1,a.2.2.2)))
def Sd(c:List (List Int)):Option (List Int):=
 (aY (M_z c) N0 (0,0)).bind fun d=>(Mb d).bind fun a=>(aY (Qm c) N0 (a.1,a.2.1,0,a.2.2)).bind fun b=>bnd (ca b.2.2 b.1 b.2.1) fun g=>some g
def lF(d:af)(a:List Int)(b:List Int):Option (Bool×List Int×List Int):=
 (wy (((d).F).F) a).bind fun c=>cond (decide (0<(c.length:Int))) (bnd ([(d).Id]) fun g=>(grd ((b.length+1)*8<=140737488355328)).bind fun j=>bnd (b++g) fun i=>some (decide (0<(c.length:Int)),a,i)) (some (decide (0<(c.length:Int)),a,b))
def M_r{τq:Type}(d:τq->af)(i:τq)(c:List τq)(a:Int×List Int×List Int):Option ((Int×List Int×List Int)⊕((List Int×List Int)⊕(Int×List τq×List Int×List Int))):=
 cond (decide (a.1<(c.length:Int))) ((grd (0<=a.1/\a.1<(c.length:Int))).bind fun j=>(c[(A2 a.1)]?).bind fun g=>(lF (d g) a.2.1 a.2.2).bind fun b=>cond (b.1) (some (.inr (.inr (a.1,c,b.2.1,b.2.2)))) (some (.inl (A0 .i64 (a.1+1),b.2.1,b.2.2)))) (some (.inr (.inl (a.2.1,a.2.2))))
def GK{τq:Type}(c:τq->af)(d:τq)(a:List τq)(g:List Int)(i:List Int):Option (Int×List τq×List Int×List Int):=
 (aY (M_r c d a) N0 (0,g,i)).bind fun j=>(match j with| .inl b=>some ((-1),a,b.1,b.2)| .inr k=>some k)
def M_s{τq:Type}(g:τq->af)(j:τq)(c:List τq)(a:Int×Int×List τq×List Int×List Int):Option ((Int×Int×List τq×List Int×List Int)⊕(Int×List τq×List Int×List Int)):=
 cond (decide (a.2.1<(c.length:Int))) ((grd (0<=a.2.1/\a.2.1<(c.length:Int))).bind fun k=>(a.2.2.1[(A2 a.2.1)]?).bind fun d=>(lF (g d) a.2.2.2.1 a.2.2.2.2).bind fun b=>cond (!b.1) ((grd (0<=a.1/\a.1<(c.length:Int))).bind fun l=>(a.2.2.1[(A2 a.1)]?).bind fun m=>bnd (a.2.2.1.set (A2 a.1) d) fun i=>some (.inl (A0 .i64 (a.1+1),A0 .i64 (a.2.1+1),i,b.2.1,b.2.2))) (some (.inl (a.1,A0 .i64 (a.2.1+1),a.2.2.1,b.2.1,b.2.2)))) (some (.inr (a.1,a.2.2.1,a.2.2.2.1,a.2.2.2.2)))
def rH{τq:Type}(g:τq->af)(d:τq)(c:List τq)(i:List Int)(j:List Int):Option (Nat×Nat×List τq×List Int×List Int):=
 (GK g d c i j).bind fun b=>cond (b.1==(-1)) (some (0,c.length,b.2.1,b.2.2.1,b.2.2.2)) ((aY (M_s g d c) N0 (b.1,A0 .i64 (b.1+1),b.2.1,b.2.2.1,b.2.2.2)).bind fun a=>(grd (0<=a.1/\True/\A2 a.1<=c.length/\True)).bind fun l=>bnd (dz a.2.1 (A2 a.1) (A3 (c.length-(A2 a.1)) d)) fun k=>(grd (True/\0<=a.1/\True/\A2 a.1<=c.length)).bind fun m=>some (0,(A2 a.1),k,a.2.2.1,a.2.2.2))
def KO(c:ae)(d:List Int):Option (ae×List Int×Bool):=
 (Dy c d).bind fun j=>cond (!j) (some ((⟨(⟨(⟨[],[]⟩:ah),[]⟩:aB),[],[]⟩:ae),([]),false)) ((sv c).bind fun a=>bnd ([c.L,d]) fun k=>(Sd k).bind fun i=>(oA i).bind fun l=>(JD 0 i.length l).bind fun g=>(rH id (⟨0,(⟨0,[]⟩:aj),(⟨0,0⟩:aX)⟩:af) a.F.N d ([])).bind fun b=>bnd (ca b.2.2.1 b.1 b.2.1) fun m=>bnd (ca g.2.2 g.1 g.2.1) fun p=>some ((⟨(⟨(⟨a.F.F.N,a.F.F.F⟩:ah),m⟩:aB),a.N,p⟩:ae),b.2.2.2.2,true))
def xm(a:Int)(p1Z0:List Int):Option Bool:=
 (CT p1Z0 a).bind fun b=>some b
def vY(b:List Int)(c:Int->Option Bool)(a:Int):Option (Int⊕(Unit⊕Int)):=
 cond (decide (a<(b.length:Int))) ((bG b a).bind fun d=>(c d).bind fun g=>cond (g) (some (.inr (.inr a))) (some (.inl (A0 .i64 (a+1))))) (some (.inr (.inl ())))
def Dd(a:List Int)(b:Int->Option Bool):Option Int:=
 (aY (vY a b) N0 0).bind fun c=>(match c with| .inl g=>some (-1)| .inr d=>some d)
def Il(c:List Int)(a:Int×Int×List Int):Option ((Int×Int×List Int)⊕(Int×List Int)):=
 cond (decide (a.2.1<(a.2.2.length:Int))) ((grd (0<=a.2.1/\a.2.1<(a.2.2.length:Int))).bind fun i=>(a.2.2[(A2 a.2.1)]?).bind fun b=>(xm b c).bind fun d=>cond (!d) ((grd (0<=a.1/\a.1<(a.2.2.length:Int))).bind fun j=>(a.2.2[(A2 a.1)]?).bind fun k=>bnd (a.2.2.set (A2 a.1) b) fun g=>some (.inl (A0 .i64 (a.1+1),A0 .i64 (a.2.1+1),g))) (some (.inl (a.1,A0 .i64 (a.2.1+1),a.2.2)))) (some (.inr (a.1,a.2.2)))
def Pj(b:List Int)(c:List Int):Option (Nat×Nat×List Int×List Int):=
 (Dd b (fun x0=>xm x0 c)).bind fun d=>cond (d==(-1)) (some (0,b.length,b,c)) ((aY (Il c) N0 (d,A0 .i64 (d+1),b)).bind fun a=>(grd (0<=a.1/\True/\A2 a.1<=a.2.length/\True)).bind fun i=>bnd (dz a.2 (A2 a.1) (A3 (a.2.length-(A2 a.1)) 0)) fun g=>(grd (True/\0<=a.1/\True/\A2 a.1<=a.2.length)).bind fun j=>some (0,(A2 a.1),g,c))
def Oa(c:ae)(d:List Int):Option (ae×Bool):=
 (Dy c d).bind fun g=>cond (!g) (some ((⟨(⟨(⟨[],[]⟩:ah),[]⟩:aB),[],[]⟩:ae),false)) ((sv c).bind fun a=>(Pj a.L d).bind fun b=>bnd (ca b.2.2.1 b.1 b.2.1) fun i=>some ((⟨(⟨(⟨a.F.F.N,a.F.F.F⟩:ah),a.F.N⟩:aB),a.N,i⟩:ae),true))
def LW(a:af)(p1Z0:Int):Option Bool:=
 some (a.Id==p1Z0)
def NO(a:aB)(b:Int):Option Int:=
 (AN a.N (fun x0=>LW x0 b)).bind fun c=>some c
def Iw(b:ae)(a:Int×List Int):Option ((Int×List Int)⊕(List Int)):=
 cond (decide (a.1<(b.N.length:Int))) ((bG b.N a.1).bind fun c=>(NO b.F c.Id).bind fun d=>cond (decide (d<0)) (bnd ([c.Id]) fun g=>(grd ((a.2.length+1)*8<=140737488355328)).bind fun j=>bnd (a.2++g) fun i=>some (.inl (A0 .i64 (a.1+1),i))) (some (.inl (A0 .i64 (a.1+1),a.2)))) (some (.inr a.2))
def Jf(a:ae):Option (List Int):=
 (aY (Iw a) N0 (0,[])).bind fun b=>some b
def QP(a:af)(p1Z0:af):Option Bool:=
 cond (a.Id !=p1Z0.Id) ((He a p1Z0).bind fun b=>some b) (some false)
def Kv(a:ae)(b:af):Option Bool:=
 (wy b.F.F a.L).bind fun c=>cond ((c.length:Int)==0) ((xo a.F.N (fun x0=>QP x0 b)).bind fun d=>some (!d)) (some false)
def Hy(b:aB)(c:af)(a:Int):Option (Int⊕Int):=
 cond (decide (a<(b.N.length:Int))) ((bG b.N a).bind fun d=>cond (decide (d.Id<c.Id)) (some (.inl (A0 .i64 (a+1)))) (some (.inr a))) (some (.inr a))
def Kg(c:aB)(a:af):Option aB:=
 (Cx c).bind fun b=>(aY (Hy c a) N0 0).bind fun g=>(zO a.F).bind fun d=>bnd ([(⟨a.Id,(⟨d.N,d.F⟩:aj),(⟨a.N.N,a.N.F⟩:aX)⟩:af)]) fun i=>(pf 56 b.N g i).bind fun j=>some (⟨(⟨b.F.N,b.F.F⟩:ah),j⟩:aB)
def OI(a:Int)(p1Z0:ah):Option Bool:=
 (mF a 0 (A0 .i64 ((p1Z0.N.length:Int)-1))).bind fun b=>some (!b)
def Pu(a:List Int)(b:Int->Option Bool):Option Bool:=
 (Dd a b).bind fun c=>some (decide (0<=c))
def Pv(a:ah)(b:List Int):Option Bool:=
 (Hn a).bind fun c=>cond (c) ((Pu b (fun x0=>OI x0 a)).bind fun d=>some (!d)) (some false)
def Kr(a:List Int):Option (List Int):=
 cond (a.isEmpty) (amb (some ([])) ((grd (a.length*8<=140737488355328)).bind fun b=>some a)) ((grd (a.length*8<=140737488355328)).bind fun c=>some a)
def M_p(j:Int)(d:Int)(g:List Int)(i:ah)(k:Int->Int->List Int->Int->List aj->Int->ah->Option (Int×List aj×Int×ah))(a:Int×Int×List aj×Int×ah):Option ((Int×Int×List aj×Int×ah)⊕(Int×List aj×Int×ah)):=
 cond (decide (a.1<(((i).F).length:Int))) ((bG ((i).F) a.1).bind fun l=>(Dn l j).bind fun b=>(cond (decide (0<=b)) ((grd (0<=b)).bind fun s=>some ((bits .and .i64 (Int.fdiv d (2^(min (A2 b) (A4 .i64)))) 1)==0)) (some false):Option Bool).bind fun m=>cond (m) ((grd (0<=b)).bind fun t=>bnd ([a.1]) fun p=>(grd ((g.length+1)*8<=140737488355328)).bind fun u=>bnd (g++p) fun q=>(k b (bits .or .i64 d (A0 .i64 (1*2^(min (A2 b) (A4 .i64))))) q a.2.1 a.2.2.1 a.2.2.2.1 a.2.2.2.2).bind fun c=>some (.inl (A0 .i64 (a.1+1),c.1,c.2.1,c.2.2.1,c.2.2.2))) (some (.inl (A0 .i64 (a.1+1),a.2.1,a.2.2.1,a.2.2.2.1,a.2.2.2.2)))) (some (.inr (a.2.1,a.2.2.1,a.2.2.2.1,a.2.2.2.2)))
def Ln(k:Int->Int->List Int->Int->List aj->Int->ah->Option (Int×List aj×Int×ah))(i:Int)(l:Int)(j:List Int)(b:Int)(c:List aj)(d:Int)(g:ah):Option (Int×List aj×Int×ah):=
 cond (i==b) ((Kr j).bind fun m=>bnd ([(⟨d,m⟩:aj)]) fun p=>(grd ((c.length+1)*32<=140737488355328)).bind fun s=>bnd (c++p) fun q=>some (b,q,d,g)) ((aY (M_p i l j g k) N0 (0,b,c,d,g)).bind fun a=>some (a.1,a.2.1,a.2.2.1,a.2.2.2))
def Hh:Nat->Int->Int->List Int->Int->List aj->Int->ah->Option (Int×List aj×Int×ah)
 |0,_,_,_,_,_,_,_=>none
 |n+1,a,b,c,d,g,i,j=>Ln (Hh n) a b c d g i j
def aer(j:Int)(d:Int)(g:List Int)(i:ah)(a:Int×Int×List aj×Int×ah):Option ((Int×Int×List aj×Int×ah)⊕(Int×List aj×Int×ah)):=
 cond (decide (a.1<(((i).F).length:Int))) ((bG ((i).F) a.1).bind fun k=>(Dn k j).bind fun b=>(cond (decide (0<=b)) ((grd (0<=b)).bind fun q=>some ((bits .and .i64 (Int.fdiv d (2^(min (A2 b) (A4 .i64)))) 1)==0)) (some false):Option Bool).bind fun l=>cond (l) ((grd (0<=b)).bind fun s=>bnd ([a.1]) fun m=>(grd ((g.length+1)*8<=140737488355328)).bind fun t=>bnd (g++m) fun p=>(Hh N0 b (bits .or .i64 d (A0 .i64 (1*2^(min (A2 b) (A4 .i64))))) p a.2.1 a.2.2.1 a.2.2.2.1 a.2.2.2.2).bind fun c=>some (.inl (A0 .i64 (a.1+1),c.1,c.2.1,c.2.2.1,c.2.2.2))) (some (.inl (A0 .i64 (a.1+1),a.2.1,a.2.2.1,a.2.2.2.1,a.2.2.2.2)))) (some (.inr (a.2.1,a.2.2.1,a.2.2.2.1,a.2.2.2.2)))
def Ua(i:Int)(k:Int)(j:List Int)(b:Int)(c:List aj)(d:Int)(g:ah):Option (Int×List aj×Int×ah):=
 cond (i==b) ((Kr j).bind fun l=>bnd ([(⟨d,l⟩:aj)]) fun m=>(grd ((c.length+1)*32<=140737488355328)).bind fun q=>bnd (c++m) fun p=>some (b,p,d,g)) ((aY (aer i k j g) N0 (0,b,c,d,g)).bind fun a=>some (a.1,a.2.1,a.2.2.1,a.2.2.2))
def afr(c:ah)(b:aj)(a:Int×Int):Option ((Int×Int)⊕Int):=
 cond (decide (a.2<(b.F.length:Int))) ((bG b.F a.2).bind fun d=>(bG c.F d).bind fun g=>some (.inl (A0 .i64 (a.1+g.F),A0 .i64 (a.2+1)))) (some (.inr a.1))
def SD(a:ah)(b:aj):Option Int:=
 (aY (afr a b) N0 (0,0)).bind fun c=>some c
def HB(s1Z0:List Int)(s2Z0:List Int)(a:Int):Option (Int⊕(Unit⊕Int)):=
 cond (decide (a<(s1Z0.length:Int))) ((bG s1Z0 a).bind fun c=>cond (decide ((s2Z0.length:Int)<=a)) (some (.inr (.inr 1))) ((bG s2Z0 a).bind fun d=>(qn c d).bind fun b=>cond (b !=0) (some (.inr (.inr b))) (some (.inl (A0 .i64 (a+1)))))) (some (.inr (.inl ())))
def Py(s1Z0:List Int)(s2Z0:List Int):Option Int:=
 (aY (HB s1Z0 s2Z0) N0 0).bind fun a=>(match a with| .inl c=>cond (decide ((s1Z0.length:Int)<(s2Z0.length:Int))) (some (-1)) (some 0)| .inr b=>some b)
def Pd(c:ah)(a:aj)(b:aj):Option Int:=
 (SD c a).bind fun d=>(SD c b).bind fun g=>(qn d g).bind fun i=>(qn (a.F.length:Int) (b.F.length:Int)).bind fun j=>(Py a.F b.F).bind fun k=>(qn a.N b.N).bind fun l=>bnd ([i,j,k,l]) fun m=>(CH m).bind fun p=>some p
def yr(a:aj)(b:aj)(p2Z0:ah):Option Int:=
 (Pd p2Z0 a b).bind fun c=>some c
def LP(b:ah)(a:Int)(c:Int):Option (List aj):=
 (cond (a !=c) ((grd (0<=a)).bind fun j=>(Ua a (A0 .i64 (1*2^(min (A2 a) (A4 .i64)))) ([]) c ([]) a b).bind fun d=>some (d.2.2.2,d.2.1)) (some (b,[])):Option (ah×List aj)).bind fun g=>(qc (fun x0 x1=>yr x0 x1 g.1) g.2).bind fun i=>some i
def zN(c:ah)(a:Int)(b:Int):Option (List aj×Bool):=
 (bnd ([a,b]) fun g=>(Pv c g).bind fun i=>cond (!i) (some true) (some (a==b)):Option Bool).bind fun j=>cond (j) (some (([]),false)) ((LP c a b).bind fun d=>cond (decide (200<(d.length:Int))) (some (([]),false)) (some (d,true)))
def M_j(c:af)(a:Int×List Int):Option ((Int×List Int)⊕(List Int)):=
 cond (decide (a.1<(c.F.F.length:Int))) ((bG c.F.F a.1).bind fun b=>(grd (0<=b/\b<(a.2.length:Int))).bind fun j=>(a.2[(A2 b)]?).bind fun d=>(zg c.N).bind fun g=>bnd (a.2.set (A2 b) (bits .or .i64 d g)) fun i=>some (.inl (A0 .i64 (a.1+1),i))) (some (.inr a.2))
def Dq(b:aB)(a:Int×List Int):Option ((Int×List Int)⊕(List Int)):=
 cond (decide (a.1<(b.N.length:Int))) (((bG b.N a.1).bind fun c=>(aY (M_j c) N0 (0,a.2)).bind fun d=>some d:Option (List Int)).bind fun g=>some (.inl (A0 .i64 (a.1+1),g))) (some (.inr a.2))
def Lv(a:aB):Option (List Int):=
 (grd (0<=(a.F.F.length:Int)/\(a.F.F.length:Int)<=(a.F.F.length:Int)/\(a.F.F.length:Int)*((8:Nat):Int)<=140737488355328/\(a.F.F.length:Int)<=9223372036854775807)).bind fun d=>bnd (A3 (A2 (a.F.F.length:Int)) 0) fun b=>(aY (Dq a) N0 (0,b)).bind fun c=>some c
def BZ(c:aj)(d:List Int)(a:Int×Int):Option ((Int×Int)⊕Int):=
 cond (decide (a.2<(c.F.length:Int))) ((bG c.F a.2).bind fun b=>(grd (0<=b/\b<(d.length:Int))).bind fun i=>(d[(A2 b)]?).bind fun g=>some (.inl (bits .or .i64 a.1 g,A0 .i64 (a.2+1)))) (some (.inr a.1))
def RC(a:aB)(b:aj):Option Int:=
 (Lv a).bind fun c=>(aY (BZ b c) N0 (0,0)).bind fun d=>some d
def UO(a:Int):Option Bool:=
 (mF a 0 16777215).bind fun b=>some b
def Xg(a:Int)(b:Int):Option Bool:=
 (UO a).bind fun c=>cond (c) ((mF b 1 24).bind fun d=>some d) (some false)
def Qu(c:Int)(b:Int)(a:Int×List Int):Option ((Int×List Int)⊕(List Int)):=
 cond (decide ((A0 .i64 (a.1+b))<=24)) ((zg (⟨a.1,b⟩:aX)).bind fun d=>cond ((bits .and .i64 c d)==0) (bnd ([a.1]) fun g=>(grd ((a.2.length+1)*8<=140737488355328)).bind fun j=>bnd (a.2++g) fun i=>some (.inl (A0 .i64 (a.1+1),i))) (some (.inl (A0 .i64 (a.1+1),a.2)))) (some (.inr a.2))
def SJ(a:Int)(b:Int):Option (List Int):=
 (aY (Qu a b) N0 (0,[])).bind fun c=>some c
def MS(c:Int)(a:Int):Option (aX×Bool):=
 (Xg c a).bind fun d=>cond (!d) (some ((⟨0,0⟩:aX),false)) ((SJ c a).bind fun b=>cond ((b.length:Int)==0) (some ((⟨0,0⟩:aX),false)) ((grd (0<=0/\0<(b.length:Int))).bind fun i=>(b[(A2 0)]?).bind fun g=>some ((⟨g,a⟩:aX),true)))
def Iy(c:ae)(k:Int)(j:ae)(l:af)(d:List aj×Bool)(a:Int):Option (Int⊕(Unit⊕(ae×Bool))):=
 cond (decide (a<(d.1.length:Int))) ((grd (0<=a/\a<(d.1.length:Int))).bind fun q=>(d.1[(A2 a)]?).bind fun b=>(wy b.F c.L).bind fun m=>cond (decide (0<(m.length:Int))) (some (.inl (A0 .i64 (a+1)))) ((RC c.F b).bind fun p=>(MS p l.N.F).bind fun g=>cond (g.2) ((Kg c.F (⟨k,(⟨b.N,b.F⟩:aj),(⟨g.1.N,g.1.F⟩:aX)⟩:af)).bind fun i=>some (.inr (.inr ((⟨(⟨(⟨i.F.N,i.F.F⟩:ah),i.N⟩:aB),j.N,j.L⟩:ae),true)))) (some (.inl (A0 .i64 (a+1)))))) (some (.inr (.inl ())))
def JZ(b:ae)(g:Int):Option (ae×Bool):=
 (sv b).bind fun a=>(Cp b g).bind fun j=>(bG b.N j).bind fun c=>(Kv b c).bind fun k=>cond (k) ((Kg b.F c).bind fun d=>some ((⟨(⟨(⟨d.F.N,d.F.F⟩:ah),d.N⟩:aB),a.N,a.L⟩:ae),true)) ((Cn b.F.F c.F).bind fun l=>(zN b.F.F c.F.N l).bind fun i=>cond (!i.2) (some ((⟨(⟨(⟨a.F.F.N,a.F.F.F⟩:ah),a.F.N⟩:aB),a.N,a.L⟩:ae),false)) ((aY (Iy b g a c i) N0 0).bind fun m=>(match m with| .inl q=>some ((⟨(⟨(⟨a.F.F.N,a.F.F.F⟩:ah),a.F.N⟩:aB),a.N,a.L⟩:ae),false)| .inr p=>some p)))
def Bn(c:List Int)(a:Int×List Int×List ByteArray×List aw×List af×List af×List Int):Option ((Int×List Int×List ByteArray×List aw×List af×List af×List Int)⊕(List Int×List ByteArray×List aw×List af×List af×List Int)):=
 cond (decide (a.1<(c.length:Int))) ((grd (0<=a.1/\a.1<(c.length:Int))).bind fun j=>(c[(A2 a.1)]?).bind fun d=>(JZ (⟨(⟨(⟨a.2.2.1,a.2.2.2.1⟩:ah),a.2.2.2.2.1⟩:aB),a.2.2.2.2.2.1,a.2.2.2.2.2.2⟩:ae) d).bind fun b=>cond (b.2) (bnd ([d]) fun g=>(grd ((a.2.1.length+1)*8<=140737488355328)).bind fun k=>bnd (a.2.1++g) fun i=>some (.inl (A0 .i64 (a.1+1),i,b.1.F.F.N,b.1.F.F.F,b.1.F.N,b.1.N,b.1.L))) (some (.inl (A0 .i64 (a.1+1),a.2.1,b.1.F.F.N,b.1.F.F.F,b.1.F.N,b.1.N,b.1.L)))) (some (.inr (a.2.1,a.2.2.1,a.2.2.2.1,a.2.2.2.2.1,a.2.2.2.2.2.1,a.2.2.2.2.2.2)))
def Le(c:ae):Option (ae×List Int×Bool):=
 (Bh c).bind fun d=>cond (!d) (some ((⟨(⟨(⟨[],[]⟩:ah),[]⟩:aB),[],[]⟩:ae),([]),false)) ((sv c).bind fun b=>(Jf c).bind fun g=>(aY (Bn g) N0 (0,[],b.F.F.N,b.F.F.F,b.F.N,b.N,b.L)).bind fun a=>some ((⟨(⟨(⟨a.2.1,a.2.2.1⟩:ah),a.2.2.2.1⟩:aB),a.2.2.2.2.1,a.2.2.2.2.2⟩:ae),a.1,true))
def Tx(s1Z0:List Int)(s2Z0:List Int)(a:Int):Option (Int⊕(Unit⊕Bool)):=
 cond (decide (a<(s1Z0.length:Int))) ((bG s1Z0 a).bind fun b=>(bG s2Z0 a).bind fun c=>cond (b !=c) (some (.inr (.inr false))) (some (.inl (A0 .i64 (a+1))))) (some (.inr (.inl ())))
def Gy(s1Z0:List Int)(s2Z0:List Int):Option Bool:=
 cond ((s1Z0.length:Int) !=(s2Z0.length:Int)) (some false) ((aY (Tx s1Z0 s2Z0) N0 0).bind fun a=>(match a with| .inl c=>some true| .inr b=>some b))
def Cq(b:ae)(a:Int×List Int×List af):Option ((Int×List Int×List af)⊕(List Int×List af)):=
 cond (decide (a.1<(b.F.N.length:Int))) ((grd (0<=a.1/\a.1<(a.2.2.length:Int))).bind fun t=>(a.2.2[(A2 a.1)]?).bind fun d=>(Cp (⟨(⟨(⟨b.F.F.N,b.F.F.F⟩:ah),a.2.2⟩:aB),b.N,b.L⟩:ae) d.Id).bind fun g=>(grd (0<=g/\g<(b.N.length:Int))).bind fun u=>(b.N[(A2 g)]?).bind fun c=>(cond (d.F.N==c.F.N) ((Gy d.F.F c.F.F).bind fun j=>cond (j) (some (d.N.N==c.N.N&&d.N.F==c.N.F)) (some false)) (some false):Option Bool).bind fun k=>(cond (!k) ((Kv (⟨(⟨(⟨b.F.F.N,b.F.F.F⟩:ah),a.2.2⟩:aB),b.N,b.L⟩:ae) c).bind fun l=>some l) (some false):Option Bool).bind fun m=>cond (m) ((zO c.F).bind fun i=>bnd (a.2.2.set (A2 a.1) (⟨d.Id,(⟨i.N,i.F⟩:aj),(⟨c.N.N,c.N.F⟩:aX)⟩:af)) fun p=>bnd ([d.Id]) fun q=>(grd ((a.2.1.length+1)*8<=140737488355328)).bind fun v=>bnd (a.2.1++q) fun s=>some (.inl (A0 .i64 (a.1+1),s,p))) (some (.inl (A0 .i64 (a.1+1),a.2.1,a.2.2)))) (some (.inr (a.2.1,a.2.2)))
def Rr(b:ae):Option (ae×List Int×Bool):=
 (Bh b).bind fun d=>cond (!d) (some ((⟨(⟨(⟨[],[]⟩:ah),[]⟩:aB),[],[]⟩:ae),([]),false)) ((sv b).bind fun a=>(aY (Cq a) N0 (0,[],a.F.N)).bind fun c=>some ((⟨(⟨(⟨a.F.F.N,a.F.F.F⟩:ah),c.2⟩:aB),a.N,a.L⟩:ae),c.1,true))
def De(k:List ax)(a:Int×List Int×List ByteArray×List aw×List af×List af×List Int):Option ((Int×List Int×List ByteArray×List aw×List af×List af×List Int)⊕((List Int×List ByteArray×List aw×List af×List af×List Int)⊕(List Int×ae×Bool))):=
 cond (decide (a.1<(k.length:Int))) ((bG k a.1).bind fun j=>(Dy (⟨(⟨(⟨a.2.2.1,a.2.2.2.1⟩:ah),a.2.2.2.2.1⟩:aB),a.2.2.2.2.2.1,a.2.2.2.2.2.2⟩:ae) j.F).bind fun l=>cond (!l) (some (.inr (.inr (([]),(⟨(⟨(⟨[],[]⟩:ah),[]⟩:aB),[],[]⟩:ae),false)))) ((cond (j.N) ((KO (⟨(⟨(⟨a.2.2.1,a.2.2.2.1⟩:ah),a.2.2.2.2.1⟩:aB),a.2.2.2.2.2.1,a.2.2.2.2.2.2⟩:ae) j.F).bind fun c=>some (c.1.F.F.N,c.1.F.F.F,c.1.F.N,c.1.N,c.1.L)) ((Oa (⟨(⟨(⟨a.2.2.1,a.2.2.2.1⟩:ah),a.2.2.2.2.1⟩:aB),a.2.2.2.2.2.1,a.2.2.2.2.2.2⟩:ae) j.F).bind fun d=>some (d.1.F.F.N,d.1.F.F.F,d.1.F.N,d.1.N,d.1.L)):Option (List ByteArray×List aw×List af×List af×List Int)).bind fun g=>(Le (⟨(⟨(⟨g.1,g.2.1⟩:ah),g.2.2.1⟩:aB),g.2.2.2.1,g.2.2.2.2⟩:ae)).bind fun i=>(Rr (⟨(⟨(⟨i.1.F.F.N,i.1.F.F.F⟩:ah),i.1.F.N⟩:aB),i.1.N,i.1.L⟩:ae)).bind fun b=>(Jf (⟨(⟨(⟨b.1.F.F.N,b.1.F.F.F⟩:ah),b.1.F.N⟩:aB),b.1.N,b.1.L⟩:ae)).bind fun m=>bnd ([(m.length:Int)]) fun p=>(grd ((a.2.1.length+1)*8<=140737488355328)).bind fun s=>bnd (a.2.1++p) fun q=>some (.inl (A0 .i64 (a.1+1),q,b.1.F.F.N,b.1.F.F.F,b.1.F.N,b.1.N,b.1.L)))) (some (.inr (.inl (a.2.1,a.2.2.1,a.2.2.2.1,a.2.2.2.2.1,a.2.2.2.2.2.1,a.2.2.2.2.2.2))))
def Ih(d:aB)(c:List ax):Option (List Int×ae×Bool):=
 (Rs d).bind fun a=>(cond (!a.2) (some true) (some (decide (20<(c.length:Int)))):Option Bool).bind fun g=>cond (g) (some (([]),(⟨(⟨(⟨[],[]⟩:ah),[]⟩:aB),[],[]⟩:ae),false)) ((aY (De c) N0 (0,[],a.1.F.F.N,a.1.F.F.F,a.1.F.N,a.1.N,a.1.L)).bind fun i=>(match i with| .inl b=>some (b.1,(⟨(⟨(⟨b.2.1,b.2.2.1⟩:ah),b.2.2.2.1⟩:aB),b.2.2.2.2.1,b.2.2.2.2.2⟩:ae),true)| .inr j=>some j))
def JS(b:List Int)(c:List Int)(a:Int):Option (Int⊕(Unit⊕Bool)):=
 cond (decide (a<(b.length:Int))) ((bG b a).bind fun d=>(bG c a).bind fun g=>cond (d !=g) (some (.inr (.inr false))) (some (.inl (A0 .i64 (a+1))))) (some (.inr (.inl ())))
def uc(a:List Int)(b:List Int):Option Bool:=
 cond ((a.length:Int) !=(b.length:Int)) (some false) ((aY (JS a b) N0 0).bind fun c=>(match c with| .inl g=>some true| .inr d=>some d))
def JR(b:List ByteArray)(c:List ByteArray)(a:Int):Option (Int⊕(Unit⊕Bool)):=
 cond (decide (a<(b.length:Int))) ((bG b a).bind fun d=>(bG c a).bind fun g=>cond (!(d.toList==g.toList)) (some (.inr (.inr false))) (some (.inl (A0 .i64 (a+1))))) (some (.inr (.inl ())))
def Qx(a:List ByteArray)(b:List ByteArray):Option Bool:=
 cond ((a.length:Int) !=(b.length:Int)) (some false) ((aY (JR a b) N0 0).bind fun c=>(match c with| .inl g=>some true| .inr d=>some d))
def IU(a:aw)(b:aw):Option Bool:=
 cond (a.A !=b.A) (some false) (cond (a.B !=b.B) (some false) (cond (a.F !=b.F) (some false) (cond (a.N !=b.N) (some false) (some true))))
def IM(b:List aw)(c:List aw)(a:Int):Option (Int⊕(Unit⊕Bool)):=
 cond (decide (a<(b.length:Int))) ((bG b a).bind fun d=>(bG c a).bind fun g=>(IU d g).bind fun i=>cond (!i) (some (.inr (.inr false))) (some (.inl (A0 .i64 (a+1))))) (some (.inr (.inl ())))
def Pr(a:List aw)(b:List aw):Option Bool:=
 cond ((a.length:Int) !=(b.length:Int)) (some false) ((aY (IM a b) N0 0).bind fun c=>(match c with| .inl g=>some true| .inr d=>some d))
def Ou(a:ah)(b:ah):Option Bool:=
 (Qx a.N b.N).bind fun c=>cond (!c) (some false) ((Pr a.F b.F).bind fun d=>cond (!d) (some false) (some true))
def Qn(a:aj)(b:aj):Option Bool:=
 cond (a.N !=b.N) (some false) ((uc a.F b.F).bind fun c=>cond (!c) (some false) (some true))
def Lo(a:aX)(b:aX):Option Bool:=
 cond (a.N !=b.N) (some false) (cond (a.F !=b.F) (some false) (some true))
def IZ(a:af)(b:af):Option Bool:=
 cond (a.Id !=b.Id) (some false) ((Qn a.F b.F).bind fun c=>cond (!c) (some false) ((Lo a.N b.N).bind fun d=>cond (!d) (some false) (some true)))
def Kz(b:List af)(c:List af)(a:Int):Option (Int⊕(Unit⊕Bool)):=
 cond (decide (a<(b.length:Int))) ((bG b a).bind fun d=>(bG c a).bind fun g=>(IZ d g).bind fun i=>cond (!i) (some (.inr (.inr false))) (some (.inl (A0 .i64 (a+1))))) (some (.inr (.inl ())))
def IK(a:List af)(b:List af):Option Bool:=
 cond ((a.length:Int) !=(b.length:Int)) (some false) ((aY (Kz a b) N0 0).bind fun c=>(match c with| .inl g=>some true| .inr d=>some d))
def JQ(a:aB)(b:aB):Option Bool:=
 (Ou a.F b.F).bind fun c=>cond (!c) (some false) ((IK a.N b.N).bind fun d=>cond (!d) (some false) (some true))
def BL(a:ae)(b:ae):Option Bool:=
 (JQ a.F b.F).bind fun c=>cond (!c) (some false) ((IK a.N b.N).bind fun d=>cond (!d) (some false) ((uc a.L b.L).bind fun g=>cond (!g) (some false) (some true)))
def Km(a:ax)(b:ax):Option Bool:=
 cond (!(a.N==b.N)) (some false) ((uc a.F b.F).bind fun c=>cond (!c) (some false) (some true))
def IR(b:List ax)(c:List ax)(a:Int):Option (Int⊕(Unit⊕Bool)):=
 cond (decide (a<(b.length:Int))) ((bG b a).bind fun d=>(bG c a).bind fun g=>(Km d g).bind fun i=>cond (!i) (some (.inr (.inr false))) (some (.inl (A0 .i64 (a+1))))) (some (.inr (.inl ())))
def QG(a:List ax)(b:List ax):Option Bool:=
 cond ((a.length:Int) !=(b.length:Int)) (some false) ((aY (IR a b) N0 0).bind fun c=>(match c with| .inl g=>some true| .inr d=>some d))
def HG(a:Int×ByteArray):Option ((Int×ByteArray)⊕ByteArray):=
 cond (decide (0<a.1)) ((grd (10≠0)).bind fun c=>bnd ([A0 .u8 (A0 .i64 (48+(Int.tmod a.1 10)))]) fun b=>(grd ((b2s b).size+a.2.size<=9223372036854775807)).bind fun d=>(grd (10≠0)).bind fun g=>some (.inl (A0 .i64 (Int.tdiv a.1 10),(b2s b)++a.2))) (some (.inr a.2))
def zB(a:Int):Option ByteArray:=
 cond (decide (a<=0)) (some (⟨#[109,48]⟩:ByteArray)) ((aY (HG) N0 (a,(⟨#[]⟩:ByteArray))).bind fun b=>(grd ((⟨#[109]⟩:ByteArray).size+b.size<=9223372036854775807)).bind fun c=>some ((⟨#[109]⟩:ByteArray)++b))
def HN(a:Int×Int×List ByteArray):Option ((Int×Int×List ByteArray)⊕(Int×List ByteArray)):=
 cond (decide (a.2.1<(a.2.2.length:Int))) ((zB a.1).bind fun b=>(grd (0<=a.2.1/\a.2.1<(a.2.2.length:Int))).bind fun d=>(a.2.2[(A2 a.2.1)]?).bind fun g=>bnd (a.2.2.set (A2 a.2.1) b) fun c=>some (.inl (A0 .i64 (a.1+1),A0 .i64 (a.2.1+1),c))) (some (.inr (a.1,a.2.2)))
def KQ(b:Int)(c:List ByteArray):Option (Int×List ByteArray):=
 (aY (HN) N0 (b,0,c)).bind fun a=>some (a.1,a.2)
def JO(a:Int×Int×List aw):Option ((Int×Int×List aw)⊕(Int×List aw)):=
 cond (decide (a.2.1<(a.2.2.length:Int))) ((grd (0<=a.2.1/\a.2.1<(a.2.2.length:Int))).bind fun m=>(a.2.2[(A2 a.2.1)]?).bind fun b=>bnd (a.2.2.set (A2 a.2.1) (⟨a.1,b.B,b.F,b.N⟩:aw)) fun i=>(i[(A2 a.2.1)]?).bind fun c=>bnd (i.set (A2 a.2.1) (⟨c.A,A0 .i64 (a.1+1),c.F,c.N⟩:aw)) fun j=>(j[(A2 a.2.1)]?).bind fun d=>bnd (j.set (A2 a.2.1) (⟨d.A,d.B,A0 .i64 ((A0 .i64 (a.1+1))+1),d.N⟩:aw)) fun k=>(k[(A2 a.2.1)]?).bind fun g=>bnd (k.set (A2 a.2.1) (⟨g.A,g.B,g.F,A0 .i64 ((A0 .i64 ((A0 .i64 (a.1+1))+1))+1)⟩:aw)) fun l=>some (.inl (A0 .i64 ((A0 .i64 ((A0 .i64 ((A0 .i64 (a.1+1))+1))+1))+1),A0 .i64 (a.2.1+1),l))) (some (.inr (a.1,a.2.2)))
def Mp(b:Int)(c:List aw):Option (Int×List aw):=
 (aY (JO) N0 (b,0,c)).bind fun a=>some (a.1,a.2)
def Mv(c:Int)(d:List ByteArray)(g:List aw):Option (Int×List ByteArray×List aw):=
 (KQ c d).bind fun a=>(Mp a.1 g).bind fun b=>some (b.1,a.2,b.2)
def Kl(a:Int×Int×List Int):Option ((Int×Int×List Int)⊕(Int×List Int)):=
 cond (decide (a.2.1<(a.2.2.length:Int))) ((grd (0<=a.2.1/\a.2.1<(a.2.2.length:Int))).bind fun c=>(a.2.2[(A2 a.2.1)]?).bind fun d=>bnd (a.2.2.set (A2 a.2.1) a.1) fun b=>some (.inl (A0 .i64 (a.1+1),A0 .i64 (a.2.1+1),b))) (some (.inr (a.1,a.2.2)))
def vM(b:Int)(c:List Int):Option (Int×List Int):=
 (aY (Kl) N0 (b,0,c)).bind fun a=>some (a.1,a.2)
def HT(a:Int×Int×List af):Option ((Int×Int×List af)⊕(Int×List af)):=
 cond (decide (a.2.1<(a.2.2.length:Int))) ((grd (0<=a.2.1/\a.2.1<(a.2.2.length:Int))).bind fun s=>(a.2.2[(A2 a.2.1)]?).bind fun c=>bnd (a.2.2.set (A2 a.2.1) (⟨a.1,(⟨c.F.N,c.F.F⟩:aj),(⟨c.N.N,c.N.F⟩:aX)⟩:af)) fun k=>(k[(A2 a.2.1)]?).bind fun d=>bnd (k.set (A2 a.2.1) (⟨d.Id,(⟨A0 .i64 (a.1+1),d.F.F⟩:aj),(⟨d.N.N,d.N.F⟩:aX)⟩:af)) fun l=>(l[(A2 a.2.1)]?).bind fun b=>(vM (A0 .i64 ((A0 .i64 (a.1+1))+1)) b.F.F).bind fun g=>bnd (l.set (A2 a.2.1) (⟨b.Id,(⟨b.F.N,g.2⟩:aj),(⟨b.N.N,b.N.F⟩:aX)⟩:af)) fun m=>(m[(A2 a.2.1)]?).bind fun i=>bnd (m.set (A2 a.2.1) (⟨i.Id,(⟨i.F.N,i.F.F⟩:aj),(⟨g.1,i.N.F⟩:aX)⟩:af)) fun p=>(p[(A2 a.2.1)]?).bind fun j=>bnd (p.set (A2 a.2.1) (⟨j.Id,(⟨j.F.N,j.F.F⟩:aj),(⟨j.N.N,A0 .i64 (g.1+1)⟩:aX)⟩:af)) fun q=>some (.inl (A0 .i64 ((A0 .i64 (g.1+1))+1),A0 .i64 (a.2.1+1),q))) (some (.inr (a.1,a.2.2)))
def JE(b:Int)(c:List af):Option (Int×List af):=
 (aY (HT) N0 (b,0,c)).bind fun a=>some (a.1,a.2)
def Ij(c:Int)(d:List ByteArray)(g:List aw)(i:List af):Option (Int×List ByteArray×List aw×List af):=
 (Mv c d g).bind fun a=>(JE a.1 i).bind fun b=>some (b.1,a.2.1,a.2.2,b.2)
def JC(a:Int×Int×List ax):Option ((Int×Int×List ax)⊕(Int×List ax)):=
 cond (decide (a.2.1<(a.2.2.length:Int))) ((grd (3≠0)).bind fun j=>(grd (0<=a.2.1/\a.2.1<(a.2.2.length:Int))).bind fun k=>(a.2.2[(A2 a.2.1)]?).bind fun g=>bnd (a.2.2.set (A2 a.2.1) (⟨(Int.tmod a.1 3)==0,g.F⟩:ax)) fun b=>(b[(A2 a.2.1)]?).bind fun c=>(vM (A0 .i64 (a.1+1)) c.F).bind fun d=>bnd (b.set (A2 a.2.1) (⟨c.N,d.2⟩:ax)) fun i=>some (.inl (d.1,A0 .i64 (a.2.1+1),i))) (some (.inr (a.1,a.2.2)))
def Np(b:Int)(c:List ax):Option (Int×List ax):=
 (aY (JC) N0 (b,0,c)).bind fun a=>some (a.1,a.2)
def LM(d:Int)(g:List ByteArray)(i:List aw)(j:List af)(k:List af)(l:List Int):Option (Int×List ByteArray×List aw×List af×List af×List Int):=
 (Ij d g i j).bind fun a=>(JE a.1 k).bind fun b=>(vM b.1 l).bind fun c=>some (c.1,a.2.1,a.2.2.1,a.2.2.2,b.2,c.2)
def Jj(b:List Int)(a:Int×Int):Option ((Int×Int)⊕(Int⊕Int)):=
 cond (decide (a.2<(b.length:Int))) ((bG b a.2).bind fun c=>cond (c !=a.1) (some (.inr (.inr (-1)))) (some (.inl (A0 .i64 (a.1+1),A0 .i64 (a.2+1))))) (some (.inr (.inl a.1)))
def tU(a:List Int)(b:Int):Option Int:=
 (aY (Jj a) N0 (b,0)).bind fun c=>(match c with| .inl d=>some d| .inr g=>some g)
def Jl(b:List ByteArray)(a:Int×Int):Option ((Int×Int)⊕(Int⊕Int)):=
 cond (decide (a.2<(b.length:Int))) ((bG b a.2).bind fun c=>(zB a.1).bind fun d=>cond (!(c.toList==d.toList)) (some (.inr (.inr (-1)))) (some (.inl (A0 .i64 (a.1+1),A0 .i64 (a.2+1))))) (some (.inr (.inl a.1)))
def GR(a:List ByteArray)(b:Int):Option Int:=
 (aY (Jl a) N0 (b,0)).bind fun c=>(match c with| .inl d=>some d| .inr g=>some g)
def Kd(c:List aw)(a:Int×Int):Option ((Int×Int)⊕(Int⊕Int)):=
 cond (decide (a.2<(c.length:Int))) ((bG c a.2).bind fun b=>cond (b.A !=a.1) (some (.inr (.inr (-1)))) (cond (b.B !=(A0 .i64 (a.1+1))) (some (.inr (.inr (-1)))) (cond (b.F !=(A0 .i64 ((A0 .i64 (a.1+1))+1))) (some (.inr (.inr (-1)))) (cond (b.N !=(A0 .i64 ((A0 .i64 ((A0 .i64 (a.1+1))+1))+1))) (some (.inr (.inr (-1)))) (some (.inl (A0 .i64 ((A0 .i64 ((A0 .i64 ((A0 .i64 (a.1+1))+1))+1))+1),A0 .i64 (a.2+1)))))))) (some (.inr (.inl a.1)))
def Ka(a:List aw)(b:Int):Option Int:=
 (aY (Kd a) N0 (b,0)).bind fun c=>(match c with| .inl d=>some d| .inr g=>some g)
def HE(a:ah)(d:Int):Option Int:=
 (GR a.N d).bind fun b=>cond (decide (b<0)) (some (-1)) ((Ka a.F b).bind fun c=>cond (decide (c<0)) (some (-1)) (some c))
def Kc(d:List af)(a:Int×Int):Option ((Int×Int)⊕(Int⊕Int)):=
 cond (decide (a.2<(d.length:Int))) ((bG d a.2).bind fun b=>cond (b.Id !=a.1) (some (.inr (.inr (-1)))) (cond (b.F.N !=(A0 .i64 (a.1+1))) (some (.inr (.inr (-1)))) ((tU b.F.F (A0 .i64 ((A0 .i64 (a.1+1))+1))).bind fun c=>cond (decide (c<0)) (some (.inr (.inr (-1)))) (cond (b.N.N !=c) (some (.inr (.inr (-1)))) (cond (b.N.F !=(A0 .i64 (c+1))) (some (.inr (.inr (-1)))) (some (.inl (A0 .i64 ((A0 .i64 (c+1))+1),A0 .i64 (a.2+1))))))))) (some (.inr (.inl a.1)))
def yU(a:List af)(b:Int):Option Int:=
 (aY (Kc a) N0 (b,0)).bind fun c=>(match c with| .inl d=>some d| .inr g=>some g)
def JG(a:aB)(d:Int):Option Int:=
 (HE a.F d).bind fun b=>cond (decide (b<0)) (some (-1)) ((yU a.N b).bind fun c=>cond (decide (c<0)) (some (-1)) (some c))
def yf(a:ae)(g:Int):Option Int:=
 (JG a.F g).bind fun b=>cond (decide (b<0)) (some (-1)) ((yU a.N b).bind fun c=>cond (decide (c<0)) (some (-1)) ((tU a.L c).bind fun d=>cond (decide (d<0)) (some (-1)) (some d)))
def VV(c:aB)(j:List ax):Option Bool:=
 (MD c 1048576).bind fun u=>cond (decide (u<0)) (some true) ((Pz j u).bind fun j1=>cond (decide (j1<0)) (some true) ((Ae c).bind fun k=>(zY j).bind fun k1=>(MP k.F.N k.F.F k.N k1).bind fun b=>bnd (ca b.2.2.2.2.2.2.2.2.1 b.1 b.2.1) fun l=>bnd (ca b.2.2.2.2.2.2.2.2.2.1 b.2.2.1 b.2.2.2.1) fun m=>bnd (ca b.2.2.2.2.2.2.2.2.2.2.1 b.2.2.2.2.1 b.2.2.2.2.2.1) fun p=>(Ae (⟨(⟨c.F.N,c.F.F⟩:ah),c.N⟩:aB)).bind fun d=>(zY j).bind fun q=>(Ih (⟨(⟨d.F.N,d.F.F⟩:ah),d.N⟩:aB) q).bind fun a=>((uc a.1 b.2.2.2.2.2.2.2.1).bind fun l1=>cond (!l1) (some true) ((BL (⟨(⟨(⟨a.2.1.F.F.N,a.2.1.F.F.F⟩:ah),a.2.1.F.N⟩:aB),a.2.1.N,a.2.1.L⟩:ae) (⟨(⟨(⟨l,m⟩:ah),p⟩:aB),b.2.2.2.2.2.2.2.2.2.2.2.1,b.2.2.2.2.2.2.2.2.2.2.2.2.1⟩:ae)).bind fun m1=>cond (!m1) (some true) (some (!(a.2.2==b.2.2.2.2.2.2.1)))):Option Bool).bind fun p1=>cond (p1) (some false) ((Ae (⟨(⟨c.F.N,c.F.F⟩:ah),c.N⟩:aB)).bind fun s=>(JQ (⟨(⟨d.F.N,d.F.F⟩:ah),d.N⟩:aB) (⟨(⟨s.F.N,s.F.F⟩:ah),s.N⟩:aB)).bind fun q1=>cond (!q1) (some false) ((zY j).bind fun s1=>(QG q s1).bind fun t1=>cond (!t1) (some false) ((Ij 1 d.F.N d.F.F d.N).bind fun u1=>(Np u1.1 q).bind fun v1=>(cond (decide (v1.1<0)) (some true) ((uc a.1 b.2.2.2.2.2.2.2.1).bind fun w1=>cond (!w1) (some true) ((BL (⟨(⟨(⟨a.2.1.F.F.N,a.2.1.F.F.F⟩:ah),a.2.1.F.N⟩:aB),a.2.1.N,a.2.1.L⟩:ae) (⟨(⟨(⟨l,m⟩:ah),p⟩:aB),b.2.2.2.2.2.2.2.2.2.2.2.1,b.2.2.2.2.2.2.2.2.2.2.2.2.1⟩:ae)).bind fun y1=>cond (!y1) (some true) (some (!(a.2.2==b.2.2.2.2.2.2.1))))):Option Bool).bind fun z1=>cond (z1) (some false) ((vM 1 a.1).bind fun v=>(LM v.1 a.2.1.F.F.N a.2.1.F.F.F a.2.1.F.N a.2.1.N a.2.1.L).bind fun g=>bnd (ca v.2 0 a.1.length) fun w=>(tU w 1).bind fun x=>cond (decide (x<0)) (some false) (bnd (ca g.2.1 0 a.2.1.F.F.N.length) fun y=>bnd (ca g.2.2.1 0 a.2.1.F.F.F.length) fun z=>bnd (ca g.2.2.2.1 0 a.2.1.F.N.length) fun a1=>bnd (ca g.2.2.2.2.1 0 a.2.1.N.length) fun b1=>bnd (ca g.2.2.2.2.2 0 a.2.1.L.length) fun c1=>(yf (⟨(⟨(⟨y,z⟩:ah),a1⟩:aB),b1,c1⟩:ae) x).bind fun d1=>cond (decide (d1<0)) (some false) (cond (d1 !=g.1) (some false) ((Ae (⟨(⟨c.F.N,c.F.F⟩:ah),c.N⟩:aB)).bind fun t=>(zY j).bind fun a2=>(Ih (⟨(⟨t.F.N,t.F.F⟩:ah),t.N⟩:aB) a2).bind fun i=>((uc i.1 b.2.2.2.2.2.2.2.1).bind fun b2=>cond (!b2) (some true) ((BL (⟨(⟨(⟨i.2.1.F.F.N,i.2.1.F.F.F⟩:ah),i.2.1.F.N⟩:aB),i.2.1.N,i.2.1.L⟩:ae) (⟨(⟨(⟨l,m⟩:ah),p⟩:aB),b.2.2.2.2.2.2.2.2.2.2.2.1,b.2.2.2.2.2.2.2.2.2.2.2.2.1⟩:ae)).bind fun c2=>cond (!c2) (some true) (some (!(i.2.2==b.2.2.2.2.2.2.1)))):Option Bool).bind fun d2=>cond (d2) (some false) ((tU w 1).bind fun g1=>cond (decide (g1<0)) (some false) ((yf (⟨(⟨(⟨y,z⟩:ah),a1⟩:aB),b1,c1⟩:ae) g1).bind fun i1=>cond (decide (i1<0)) (some false) (cond (i1 !=g.1) (some false) (some true)))))))))))))
end Vs

namespace Vs
open Go
def gU{τq:Type}(vw:τq->af)(tz:τq)(X:List τq)(a b:List Int):rH vw tz X a b=tN (fun t s=>lF (vw t) s.1 s.2) tz X (a,b):=by
 have h1:M_r vw tz X=so (fun t s=>lF (vw t) s.1 s.2) X:=rfl;have h2:M_s vw tz X=te (fun t s=>lF (vw t) s.1 s.2) X:=rfl;have h3:GK vw tz X a b=JN (fun t s=>lF (vw t) s.1 s.2) X (a,b):=by
  unfold GK JN;rw[h1];congr 1;funext o;cases o<;>rfl
 unfold rH tN;rw[h2,h3]
def gV{H:World->Prop}(XZ0:List (Tok H ai 5))(abZ0:List Int)(acZ0:List Int){r:Nat×Nat×List af×List Int×List Int}(h:rH id (⟨0,(⟨0,[]⟩:aj),(⟨0,0⟩:aX)⟩:af) (XZ0.map Tok.x) abZ0 acZ0=some r):
 ∃YZ0:List (Tok H ai 5),rH Tok.x gr XZ0 abZ0 acZ0=some (r.1,r.2.1,YZ0,r.2.2.2.1,r.2.2.2.2)/\Sel XZ0 YZ0/\YZ0.map Tok.x=r.2.2.1:=by
 rw[gU] at h⊢;exact Yn (p:=fun t s=>lF t s.1 s.2) rfl zZ h
end Vs

set_option linter.unusedVariables false
set_option linter.unusedSimpArgs false
namespace Vs
open Go Go.Proofs Go.Shelf Go.RowKit Go.Lib
section
variable{P:Program}
def fl(w:World)(dT sT ty elem:TypeId)(k:Nat)(b o dLen dCap:Nat)(a:Addr)(sLen sCap:Nat)(cs:List Value)
 (hu:P.underlying dT=some (.slice elem)) (hs:(P.info? elem).map (·.size)=some k) (hn:cs.length=C5 sLen dLen*k)
 (hsrc:∀j v,cs[j]?=some v->w.cell? (a.add j)=some v) (hc:∀j,j<cs.length->(w.cell? ⟨b,o+j,none⟩).isSome=true) (hf:∀j,j<cs.length->w.frozen? ⟨b,o+j,none⟩=false) (h1:∀v∈cs,v.oneCell'=true):
 (Builtin.copy_ #[dT,sT] ty #[.slice (some ⟨b,o,none⟩) dLen dCap,.slice (some a) sLen sCap]).run P w=.ok (goInt (C5 sLen dLen)) (w.setCells b o cs):=by
 have hl:=run_loadCells_list (P:=P) w a cs hsrc;have hst:=run_storeCells_cells (P:=P) b o cs 0 w (by simpa using hc) (by simpa using hf) h1;cases hq:P.info? elem with
 |none=>simp[hq] at hs
 | some i =>
   have hi:i.size=k:=by simpa[hq] using hs
   simp[Builtin.copy_,run_underlying hu,Builtin.lenOf,Builtin.firstCells,Go.sizeOf,typeInfo,hq,hi,<-hn,hl,hst]
def wF(w:World){o:Oper}{a:Act}{K:Act->World->Prop}{Q:Exit->Act->World->Prop}(d s:Operand)(t t':TypeId)
 (ho:o.op=.call {callee:=.builtin .copy,args:=#[d,s],argTypes:=#[t,t']}) (v u:Value) (hd:a.eval d=v) (hs:a.eval s=u) {v':Value} {w':World}
 (hr:(Builtin.copy_ #[t,t'] o.type #[v,u]).run P w=.ok v' w') (h:K (a.put o.dst v') w'):o.wp P a w K Q:=by
 unfold Oper.wp execOp;simp only[ho,resolve,invoke,builtin,Sem.run_bind,Sem.run_pure,Result.andThen_ok,List.map_toArray,List.map_cons,List.map_nil,hd,hs,hr];exact h
def gq(w:World){ops:Array Oper}{rest:List Oper}{o:Oper}{a:Act}{Q:Exit->Act->World->Prop}(hgd:o.guard=none)(d s:Operand)(t t':TypeId)
 (ho:o.op=.call {callee:=.builtin .copy,args:=#[d,s],argTypes:=#[t,t']}) (v u:Value) (hd:a.eval d=v) (hs:a.eval s=u) {v':Value} {w':World}
 (hr:(Builtin.copy_ #[t,t'] o.type #[v,u]).run P w=.ok v' w') (h:wpList P ops Q rest (a.put o.dst v') w'):wpList P ops Q (o::rest) a w:=
 wpList_plain hgd fun _ hK=>wF w d s t t' ho v u hd hs hr (hK _ _ h)
def kO{ops:Array Oper}{o:Oper}{a:Act}{w:World}{K:Act->World->Prop}{Q:Exit->Act->World->Prop}{E:Prop}
 (hg:o.guard=none) (d x:Operand) (dT sT:TypeId) (hop:o.op=Op.call {callee:=Callee.builtin Builtin.copy,args:=#[d,x],argTypes:=#[dT,sT]})
 (v u:Value) (hd:a.eval d=v) (hx:a.eval x=u) {v':Value} {w':World} (hr:(Builtin.copy_ #[dT,sT] o.type #[v,u]).run P w=.ok v' w') (hK:K (a.put o.dst v') w'):
 if Region.wanted o (yielded ops a.tmps)=true then Oper.wp P o a w K Q else E:=by
 have hw:Region.wanted o (yielded ops a.tmps)=true:=by simp[Region.wanted,hg]
 rw[if_pos hw];unfold Oper.wp;simp[execOp,hop,resolve,invoke,builtin,hd,hx,hr,Result.andThen];exact hK
set_option maxHeartbeats 4000000 in
set_option maxRecDepth 100000 in
theorem Jx(b off n c i vb voff m vc:Nat)(cs vs:List Value)(w:World)(hi:i<n)(hm:0<m)(hroom:n+m<=c)(hbig:(n+m)*56<=140737488355328)(hvb:vb≠b)
 (hcl:cs.length=n*5) (hvl:vs.length=m*5)
 (hcs:∀j v,cs[j]?=some v->w.cell? ⟨b,off+j,none⟩=some v) (hsp:∀j,j<(n+m)*5->(w.cell? ⟨b,off+j,none⟩).isSome=true) (hfz:∀j,j<(n+m)*5->w.frozen? ⟨b,off+j,none⟩=false)
 (hvs:∀j v,vs[j]?=some v->w.cell? ⟨vb,voff+j,none⟩=some v) (h1c:∀v∈cs,v.oneCell'=true) (h1v:∀v∈vs,v.oneCell'=true)
 (tA tB:TypeId) (kA kB:Nat) (hsa:w.shape? vb=some (tA,kA)) (hsb:w.shape? b=some (tB,kB)) (hkB:kB≠0) (hfa:w.frozen? ⟨vb,voff,none⟩=false) (hfe:w.frozen? ⟨vb,kA,none⟩=false):
 Calls A1 214 #[.slice (some ⟨b,off,none⟩) n c,.int .i64 i,.slice (some ⟨vb,voff,none⟩) m vc] w fun e w'=>
  e=.returned (.slice (some ⟨b,off,none⟩) (n+m) c)/\w'=(w.drew.setCells b (off+(i+m)*5) (cs.drop (i*5))).setCells b (off+i*5) vs:=by
 have tSL:A1.underlying 37=some (.slice 98):=by kernel_rfl
 have uSL:=run_underlying tSL;have hz1:¬((m:Int)=0):=by omega
 have hz2:¬((i:Int)=(n:Int)):=by omega
 have hsz:(A1.info? 98).map (·.size)=some 5:=by kernel_rfl
 have zEL:∀w,(Go.sizeOf 98).run A1 w=.ok 5 w:=fun w=>by
  obtain⟨i0,h1,h2⟩:=A6.1 hsz;simp[Go.sizeOf,typeInfo,h1,h2]
 have hov:∀lb cb,(callFunc 236 #[.slice (some ⟨vb,voff,none⟩) m vc,.slice (some ⟨b,off+(i+m)*5,none⟩) lb cb]).run A1 w=.ok (.value (.bool false)) w:=fun lb cb=>by
  rw[run_callFunc_extern Tryz.func236 (by kernel_rfl) (by kernel_rfl) (by kernel_rfl) (e:=Extern.SlicesOverlaps.overlaps #[37,37] #[4]) (by kernel_rfl),
   Lib.run_overlaps_apart w 37 4 98 tSL 5 zEL ⟨vb,voff,none⟩ ⟨b,off+(i+m)*5,none⟩ m vc lb cb hvb tA tB kA kB hsa hsb hkB hfa hfe]
  rfl
 have hdl:(cs.drop (i*5)).length=(n-i)*5:=by rw[D6,hcl];omega
 have hw1:E3.wrap ((i:Int)+(m:Int))=(i:Int)+(m:Int):=by rw[B1];omega
 have hw2:E3.wrap ((n:Int)+(m:Int))=(n:Int)+(m:Int):=by rw[B1];omega
 have hb1:(0:Int)<=(i:Int)+(m:Int):=by omega
 have hin:i<=n:=by omega
 have htn:((i:Int)+(m:Int)).toNat=i+m:=by omega
 have hb2:¬(c=i+m):=by omega
 have hb3:(i:Int)<=(n:Int)+(m:Int):=by omega
 have hb4:¬(c=i):=by omega
 have mixed:=A7.mixed;have hcp1:∀ty dc sc,(Builtin.copy_ #[37,37] ty #[.slice (some ⟨b,off+(i+m)*5,none⟩) (n+m-(i+m)) dc,.slice (some ⟨b,off+i*5,none⟩) (n+m-i) sc]).run A1 w.drew=.ok (goInt (C5 (n+m-i) (n+m-(i+m)))) (w.drew.setCells b (off+(i+m)*5) (cs.drop (i*5))):=fun ty dc sc=>
  fl w.drew _ _ ty 98 5 b (off+(i+m)*5) (n+m-(i+m)) dc ⟨b,off+i*5,none⟩ (n+m-i) sc (cs.drop (i*5)) tSL hsz (by rw[hdl];congr 1;simp only[B2];split<;>omega)
   (fun j v hj=>by rw[Addr.add_lit,A5];exact hcs (i*5+j) v (by rwa[B4] at hj))
   (fun j hj=>by rw[A5];exact hsp _ (by omega)) (fun j hj=>by rw[A5];exact hfz _ (by omega)) (fun v hv=>h1c v (B3 hv))
 obtain⟨W1,hW1⟩:∃W1,W1=w.drew.setCells b (off+(i+m)*5) (cs.drop (i*5)):=⟨_,rfl⟩;have hsp1:∀k,k<(n+m)*5->(W1.cell? ⟨b,off+k,none⟩).isSome=true:=fun k hk=>by
  rw[hW1];exact World.isSome_setCells b _ _ _ _ (hsp k hk)
 have hcp2:∀(W:World),(∀x,W.cell? x=W1.cell? x)->(∀x,W.frozen? x=W1.frozen? x)->∀ty dc,(Builtin.copy_ #[37,37] ty #[.slice (some ⟨b,off+i*5,none⟩) (n+m-i) dc,.slice (some ⟨vb,voff,none⟩) m vc]).run A1 W=.ok (goInt (C5 m (n+m-i))) (W.setCells b (off+i*5) vs):=fun W hWc hWf ty dc=>
  fl W _ _ ty 98 5 b (off+i*5) (n+m-i) dc ⟨vb,voff,none⟩ m vc vs tSL hsz (by rw[hvl];congr 1;simp only[B2];split<;>omega)
   (fun j v hj=>by
    rw[Addr.add_lit,hWc,hW1,World.cell?_setCells_out b _ _ _ _ (fun h _=>absurd h hvb)];exact hvs j v hj)
   (fun j hj=>by rw[hWc,A5];exact hsp1 _ (by omega)) (fun j hj=>by rw[hWf,hW1,World.frozen?_setCells,A5];exact hfz _ (by omega)) h1v
 rw[<-hW1] at hcp1
 go_enter A8,A9
 go_wp2_with (simp only[hov])
 go_region_law_o (refine kO rfl _ _ 37 37 rfl _ _ (by simp[Act.eval,Act.put]) (by simp[Act.eval,Act.put]) (hcp1 _ _ _) ?_)
 go_wp2_with (at_builtin;refine gq _ rfl _ _ 37 37 rfl _ _ rfl rfl (hcp2 _ (fun _=>rfl) (fun _=>rfl) _ _) ?_)
 go_ret
 first|exact⟨rfl,rfl⟩|exact⟨rfl,by rw[hW1]⟩
def Ba(z:Array Value)(n:Nat)(hz:0<z.size)(x:Value)(h:x∈Builtin.zeroCells z n):x∈z:=by
 unfold Builtin.zeroCells at h;rw[Array.mem_map] at h;obtain⟨i,hi,h⟩:=h;rw[<-h];rw[getElem!_pos z _ (Nat.mod_lt _ hz)];exact Array.getElem_mem _
def xh:∃(i0:TypeInfo)(z:Value),A1.info? 98=some i0/\i0.size=5/\i0.bytes=56/\i0.zero=some z/\z.cells.size=5/\∀x∈z.cells,x.oneCell'=true:=by
 have h:((A1.info? 98).map fun i=>(i.size,i.bytes,i.zero.map fun z=>(z.cells.size,z.cells.all fun x=>x.oneCell')))=some (5,56,some (5,true)):=by kernel_rfl
 obtain⟨i0,h1,h2⟩:=A6.1 h;simp only[Prod.mk.injEq] at h2;obtain⟨a1,a2,a3⟩:=h2;obtain⟨z,b1,b2⟩:=A6.1 a3;simp only[Prod.mk.injEq] at b2;refine⟨i0,z,h1,a1,a2,b1,b2.1,fun x hx=>?_⟩;exact(Array.all_eq_true_iff_forall_mem.1 b2.2) x hx
set_option maxHeartbeats 4000000 in
set_option maxRecDepth 100000 in
theorem xe(b off n c vb voff m vc:Nat)(vs:List Value)(w:World)(hm:0<m)(hroom:n+m<=c)(hbig:(n+m)*56<=140737488355328)
 (hvl:vs.length=m*5) (hsp:∀j,j<m*5->(w.cell? ⟨b,off+n*5+j,none⟩).isSome=true) (hfz:∀j,j<m*5->w.frozen? ⟨b,off+n*5+j,none⟩=false)
 (hvs:∀j v,vs[j]?=some v->w.cell? ⟨vb,voff+j,none⟩=some v) (h1v:∀v∈vs,v.oneCell'=true):
 Calls A1 214 #[.slice (some ⟨b,off,none⟩) n c,.int .i64 n,.slice (some ⟨vb,voff,none⟩) m vc] w fun e w'=>
  e=.returned (.slice (some ⟨b,off,none⟩) (n+m) c)/\w'=w.setCells b (off+n*5) vs:=by
 have tSL:A1.underlying 37=some (.slice 98):=by kernel_rfl
 have uSL:=run_underlying tSL;obtain⟨i0,z,hi0,hzs,hzb,hz0,_,_⟩:=xh;have mixed:=A7.mixed;have hz1:¬((m:Int)=0):=by omega
 have hsrc:Src A1 i0.size 37 (.slice (some ⟨vb,voff,none⟩) m vc) m vs w:=Src.ofSlice w tSL ⟨vb,voff,none⟩ m vc vs (by rw[hzs];exact hvl) (fun j u hj=>by rw[Addr.add_lit];exact hvs j u hj) h1v;have hrun:∀ty,(Builtin.append_ #[37,37] ty #[.slice (some ⟨b,off,none⟩) n c,.slice (some ⟨vb,voff,none⟩) m vc]).run A1 w=.ok (.slice (some ⟨b,off,none⟩) (n+m) c) (w.setCells b (off+n*5) vs):=fun ty=>by
  have:=run_append_room_src (P:=A1) w 37 37 ty 98 i0 tSL hi0 b off n c (.slice (some ⟨vb,voff,none⟩) m vc) m vs hsrc hroom (by rw[hzs,hvl];exact hsp) (by rw[hzs,hvl];exact hfz);rw[hzs] at this;exact this
 go_enter A8,A9
 go_wp2_with (at_builtin;refine Lib.wpList_append_run _ rfl _ _ _ _ rfl _ _ rfl rfl _ _ (hrun _) ?_)
 go_ret
 exact⟨rfl,rfl⟩
set_option maxHeartbeats 4000000 in
set_option maxRecDepth 100000 in
theorem oC(base:Option Addr)(n c vb voff m vc:Nat)(cs vs:List Value)(w:World)(hm:0<m)(hnc:n<=c)(hroom:c<n+m)(hbig:(n+m)*56<=140737488355328)
 (hcl:cs.length=n*5) (hvl:vs.length=m*5) (hnil:base=none->n=0)
 (hcs:∀a,base=some a->∀j v,cs[j]?=some v->w.cell? (a.add j)=some v)
 (hvs:∀j v,vs[j]?=some v->w.cell? ⟨vb,voff+j,none⟩=some v) (h1v:∀v∈vs,v.oneCell'=true):
 Calls A1 214 #[.slice base n c,.int .i64 n,.slice (some ⟨vb,voff,none⟩) m vc] w fun e w'=>
  ∃(G:Nat)(tl:Array Value),n+m<=G/\tl.size=(G-(n+m))*5/\(∀x∈tl,x.oneCell'=true)/\e=.returned (.slice (some ⟨w.heap.size,0,none⟩) (n+m) G)/\
  w'=w.drew.alloc (.cells ((cs++vs).toArray++tl) 98):=by
 have tSL:A1.underlying 37=some (.slice 98):=by kernel_rfl
 have uSL:=run_underlying tSL;obtain⟨i0,z,hi0,hzs,hzb,hz0,hzc,hz1c⟩:=xh;have mixed:=A7.mixed;have hz1:¬((m:Int)=0):=by omega
 have hsrc:Src A1 i0.size 37 (.slice (some ⟨vb,voff,none⟩) m vc) m vs w:=Src.ofSlice w tSL ⟨vb,voff,none⟩ m vc vs (by rw[hzs];exact hvl) (fun j u hj=>by rw[Addr.add_lit];exact hvs j u hj) h1v;have hold:(Builtin.firstCells i0.size n (.slice base n c)).run A1 w.drew=.ok cs.toArray w.drew:=by
  rw[hzs];cases base with
  | none =>
    have h0:=hnil rfl;subst h0;have hcs0:cs=[]:=List.length_eq_zero_iff.1 (by omega);rw[hcs0];exact run_firstCells_none w.drew 5 0 0 c
  |some a=>exact run_firstCells_some w.drew 5 n a n c cs hcl (fun j v hj=>hcs a rfl j v hj)
 have hrun:=fun ty=>run_append_grow_src (P:=A1) w 37 37 ty 98 i0 z tSL hi0 hz0 base n c cs hold _ m vs hsrc hroom (by omega) (by rw[hzb];exact growslice_fits hroom hbig);obtain⟨G,hG⟩:∃G,G=grownCap w (n+m) c 98:=⟨_,rfl⟩;have hGn:n+m<=G:=by rw[hG];exact grownCap_ge w _ _ _
 obtain⟨tl,htl⟩:∃tl,tl=Builtin.zeroCells z.cells (G-(n+m)):=⟨_,rfl⟩;have ht1:tl.size=(G-(n+m))*5:=by rw[htl,size_zeroCells,hzc]
 have ht2:∀x∈tl,x.oneCell'=true:=fun x hx=>hz1c x (Ba _ _ (by omega) x (by rw[<-htl];exact hx));rw[<-hG] at hrun;rw[<-htl] at hrun;obtain⟨ROW,hROW⟩:∃ROW:Array Value,ROW=(cs++vs).toArray++tl:=⟨_,rfl⟩;refine Calls.mono (R:=fun e w'=>e=.returned (.slice (some ⟨w.heap.size,0,none⟩) (n+m) G)/\w'=w.drew.alloc (.cells ROW 98)) ?_ (fun e w' h=>⟨G,tl,hGn,ht1,ht2,h.1,by rw[h.2,hROW]⟩);rw[<-hROW] at hrun;clear hold hROW ht2 ht1 htl hG hGn hz1c hz0 hi0 hsrc;clear hzc hzs hzb;clear i0
 go_enter A8,A9
 cases base with
 | none =>
   have h0:=hnil rfl;subst h0;rw[Nat.zero_add] at hrun⊢
   go_wp2_with (at_builtin;refine Lib.wpList_append_run _ rfl _ _ _ _ rfl _ _ rfl rfl _ _ (hrun _) ?_)
   all_goals(go_ret;exact⟨rfl,rfl⟩)
 | some a =>
   obtain⟨ab,ao,asp⟩:=a
   go_wp2_with (at_builtin;refine Lib.wpList_append_run _ rfl _ _ _ _ rfl _ _ rfl rfl _ _ (hrun _) ?_)
   all_goals(go_ret;exact⟨rfl,rfl⟩)
set_option maxHeartbeats 4000000 in
set_option maxRecDepth 100000 in
theorem Nu(b off n c i vb voff m vc:Nat)(cs vs:List Value)(w:World)(hi:i<n)(hm:0<m)(hnc:n<=c)(hroom:c<n+m)(hbig:(n+m)*56<=140737488355328)
 (hcl:cs.length=n*5) (hvl:vs.length=m*5)
 (hcs:∀j v,cs[j]?=some v->w.cell? ⟨b,off+j,none⟩=some v)
 (hvs:∀j v,vs[j]?=some v->w.cell? ⟨vb,voff+j,none⟩=some v) (h1c:∀v∈cs,v.oneCell'=true) (h1v:∀v∈vs,v.oneCell'=true):
 Calls A1 214 #[.slice (some ⟨b,off,none⟩) n c,.int .i64 i,.slice (some ⟨vb,voff,none⟩) m vc] w fun e w'=>
  ∃(G:Nat)(tl:Array Value),n+m<=G/\tl.size=(G-(n+m))*5/\(∀x∈tl,x.oneCell'=true)/\e=.returned (.slice (some ⟨w.heap.size,0,none⟩) (n+m) G)/\
  ∃z:Array Value,z.size=(n+m-i)*5/\w'=(((w.alloc (.cells ((cs.take (i*5)).toArray++z++tl) 98)).drew.setCells w.heap.size (i*5) vs).drew).setCells w.heap.size ((i+m)*5) (cs.drop (i*5)):=by
 have tSL:A1.underlying 37=some (.slice 98):=by kernel_rfl
 have t3:A1.underlying 3=some (.int .i64):=by kernel_rfl
 have uSL:=run_underlying tSL;have u3:=run_underlying t3;obtain⟨i0,z,hi0,hzs,hzb,hz0,hzc,hz1c⟩:=xh;have mixed:=A7.mixed;have hsz:(A1.info? 98).map (·.size)=some 5:=by kernel_rfl
 have hz1:¬((m:Int)=0):=by omega
 have hz2:¬((i:Int)=(n:Int)):=by omega
 have hz3:(c:Int)<(n:Int)+(m:Int):=by omega
 have hbw:b<w.heap.size:=block_lt_of_cell (hcs 0 _ (B0 (by omega)));have hvw:vb<w.heap.size:=block_lt_of_cell (hvs 0 _ (B0 (by omega)));have hkk:(n:Int)+(m:Int)-(i:Int)=((n+m-i:Nat):Int):=by omega
 have hik:i+(n+m-i)=n+m:=by omega
 have hold:(Builtin.firstCells i0.size i (.slice (some ⟨b,off,none⟩) i c)).run A1 w.drew=.ok (cs.take (i*5)).toArray w.drew:=by
  rw[hzs];exact run_firstCells_some w.drew 5 i ⟨b,off,none⟩ i c (cs.take (i*5)) (by rw[D7];omega) (fun j v hj=>by
   rw[Addr.add_lit];rw[List.getElem?_take] at hj;split at hj
   ·exact hcs j v hj
   ·cases hj)
 obtain⟨G,hG⟩:∃G,G=grownCap w (n+m) c 98:=⟨_,rfl⟩;obtain⟨zs,hzz⟩:∃zs,zs=Builtin.zeroCells z.cells (n+m-i):=⟨_,rfl⟩;obtain⟨tl,htl⟩:∃tl,tl=Builtin.zeroCells z.cells (G-(n+m)):=⟨_,rfl⟩;have ht0:zs.size=(n+m-i)*5:=by rw[hzz,size_zeroCells,hzc]
 have ht1:tl.size=(G-(n+m))*5:=by rw[htl,size_zeroCells,hzc]
 have ht2:∀x∈tl,x.oneCell'=true:=fun x hx=>hz1c x (Ba _ _ (by omega) x (by rw[<-htl];exact hx));have hrz:∀ty,(Builtin.append_ #[37,3] ty #[.slice (some ⟨b,off,none⟩) i c,.int .i64 ((n:Int)+(m:Int)-(i:Int))]).run A1 w=
  .ok (.slice (some ⟨w.heap.size,0,none⟩) (n+m) G) (w.drew.alloc (.cells ((cs.take (i*5)).toArray++zs++tl) 98)):=fun ty=>by
  have h:=Lib.run_append_grow_zeros w 37 3 ty 98 i0 _ .i64 .i64 tSL t3 hi0 hz0 (some ⟨b,off,none⟩) i c (cs.take (i*5)) hold (n+m-i) (by omega) (by omega) (by omega) (by omega) (by rw[hzb];omega) (by rw[hzb,hik];exact growslice_fits hroom hbig);rw[hik] at h;rw[hkk,hzz,htl,hG];exact h
 obtain⟨ROW,hROW⟩:∃ROW:Array Value,ROW=(cs.take (i*5)).toArray++zs++tl:=⟨_,rfl⟩;refine Calls.mono (R:=fun e w'=>e=.returned (.slice (some ⟨w.heap.size,0,none⟩) (n+m) G)/\w'=(((w.alloc (.cells ROW 98)).drew.setCells w.heap.size (i*5) vs).drew).setCells w.heap.size ((i+m)*5) (cs.drop (i*5))) ?_ (fun e w' h=>⟨G,tl,by rw[hG];exact grownCap_ge w _ _ _,ht1,ht2,h.1,zs,ht0,by rw[h.2,hROW]⟩);rw[<-hROW] at hrz;have hRl:(n+m)*5<=ROW.size:=by
  rw[hROW];simp only[Array.size_append,List.size_toArray,D7,ht0];omega
 obtain⟨W1,hW1⟩:∃W1,W1=w.drew.alloc (.cells ROW 98):=⟨_,rfl⟩;rw[<-hW1] at hrz;have hN:∀j,j<(n+m)*5->(W1.cell? ⟨w.heap.size,j,none⟩).isSome=true:=fun j hj=>by
  rw[hW1,World.cell?_alloc_at (w:=w.drew) ROW _ w.heap.size j rfl,Array.getElem?_eq_getElem (by omega)];rfl
 have hNf:∀j,W1.frozen? ⟨w.heap.size,j,none⟩=false:=fun j=>by rw[hW1];exact World.frozen?_alloc_at (w:=w.drew) ROW _ w.heap.size j rfl
 have hOb:∀j v,w.cell? ⟨b,j,none⟩=some v->W1.cell? ⟨b,j,none⟩=some v:=fun j v h=>by rw[hW1,World.cell?_alloc_past (w:=w.drew) _ b j hbw];exact h
 have hOv:∀j v,w.cell? ⟨vb,j,none⟩=some v->W1.cell? ⟨vb,j,none⟩=some v:=fun j v h=>by rw[hW1,World.cell?_alloc_past (w:=w.drew) _ vb j hvw];exact h
 have hcpA:∀(W:World),(∀x,W.cell? x=W1.cell? x)->(∀x,W.frozen? x=W1.frozen? x)->∀ty dc,(Builtin.copy_ #[37,37] ty #[.slice (some ⟨w.heap.size,i*5,none⟩) (n+m-i) dc,.slice (some ⟨vb,voff,none⟩) m vc]).run A1 W=.ok (goInt (C5 m (n+m-i))) (W.setCells w.heap.size (i*5) vs):=fun W hWc hWf ty dc=>
  fl W _ _ ty 98 5 w.heap.size (i*5) (n+m-i) dc ⟨vb,voff,none⟩ m vc vs tSL hsz (by rw[hvl];congr 1;simp only[B2];split<;>omega)
   (fun j v hj=>by rw[Addr.add_lit,hWc];exact hOv _ v (hvs j v hj))
   (fun j hj=>by rw[hWc];exact hN _ (by omega)) (fun j hj=>by rw[hWf];exact hNf _) h1v
 have hGn:n+m<=G:=by rw[hG];exact grownCap_ge w _ _ _
 have hG63:G<=9223372036854775807:=by
  have:=grownCap_le_maxLen w (n+m) c 98 (by unfold maxLen;omega);rw[<-hG] at this;unfold maxLen at this;omega
 have hGi:¬(G=i):=by omega
 have hGim:¬(G=i+m):=by omega
 have hci:¬(c=i):=by omega
 have hbN:b≠w.heap.size:=by omega
 have hdl:(cs.drop (i*5)).length=(n-i)*5:=by rw[D6,hcl];omega
 have hcpB:∀(W:World),(∀x,W.cell? x=(W1.setCells w.heap.size (i*5) vs).cell? x)->(∀x,W.frozen? x=(W1.setCells w.heap.size (i*5) vs).frozen? x)->∀ty dc sc,(Builtin.copy_ #[37,37] ty #[.slice (some ⟨w.heap.size,(i+m)*5,none⟩) (n+m-(i+m)) dc,.slice (some ⟨b,off+i*5,none⟩) (n-i) sc]).run A1 W=.ok (goInt (C5 (n-i) (n+m-(i+m)))) (W.setCells w.heap.size ((i+m)*5) (cs.drop (i*5))):=fun W hWc hWf ty dc sc=>
  fl W _ _ ty 98 5 w.heap.size ((i+m)*5) (n+m-(i+m)) dc ⟨b,off+i*5,none⟩ (n-i) sc (cs.drop (i*5)) tSL hsz (by rw[hdl];congr 1;simp only[B2];split<;>omega)
   (fun j v hj=>by
    rw[Addr.add_lit,hWc,World.cell?_setCells_out _ _ _ _ _ (fun h _=>absurd h hbN),A5];exact hOb _ v (hcs (i*5+j) v (by rwa[B4] at hj)))
   (fun j hj=>by rw[hWc];exact World.isSome_setCells _ _ _ _ _ (hN _ (by omega)))
   (fun j hj=>by rw[hWf,World.frozen?_setCells];exact hNf _) (fun v hv=>h1c v (B3 hv))
 subst hW1;have hE1:∀x,((w.alloc (.cells ROW 98)).drew).cell? x=(w.drew.alloc (.cells ROW 98)).cell? x:=fun x=>rfl;have hE2:∀x,((w.alloc (.cells ROW 98)).drew).frozen? x=(w.drew.alloc (.cells ROW 98)).frozen? x:=fun x=>rfl;have hF1:∀x,(((w.alloc (.cells ROW 98)).drew.setCells w.heap.size (i*5) vs).drew).cell? x=((w.drew.alloc (.cells ROW 98)).setCells w.heap.size (i*5) vs).cell? x:=fun x=>rfl;have hF2:∀x,(((w.alloc (.cells ROW 98)).drew.setCells w.heap.size (i*5) vs).drew).frozen? x=((w.drew.alloc (.cells ROW 98)).setCells w.heap.size (i*5) vs).frozen? x:=fun x=>rfl;have hw1:E3.wrap ((i:Int)+(m:Int))=(i:Int)+(m:Int):=by rw[B1];omega
 have hb1:(0:Int)<=(i:Int)+(m:Int):=by omega
 have hin:i<=n:=by omega
 have htn:((i:Int)+(m:Int)).toNat=i+m:=by omega
 have hb3:(i:Int)<=(n:Int):=by omega
 clear hkk hik hold hRl hROW ht0 ht1 ht2 htl hzz hG hz1c hz0 hi0;clear hzc hzs hzb;clear z i0
 go_enter A8,A9
 go_wp2_with (first
  |(at_builtin;refine Lib.wpList_append_run _ rfl _ _ _ _ rfl _ _ rfl rfl _ _ (hrz _) ?_)
  |(at_builtin;refine gq _ rfl _ _ 37 37 rfl _ _ rfl rfl (hcpA _ hE1 hE2 _ _) ?_)
  |(at_builtin;refine gq _ rfl _ _ 37 37 rfl _ _ rfl rfl (hcpB _ (fun _=>rfl) (fun _=>rfl) _ _ _) ?_))
 go_region_law_o (refine kO rfl _ _ 37 37 rfl (.slice (some ⟨w.heap.size,(i+m)*5,none⟩) (n+m-(i+m)) (G-(i+m))) (.slice (some ⟨b,off+i*5,none⟩) (n-i) (c-i)) (by simp[Act.eval,Act.put]) (by simp[Act.eval,Act.put]) (hcpB _ hF1 hF2 3 (G-(i+m)) (c-i)) ?_)
 go_wp2
 go_ret
 all_goals exact⟨rfl,rfl⟩
end
def afh:InsC A1 214 5 56 where
 fn:=⟨_,A8,by kernel_rfl,by kernel_rfl⟩
 kp:=by decide
 ins:=fun base n c i vb voff m vc cs vs w hi hnc hm hmv hbig hb hnil hcl hvl hcs hvs hF h1c h1v=>by
  have hfv:=sX hF;cases base with
  | none =>
    have hc:=hnil rfl;have hn:n=0:=by omega
    have hi0:i=n:=by omega
    subst hi0;exact(oC none i c vb voff m vc cs vs w hm hnc (by omega) hbig hcl hvl (fun _=>hn) (fun a ha=>by cases ha) hvs h1v).mono fun e w' h=>tG hcl hvl h
  | some a =>
    obtain⟨h1,h2,h3⟩:=hb a rfl;obtain⟨b,off,sp⟩:=a;simp only at h1 h2 h3;subst h1;have hcs':=hcs _ rfl;simp only at hcs';by_cases hroom:n+m<=c
    ·have hFb:=h3 (by omega);have hsl:=Nat.mul_le_mul_right 5 hroom;by_cases e:i=n
     ·subst e;exact(xe b off i c vb voff m vc vs w hm hroom (by omega) hvl (fun j hj=>pn hFb _ (by omega)) (fun j _=>sX hFb _) hvs h1v).mono fun e w' h=>GX hFb hroom hcl hvl hcs' h
     ·obtain⟨tA,kA,sA,lA⟩:=th hF;obtain⟨tB,kB,sB,lB⟩:=th hFb;exact(Jx b off n c i vb voff m vc cs vs w (by omega) hm hroom (by omega) (Ne.symm h2) hcl hvl hcs' (fun j hj=>pn hFb _ (by omega)) (fun j _=>sX hFb _) hvs h1c h1v tA tB kA kB sA sB (by omega) (hfv _) (hfv _)).mono fun e w' h=>BB hFb hroom (by omega) hcl hvl hcs' h
    ·by_cases e:i=n
     ·subst e;exact(oC (some ⟨b,off,none⟩) i c vb voff m vc cs vs w hm hnc (by omega) hbig hcl hvl (fun h=>by cases h) (fun a ha=>by cases ha;exact fun j v hj=>by rw[Addr.add_lit];exact hcs' j v hj) hvs h1v).mono fun e w' h=>tG hcl hvl h
     ·exact(Nu b off n c i vb voff m vc cs vs w (by omega) hm hnc (by omega) hbig hcl hvl hcs' hvs h1c h1v).mono fun e w' h=>Gt (by omega) hcl hvl h
end Vs

namespace Vs
open Go Go.Proofs
def cr:A1.follows .mixedOrders=true:=A7.mixed
def tu:Go.Shelf.Ren:=⟨fun|189=>111|125=>172|257=>171|128=>210|129=>211|294=>201|295=>202|296=>203|297=>204|298=>205|299=>206|216=>207|300=>208|301=>209|328=>228|329=>229|330=>230|331=>231|332=>232|215=>233|343=>248|n=>n,fun|28=>29|3=>3|46=>184|0=>0|51=>214|53=>216|4=>4|183=>207|182=>206|131=>211|5=>5|9=>9|218=>227|222=>231|228=>241|229=>242|n=>n,fun|n=>n⟩
def agf:Go.Proofs.Lays.n189 A1 tu:={
 mixed:=by kernel_rfl
 f125:=G9.trans (congrArg some (by kernel_rfl))
 f128:=H0.trans (congrArg some (by kernel_rfl))
 f129:=H1.trans (congrArg some (by kernel_rfl))
 f189:=H2.trans (congrArg some (by kernel_rfl))
 f215:=Tryz.func233.trans (congrArg some (by kernel_rfl))
 f216:=Tryz.func207.trans (congrArg some (by kernel_rfl))
 f257:=Tryz.func171.trans (congrArg some (by kernel_rfl))
 f294:=Tryz.func201.trans (congrArg some (by kernel_rfl))
 f295:=Tryz.func202.trans (congrArg some (by kernel_rfl))
 f296:=Tryz.func203.trans (congrArg some (by kernel_rfl))
 f297:=Tryz.func204.trans (congrArg some (by kernel_rfl))
 f298:=Tryz.func205.trans (congrArg some (by kernel_rfl))
 f299:=Tryz.func206.trans (congrArg some (by kernel_rfl))
 f300:=Tryz.func208.trans (congrArg some (by kernel_rfl))
 f301:=Tryz.func209.trans (congrArg some (by kernel_rfl))
 f328:=Tryz.func228.trans (congrArg some (by kernel_rfl))
 f329:=H3.trans (congrArg some (by kernel_rfl))
 f330:=H4.trans (congrArg some (by kernel_rfl))
 f331:=Tryz.func231.trans (congrArg some (by kernel_rfl))
 f332:=Tryz.func232.trans (congrArg some (by kernel_rfl))
 f343:=Tryz.func248.trans (congrArg some (by kernel_rfl))
 t0:=D8
 a0:=I1
 z0:=H5
 v0:=E4
 t3:=D9
 a3:=I2
 z3:=H6
 v3:=E5
 t4:=E0
 a4:=I3
 z4:=H7
 v4:=E6
 t5:=E1
 a5:=I4
 z5:=H8
 v5:=E7
 t9:=E2
 a9:=I5
 z9:=H9
 v9:=E8
 t28:=Tryz.underlying29
 a28:=Tryz.isAgg29
 z28:=Tryz.sizeOf29
 v28:=Tryz.zeroValue29
 t46:=B5
 a46:=F9
 z46:=E9
 v46:=C6
 t51:=B6
 a51:=G0
 z51:=F0
 v51:=C7
 t53:=B7
 a53:=G1
 z53:=F1
 v53:=C8
 t131:=B8
 a131:=G2
 z131:=F2
 v131:=C9
 t182:=B9
 a182:=G3
 z182:=F3
 v182:=D0
 t183:=C0
 a183:=G4
 z183:=F4
 v183:=D1
 t218:=C1
 a218:=G5
 z218:=F5
 v218:=D2
 t222:=C2
 a222:=G6
 z222:=F6
 v222:=D3
 t228:=C3
 a228:=G7
 z228:=F7
 v228:=D4
 t229:=C4
 a229:=G8
 z229:=F8
 v229:=D5}
def yC:RP A1 111:=agq (ρ:=tu) agf ⟨_,H2,by kernel_rfl,by kernel_rfl⟩
def tc:Go.Shelf.Ren:=⟨fun|6=>242|15=>172|14=>251|28=>210|29=>211|20=>259|21=>260|22=>261|23=>262|24=>263|25=>264|26=>265|27=>266|46=>268|47=>229|48=>230|49=>269|50=>270|57=>273|n=>n,fun|22=>187|24=>94|25=>239|3=>3|39=>184|0=>0|53=>214|55=>216|4=>4|46=>207|45=>206|50=>211|5=>5|9=>9|66=>227|70=>231|76=>241|77=>242|n=>n,fun|n=>n⟩
def Mu:Go.Proofs.SlLaysF0.n6 A1 tc:={
 mixed:=by kernel_rfl
 f6:=⟨Tryz.f242.name,by decide,I0.trans (congrArg some (by kernel_rfl))⟩
 f14:=⟨Tryz.f251.name,by decide,Tryz.func251.trans (congrArg some (by kernel_rfl))⟩
 f15:=G9.trans (congrArg some (by kernel_rfl))
 f20:=⟨Tryz.f259.name,by decide,Tryz.func259.trans (congrArg some (by kernel_rfl))⟩
 f21:=⟨Tryz.f260.name,by decide,Tryz.func260.trans (congrArg some (by kernel_rfl))⟩
 f22:=⟨Tryz.f261.name,by decide,Tryz.func261.trans (congrArg some (by kernel_rfl))⟩
 f23:=⟨Tryz.f262.name,by decide,Tryz.func262.trans (congrArg some (by kernel_rfl))⟩
 f24:=⟨Tryz.f263.name,by decide,Tryz.func263.trans (congrArg some (by kernel_rfl))⟩
 f25:=⟨Tryz.f264.name,by decide,Tryz.func264.trans (congrArg some (by kernel_rfl))⟩
 f26:=⟨Tryz.f265.name,by decide,Tryz.func265.trans (congrArg some (by kernel_rfl))⟩
 f27:=⟨Tryz.f266.name,by decide,Tryz.func266.trans (congrArg some (by kernel_rfl))⟩
 f28:=H0.trans (congrArg some (by kernel_rfl))
 f29:=H1.trans (congrArg some (by kernel_rfl))
 f46:=⟨Tryz.f268.name,by decide,Tryz.func268.trans (congrArg some (by kernel_rfl))⟩
 f47:=H3.trans (congrArg some (by kernel_rfl))
 f48:=H4.trans (congrArg some (by kernel_rfl))
 f49:=⟨Tryz.f269.name,by decide,Tryz.func269.trans (congrArg some (by kernel_rfl))⟩
 f50:=⟨Tryz.f270.name,by decide,Tryz.func270.trans (congrArg some (by kernel_rfl))⟩
 f57:=⟨Tryz.f273.name,by decide,Tryz.func273.trans (congrArg some (by kernel_rfl))⟩
 t0:=D8
 a0:=I1
 z0:=H5
 v0:=E4
 t3:=D9
 a3:=I2
 z3:=H6
 v3:=E5
 t4:=E0
 a4:=I3
 z4:=H7
 v4:=E6
 t5:=E1
 a5:=I4
 z5:=H8
 v5:=E7
 t9:=E2
 a9:=I5
 z9:=H9
 v9:=E8
 t22:=Tryz.underlying187
 a22:=Tryz.isAgg187
 z22:=Tryz.sizeOf187
 v22:=Tryz.zeroValue187
 t25:=Tryz.underlying239
 a25:=Tryz.isAgg239
 z25:=Tryz.sizeOf239
 v25:=Tryz.zeroValue239
 t39:=B5
 a39:=F9
 z39:=E9
 v39:=C6
 t45:=B9
 a45:=G3
 z45:=F3
 v45:=D0
 t46:=C0
 a46:=G4
 z46:=F4
 v46:=D1
 t50:=B8
 a50:=G2
 z50:=F2
 v50:=C9
 t53:=B6
 a53:=G0
 z53:=F0
 v53:=C7
 t55:=B7
 a55:=G1
 z55:=F1
 v55:=C8
 t66:=C1
 a66:=G5
 z66:=F5
 v66:=D2
 t70:=C2
 a70:=G6
 z70:=F6
 v70:=D3
 t76:=C3
 a76:=G7
 z76:=F7
 v76:=D4
 t77:=C4
 a77:=G8
 z77:=F8
 v77:=D5}
def Vb:EI A1 242 2 (shK 2):=afa (ρ:=tc) Mu 2 (by decide) Tryz.isAgg94 Tryz.sizeOf94 (AnyF.slices_SortFunc_none Mu) ⟨_,I0,by kernel_rfl,by kernel_rfl⟩
def Fb:aq:=(.seq (Zs [Zm 12 5,Zm 13 0,Zk 14 13,Zb 15 .lss 12 14] (.cond 15 .skip (.exit 0))) (.seq (.blk 1 (Zs [Zm 18 1,Zm 19 0,Zm 20 5,Zx 21 1 19 20,Zl 22 21,Zo 23 (.lenz 22),Zb 24 .sub 18 23,Zm 1 24] (Zs [Zm 25 1,Zd 26 .lss 25 0] (.cond 26 (Zs [Zn 4 (-1)] .ret) .skip)))) (.reg [Zm 16 5,Zd 17 .add 16 1,Zm 5 17] [])))
def YY:aq:=(Zs [Zm 27 1,Zm 4 27] .ret)
def A85:aq:=(Zs [Zn 4 0] (Zs [Zm 6 1,Zm 7 0,Zk 8 7,Zb 9 .sub 6 8,Zm 1 9] (.seq (Zs [Zm 10 1,Zd 11 .lss 10 0] (.cond 11 (Zs [Zn 4 (-1)] .ret) .skip)) (.seqa (.reg [Zn 5 0] []) (.blk 0 (.loop Fb)) [1] [] YY))))
def V85:List RV:=[.t 4]
def m85:aU A1 85 2 A85 V85=true:=by kernel_rfl
def A86:aq:=(Zs [Zn 4 0] (Zs [Zm 5 1,Zm 6 0,Zk 7 6,Zb 8 .sub 5 7,Zm 1 8] (.seq (Zs [Zm 9 1,Zd 10 .lss 9 0] (.cond 10 (Zs [Zn 4 (-1)] .ret) .skip)) (Zs [Zm 11 1,Zm 4 11] .ret))))
def m86:aU A1 86 2 A86 V85=true:=by kernel_rfl
def A34:aq:=(Zs [Zo 2 (.box 2 0),Zn 4 0] (Zs [Za 5 0 2,Zl 6 5,Zm 7 1,Zo 8 (.call 85 [6,7]),Zm 1 8] (.seq (Zs [Zm 9 1,Zd 10 .lss 9 0] (.cond 10 (Zs [Zn 4 (-1)] .ret) .skip)) (Zs [Za 11 1 2,Zl 12 11,Zm 13 1,Zo 14 (.call 86 [12,13]),Zm 1 14] (.seq (Zs [Zm 15 1,Zd 16 .lss 15 0] (.cond 16 (Zs [Zn 4 (-1)] .ret) .skip)) (Zs [Zm 17 1,Zm 4 17] .ret))))))
def m34:aU A1 34 2 A34 V85=true:=by kernel_rfl
def A60:aq:=(Zs [Zn 4 0] (Zs [Zm 5 1,Zm 6 0,Zk 7 6,Zb 8 .sub 5 7,Zm 1 8] (.seq (Zs [Zm 9 1,Zd 10 .lss 9 0] (.cond 10 (Zs [Zn 4 (-1)] .ret) .skip)) (Zs [Zm 11 1,Zm 4 11] .ret))))
def m60:aU A1 60 2 A60 V85=true:=by kernel_rfl
def A147:aq:=(Zs [Zo 2 (.box 2 0),Zn 4 0] (Zs [Za 5 1 2,Zl 6 5,Zm 7 1,Zo 8 (.call 60 [6,7]),Zm 1 8] (.seq (Zs [Zm 9 1,Zd 10 .lss 9 0] (.cond 10 (Zs [Zn 4 (-1)] .ret) .skip)) (Zs [Zm 11 1,Zm 4 11] .ret))))
def m147:aU A1 147 2 A147 V85=true:=by kernel_rfl
def A124:aq:=(Zs [Zo 2 (.box 5 0),Zn 4 0] (Zs [Za 5 1 2,Zv 6 2 5,Zm 7 1,Zo 8 (.call 147 [6,7]),Zm 1 8] (.seq (Zs [Zm 9 1,Zd 10 .lss 9 0] (.cond 10 (Zs [Zn 4 (-1)] .ret) .skip)) (Zs [Zm 11 1,Zm 4 11] .ret))))
def m124:aU A1 124 2 A124 V85=true:=by kernel_rfl
def Fe:aq:=(.seq (Zs [Zm 12 5,Zm 13 0,Zk 14 13,Zb 15 .lss 12 14] (.cond 15 .skip (.exit 0))) (.seq (.blk 1 (Zs [Zm 18 0,Zm 19 5,Zx 20 5 18 19,Zv 21 5 20,Zm 22 1,Zo 23 (.call 124 [21,22]),Zm 1 23] (Zs [Zm 24 1,Zd 25 .lss 24 0] (.cond 25 (Zs [Zn 4 (-1)] .ret) .skip)))) (.reg [Zm 16 5,Zd 17 .add 16 1,Zm 5 17] [])))
def aar:aq:=(Zs [Zm 26 1,Zm 4 26] .ret)
def A59:aq:=(Zs [Zn 4 0] (Zs [Zm 6 1,Zm 7 0,Zk 8 7,Zb 9 .sub 6 8,Zm 1 9] (.seq (Zs [Zm 10 1,Zd 11 .lss 10 0] (.cond 11 (Zs [Zn 4 (-1)] .ret) .skip)) (.seqa (.reg [Zn 5 0] []) (.blk 0 (.loop Fe)) [1] [] aar))))
def m59:aU A1 59 2 A59 V85=true:=by kernel_rfl
def A24:aq:=(Zs [Zo 2 (.box 3 0),Zn 4 0] (Zs [Za 5 0 2,Zv 6 2 5,Zm 7 1,Zo 8 (.call 34 [6,7]),Zm 1 8] (.seq (Zs [Zm 9 1,Zd 10 .lss 9 0] (.cond 10 (Zs [Zn 4 (-1)] .ret) .skip)) (Zs [Za 11 2 2,Zl 12 11,Zm 13 1,Zo 14 (.call 59 [12,13]),Zm 1 14] (.seq (Zs [Zm 15 1,Zd 16 .lss 15 0] (.cond 16 (Zs [Zn 4 (-1)] .ret) .skip)) (Zs [Zm 17 1,Zm 4 17] .ret))))))
def m24:aU A1 24 2 A24 V85=true:=by kernel_rfl
def A120:aq:=(Zs [Zo 2 (.box 2 0),Zn 4 0] (Zs [Za 5 1 2,Zl 6 5,Zm 7 1,Zo 8 (.call 60 [6,7]),Zm 1 8] (.seq (Zs [Zm 9 1,Zd 10 .lss 9 0] (.cond 10 (Zs [Zn 4 (-1)] .ret) .skip)) (Zs [Zm 11 1,Zm 4 11] .ret))))
def m120:aU A1 120 2 A120 V85=true:=by kernel_rfl
def FK:aq:=(.seq (Zs [Zm 12 5,Zm 13 0,Zk 14 13,Zb 15 .lss 12 14] (.cond 15 .skip (.exit 0))) (.seq (.blk 1 (Zs [Zm 18 0,Zm 19 5,Zx 20 2 18 19,Zv 21 2 20,Zm 22 1,Zo 23 (.call 120 [21,22]),Zm 1 23] (Zs [Zm 24 1,Zd 25 .lss 24 0] (.cond 25 (Zs [Zn 4 (-1)] .ret) .skip)))) (.reg [Zm 16 5,Zd 17 .add 16 1,Zm 5 17] [])))
def aaa:aq:=(Zs [Zm 26 1,Zm 4 26] .ret)
def A53:aq:=(Zs [Zn 4 0] (Zs [Zm 6 1,Zm 7 0,Zk 8 7,Zb 9 .sub 6 8,Zm 1 9] (.seq (Zs [Zm 10 1,Zd 11 .lss 10 0] (.cond 11 (Zs [Zn 4 (-1)] .ret) .skip)) (.seqa (.reg [Zn 5 0] []) (.blk 0 (.loop FK)) [1] [] aaa))))
def m53:aU A1 53 2 A53 V85=true:=by kernel_rfl
def DL:aq:=(.seq (Zs [Zm 8 4,Zm 9 0,Zk 10 9,Zb 11 .lss 8 10] (.cond 11 .skip (.exit 0))) (.seq (.blk 1 (.reg [Zm 14 3,Zm 15 4,Zm 16 0,Zm 17 4,Zx 18 1 16 17,Zl 19 18,Zx 20 1 14 15,Zw (.store 1 20 19)] [])) (.reg [Zm 12 4,Zd 13 .add 12 1,Zm 4 13] [])))
def aaj:aq:=(.seq (.reg [Zm 21 3,Zm 2 21] [.s 2]) .ret)
def A91:aq:=(.seq (.reg [Zo 2 (.mv (.c (.lst .u 1 [])))] [.s 2]) (.seq (.reg [Zm 5 0,Zk 6 5,Zo 7 (.mks 1 (.z ⟨#[]⟩) 16 6 6),Zm 3 7] [.s 3]) (.seqa (.reg [Zn 4 0] []) (.blk 0 (.loop DL)) [3] [3] aaj)))
def V91:List RV:=[.t 2]
def m91:aU A1 91 1 A91 V91=true:=by kernel_rfl
def A150:aq:=(Zs [Zo 1 (.box 4 0),Zo 2 (.alloc (.agg [.i 0,.i 0,.i 0,.i 0]))] (Zs [Zo 3 (.alloc (.agg [.i 0,.i 0,.i 0,.i 0]))] (Zs [Za 4 0 1,Zl 5 4,Za 6 0 3,Zw (.store 1 6 5)] (Zs [Za 7 1 1,Zl 8 7,Za 9 1 3,Zw (.store 1 9 8)] (Zs [Za 10 2 1,Zl 11 10,Za 12 2 3,Zw (.store 1 12 11)] (Zs [Za 13 3 1,Zl 14 13,Za 15 3 3,Zw (.store 1 15 14)] (Zs [Zv 16 4 3,Zw (.store 4 2 16)] .ret)))))))
def V150:List RV:=[.c 2 4 true]
def m150:aU A1 150 1 A150 V150=true:=by kernel_rfl
def EE:aq:=(.seq (Zs [Zm 8 4,Zm 9 0,Zk 10 9,Zb 11 .lss 8 10] (.cond 11 .skip (.exit 0))) (.seq (.blk 1 (.reg [Zm 14 3,Zm 15 4,Zm 16 0,Zm 17 4,Zx 18 4 16 17,Zv 19 4 18,Zo 20 (.call 150 [19]),Zx 21 4 14 15,Zw (.store 4 21 20)] [])) (.reg [Zm 12 4,Zd 13 .add 12 1,Zm 4 13] [])))
def aad:aq:=(.seq (.reg [Zm 22 3,Zm 2 22] [.s 2]) .ret)
def A92:aq:=(.seq (.reg [Zo 2 (.mv (.c (.lst .u 4 [])))] [.s 2]) (.seq (.reg [Zm 5 0,Zk 6 5,Zo 7 (.mks 4 (.agg [.i 0,.i 0,.i 0,.i 0]) 32 6 6),Zm 3 7] [.s 3]) (.seqa (.reg [Zn 4 0] []) (.blk 0 (.loop EE)) [3] [3] aad)))
def m92:aU A1 92 1 A92 V91=true:=by kernel_rfl
def A37:aq:=(Zs [Zo 1 (.box 2 0),Zo 2 (.alloc (.agg [.lst .u 1 [],.lst .u 4 []]))] (Zs [Zo 3 (.alloc (.agg [.lst .u 1 [],.lst .u 4 []]))] (Zs [Za 4 0 1,Zl 5 4,Zo 6 (.call 91 [5]),Za 7 0 3,Zw (.store 1 7 6)] (Zs [Za 8 1 1,Zl 9 8,Zo 10 (.call 92 [9]),Za 11 1 3,Zw (.store 1 11 10)] (Zs [Zv 12 2 3,Zw (.store 2 2 12)] .ret)))))
def V37:List RV:=[.c 2 2 true]
def m37:aU A1 37 1 A37 V37=true:=by kernel_rfl
def Fp:aq:=(.seq (Zs [Zm 8 4,Zm 9 0,Zk 10 9,Zb 11 .lss 8 10] (.cond 11 .skip (.exit 0))) (.seq (.blk 1 (.reg [Zm 14 3,Zm 15 4,Zm 16 0,Zm 17 4,Zx 18 1 16 17,Zl 19 18,Zx 20 1 14 15,Zw (.store 1 20 19)] [])) (.reg [Zm 12 4,Zd 13 .add 12 1,Zm 4 13] [])))
def ZY:aq:=(.seq (.reg [Zm 21 3,Zm 2 21] [.s 2]) .ret)
def A32:aq:=(.seq (.reg [Zo 2 (.mv (.c (.lst .u 1 [])))] [.s 2]) (.seq (.reg [Zm 5 0,Zk 6 5,Zo 7 (.mks 1 (.i 0) 8 6 6),Zm 3 7] [.s 3]) (.seqa (.reg [Zn 4 0] []) (.blk 0 (.loop Fp)) [3] [3] ZY)))
def m32:aU A1 32 1 A32 V91=true:=by kernel_rfl
def A151:aq:=(Zs [Zo 1 (.box 2 0),Zo 2 (.alloc (.agg [.i 0,.lst .u 1 []]))] (Zs [Zo 3 (.alloc (.agg [.i 0,.lst .u 1 []]))] (Zs [Za 4 0 1,Zl 5 4,Za 6 0 3,Zw (.store 1 6 5)] (Zs [Za 7 1 1,Zl 8 7,Zo 9 (.call 32 [8]),Za 10 1 3,Zw (.store 1 10 9)] (Zs [Zv 11 2 3,Zw (.store 2 2 11)] .ret)))))
def m151:aU A1 151 1 A151 V37=true:=by kernel_rfl
def A152:aq:=(Zs [Zo 1 (.box 2 0),Zo 2 (.alloc (.agg [.i 0,.i 0]))] (Zs [Zo 3 (.alloc (.agg [.i 0,.i 0]))] (Zs [Za 4 0 1,Zl 5 4,Za 6 0 3,Zw (.store 1 6 5)] (Zs [Za 7 1 1,Zl 8 7,Za 9 1 3,Zw (.store 1 9 8)] (Zs [Zv 10 2 3,Zw (.store 2 2 10)] .ret)))))
def m152:aU A1 152 1 A152 V37=true:=by kernel_rfl
def A127:aq:=(Zs [Zo 1 (.box 5 0),Zo 2 (.alloc (.agg [.i 0,.i 0,.lst .u 1 [],.i 0,.i 0]))] (Zs [Zo 3 (.alloc (.agg [.i 0,.i 0,.lst .u 1 [],.i 0,.i 0]))] (Zs [Za 4 0 1,Zl 5 4,Za 6 0 3,Zw (.store 1 6 5)] (Zs [Za 7 1 1,Zv 8 2 7,Zo 9 (.call 151 [8]),Za 10 1 3,Zw (.store 2 10 9)] (Zs [Za 11 3 1,Zv 12 2 11,Zo 13 (.call 152 [12]),Za 14 3 3,Zw (.store 2 14 13)] (Zs [Zv 15 5 3,Zw (.store 5 2 15)] .ret))))))
def Av:List RV:=[.c 2 5 true]
def m127:aU A1 127 1 A127 Av=true:=by kernel_rfl
def ED:aq:=(.seq (Zs [Zm 8 4,Zm 9 0,Zk 10 9,Zb 11 .lss 8 10] (.cond 11 .skip (.exit 0))) (.seq (.blk 1 (.reg [Zm 14 3,Zm 15 4,Zm 16 0,Zm 17 4,Zx 18 5 16 17,Zv 19 5 18,Zo 20 (.call 127 [19]),Zx 21 5 14 15,Zw (.store 5 21 20)] [])) (.reg [Zm 12 4,Zd 13 .add 12 1,Zm 4 13] [])))
def YR:aq:=(.seq (.reg [Zm 22 3,Zm 2 22] [.s 2]) .ret)
def A62:aq:=(.seq (.reg [Zo 2 (.mv (.c (.lst .u 5 [])))] [.s 2]) (.seq (.reg [Zm 5 0,Zk 6 5,Zo 7 (.mks 5 (.agg [.i 0,.i 0,.lst .u 1 [],.i 0,.i 0]) 56 6 6),Zm 3 7] [.s 3]) (.seqa (.reg [Zn 4 0] []) (.blk 0 (.loop ED)) [3] [3] YR)))
def m62:aU A1 62 1 A62 V91=true:=by kernel_rfl
def A26:aq:=(Zs [Zo 1 (.box 3 0),Zo 2 (.alloc (.agg [.lst .u 1 [],.lst .u 4 [],.lst .u 5 []]))] (Zs [Zo 3 (.alloc (.agg [.lst .u 1 [],.lst .u 4 [],.lst .u 5 []]))] (Zs [Za 4 0 1,Zv 5 2 4,Zo 6 (.call 37 [5]),Za 7 0 3,Zw (.store 2 7 6)] (Zs [Za 8 2 1,Zl 9 8,Zo 10 (.call 62 [9]),Za 11 2 3,Zw (.store 1 11 10)] (Zs [Zv 12 3 3,Zw (.store 3 2 12)] .ret)))))
def V26:List RV:=[.c 2 3 true]
def m26:aU A1 26 1 A26 V26=true:=by kernel_rfl
def A122:aq:=(Zs [Zo 1 (.box 2 0),Zo 2 (.alloc (.agg [.b false,.lst .u 1 []]))] (Zs [Zo 3 (.alloc (.agg [.b false,.lst .u 1 []]))] (Zs [Za 4 0 1,Zl 5 4,Za 6 0 3,Zw (.store 1 6 5)] (Zs [Za 7 1 1,Zl 8 7,Zo 9 (.call 32 [8]),Za 10 1 3,Zw (.store 1 10 9)] (Zs [Zv 11 2 3,Zw (.store 2 2 11)] .ret)))))
def m122:aU A1 122 1 A122 V37=true:=by kernel_rfl
def Fw:aq:=(.seq (Zs [Zm 8 4,Zm 9 0,Zk 10 9,Zb 11 .lss 8 10] (.cond 11 .skip (.exit 0))) (.seq (.blk 1 (.reg [Zm 14 3,Zm 15 4,Zm 16 0,Zm 17 4,Zx 18 2 16 17,Zv 19 2 18,Zo 20 (.call 122 [19]),Zx 21 2 14 15,Zw (.store 2 21 20)] [])) (.reg [Zm 12 4,Zd 13 .add 12 1,Zm 4 13] [])))
def ZZ:aq:=(.seq (.reg [Zm 22 3,Zm 2 22] [.s 2]) .ret)
def A55:aq:=(.seq (.reg [Zo 2 (.mv (.c (.lst .u 2 [])))] [.s 2]) (.seq (.reg [Zm 5 0,Zk 6 5,Zo 7 (.mks 2 (.agg [.b false,.lst .u 1 []]) 32 6 6),Zm 3 7] [.s 3]) (.seqa (.reg [Zn 4 0] []) (.blk 0 (.loop Fw)) [3] [3] ZZ)))
def m55:aU A1 55 1 A55 V91=true:=by kernel_rfl
def A178:aq:=(Zs [Zh 6 false] (Zs [Zm 7 0,Zm 8 1,Zb 9 .geq 7 8,Zm 10 9,Zg 11 (.mv 0) 10 true,Zg 12 (.mv 2) 10 true,Zg 13 (.bin .leq 11 12) 10 true,Zo 14 (.pick 10 13 (Zy false)),Zm 6 14] .ret))
def jw:List RV:=[.t 6]
def m178:aU A1 178 3 A178 jw=true:=by kernel_rfl
def abh:aq:=(Zs [Zh 2 false] (Zs [Zm 3 0,Zo 4 (.bin .geq 3 (.c (.sc (.int .u8 97)))),Zm 5 4,Zg 6 (.mv 0) 5 true,Zg 7 (.bin .leq 6 (.c (.sc (.int .u8 122)))) 5 true,Zo 8 (.pick 5 7 (Zy false)),Zm 9 8,Zg 10 (.mv 0) 9 false,Zg 11 (.bin .geq 10 (.c (.sc (.int .u8 48)))) 9 false,Zg 12 (.mv 11) 9 false,Zg 13 (.mv 0) 12 true,Zg 14 (.bin .leq 13 (.c (.sc (.int .u8 57)))) 12 true,Zg 15 (.pick 12 14 (Zy false)) 9 false,Zo 16 (.pick 9 (Zy true) 15),Zm 2 16] .ret))
def m224:aU A1 224 1 abh V91=true:=by kernel_rfl
def Lz:aq:=(.cond 17 (Zs [Zh 2 false] .ret) .skip)
def wj:aq:=(.seq (Zs [Zm 18 3,Zm 19 0,Zo 20 (.lenz 19),Zb 21 .lss 18 20] (.cond 21 .skip (.exit 0))) (.seq (.blk 1 (Zs [Zm 24 0,Zm 25 3,Zo 26 (.stri 24 25),Zo 27 (.call 224 [26]),Zo 28 (.un .not 27)] (.cond 28 (Zs [Zh 2 false] .ret) .skip))) (.reg [Zm 22 3,Zd 23 .add 22 1,Zm 3 23] [])))
def KM:aq:=(Zs [Zh 2 true] .ret)
def A187:aq:=(Zs [Zh 2 false] (.seq (.seqr (.reg [Zm 4 0,Zo 5 (.lenz 4),Zo 6 (.call 178 [5,(.c (.i 1)),(.c (.i 8))]),Zo 7 (.un .not 6),Zm 8 7,Zg 9 (.mv 0) 8 false,Zg 10 (.stri 9 (.c (.i 0))) 8 false,Zg 11 (.bin .lss 10 (.c (.sc (.int .u8 97)))) 8 false,Zo 12 (.pick 8 (Zy true) 11),Zm 13 12,Zg 14 (.mv 0) 13 false,Zg 15 (.stri 14 (.c (.i 0))) 13 false,Zg 16 (.bin .gtr 15 (.c (.sc (.int .u8 122)))) 13 false,Zo 17 (.pick 13 (Zy true) 16)] []) [0,17] [] Lz) (.seqa (.reg [Zn 3 0] []) (.blk 0 (.loop wj)) [] [] KM)))
def m187:aU A1 187 1 A187 V91=true:=by kernel_rfl
def xd:aq:=(.seq (Zs [Zm 6 5,Zm 7 0,Zk 8 7,Zb 9 .lss 6 8] (.cond 9 .skip (.exit 0))) (.seq (.blk 1 (Zs [Zm 12 0,Zm 13 5,Zx 14 1 12 13,Zl 15 14,Zm 16 1,Zb 17 .eql 15 16] (.cond 17 (Zs [Zm 18 5,Zm 4 18] .ret) .skip))) (.reg [Zm 10 5,Zd 11 .add 10 1,Zm 5 11] [])))
def PZ:aq:=(Zs [Zn 4 (-1)] .ret)
def A188:aq:=(Zs [Zn 4 0] (.seqa (.reg [Zn 5 0] []) (.blk 0 (.loop xd)) [] [] PZ))
def m188:aU A1 188 2 A188 V85=true:=by kernel_rfl
def afd:aq:=(Zs [Zo 2 (.box 4 0),Zh 4 false] (Zs [Za 5 0 2,Zl 6 5,Zm 7 1,Zd 8 .sub 7 1,Zo 9 (.call 178 [6,(.c (.i 0)),8]),Zm 10 9,Zg 11 (.fad 1 2) 10 true,Zg 12 (.load 1 false 11) 10 true,Zg 13 (.fad 0 2) 10 true,Zg 14 (.load 1 false 13) 10 true,Zg 15 (.bin .add 14 (.c (.i 1))) 10 true,Zg 16 (.mv 1) 10 true,Zg 17 (.bin .sub 16 (.c (.i 1))) 10 true,Zg 18 (.call 178 [12,15,17]) 10 true,Zo 19 (.pick 10 18 (Zy false)),Zm 20 19,Zg 21 (.fad 2 2) 20 true,Zg 22 (.load 1 false 21) 20 true,Zg 23 (.call 178 [22,(.c (.i 1)),(.c (.i 5000))]) 20 true,Zo 24 (.pick 20 23 (Zy false)),Zm 25 24,Zg 26 (.fad 3 2) 25 true,Zg 27 (.load 1 false 26) 25 true,Zg 28 (.call 178 [27,(.c (.i 0)),(.c (.i 9))]) 25 true,Zo 29 (.pick 25 28 (Zy false)),Zm 4 29] .ret))
def m189:aU A1 189 2 afd V85=true:=by kernel_rfl
def adt:aq:=(Zs [Zo 2 (.box 4 0),Zo 3 (.box 4 1),Zn 4 0] (.seq (.blk 0 (Zs [Za 6 0 2,Zl 7 6,Za 8 0 3,Zl 9 8,Zb 10 .neq 7 9,Zm 5 10] (.cond 5 (Zs [Za 11 0 2,Zl 12 11,Za 13 0 3,Zl 14 13,Zb 15 .sub 12 14,Zm 4 15] .ret) (Zs [Za 17 1 2,Zl 18 17,Za 19 1 3,Zl 20 19,Zb 21 .neq 18 20,Zm 16 21] (.cond 16 (Zs [Za 22 1 2,Zl 23 22,Za 24 1 3,Zl 25 24,Zb 26 .sub 23 25,Zm 4 26] .ret) (Zs [Za 28 2 2,Zl 29 28,Za 30 2 3,Zl 31 30,Zb 32 .neq 29 31,Zm 27 32] (.cond 27 (Zs [Za 33 2 2,Zl 34 33,Za 35 2 3,Zl 36 35,Zb 37 .sub 34 36,Zm 4 37] .ret) .skip))))))) (Zs [Za 38 3 2,Zl 39 38,Za 40 3 3,Zl 41 40,Zb 42 .sub 39 41,Zm 4 42] .ret)))
def m190:aU A1 190 2 adt V85=true:=by kernel_rfl
def NR:aq:=(.cond 15 (Zs [Zh 2 false] .ret) .skip)
def Lu:aq:=(.cond 41 (Zs [Zh 2 false] .ret) .skip)
def vZ:aq:=(.seq (Zs [Zm 16 3,Za 17 0 1,Zl 18 17,Zk 19 18,Zb 20 .lss 16 19] (.cond 20 .skip (.exit 0))) (.seq (.blk 1 (.seqr (.drw [Za 23 0 1,Zl 24 23,Zm 25 3,Zx 26 1 24 25,Zl 27 26,Zo 28 (.call 187 [27]),Zo 29 (.un .not 28),Zm 30 29,Zg 31 (.fad 0 1) 30 false,Zg 32 (.load 1 false 31) 30 false,Zg 33 (.fad 0 1) 30 false,Zg 34 (.load 1 false 33) 30 false,Zg 35 (.mv 3) 30 false,Zg 36 (.idx 1 34 35) 30 false,Zg 37 (.load 1 false 36) 30 false,Zg 38 (.call 188 [32,37]) 30 false,Zg 39 (.mv 3) 30 false,Zg 40 (.bin .neq 38 39) 30 false,Zo 41 (.pick 30 (Zy true) 40)] []) [1,3,41] [1] Lu)) (.reg [Zm 21 3,Zd 22 .add 21 1,Zm 3 22] [])))
def Pn:aq:=(.cond 77 (Zs [Zh 2 false] .ret) .skip)
def wL:aq:=(.seq (Zs [Zm 42 4,Za 43 1 1,Zl 44 43,Zk 45 44,Zb 46 .lss 42 45] (.cond 46 .skip (.exit 2))) (.seq (.blk 3 (.seqr (.drw [Za 49 1 1,Zl 50 49,Zm 51 4,Zx 52 4 50 51,Zv 53 4 52,Za 54 0 1,Zl 55 54,Zk 56 55,Zo 57 (.call 189 [53,56]),Zo 58 (.un .not 57),Zm 59 58,Zg 60 (.mv 4) 59 false,Zg 61 (.bin .gtr 60 (.c (.i 0))) 59 false,Zg 62 (.mv 61) 59 false,Zg 63 (.fad 1 1) 62 true,Zg 64 (.load 1 false 63) 62 true,Zg 65 (.mv 4) 62 true,Zg 66 (.bin .sub 65 (.c (.i 1))) 62 true,Zg 67 (.idx 4 64 66) 62 true,Zg 68 (.load 4 true 67) 62 true,Zg 69 (.fad 1 1) 62 true,Zg 70 (.load 1 false 69) 62 true,Zg 71 (.mv 4) 62 true,Zg 72 (.idx 4 70 71) 62 true,Zg 73 (.load 4 true 72) 62 true,Zg 74 (.call 190 [68,73]) 62 true,Zg 75 (.bin .gtr 74 (.c (.i 0))) 62 true,Zg 76 (.pick 62 75 (Zy false)) 59 false,Zo 77 (.pick 59 (Zy true) 76)] []) [1,4,77] [1] Pn)) (.reg [Zm 47 4,Zd 48 .add 47 1,Zm 4 48] [])))
def QO:aq:=(Zs [Zh 2 true] .ret)
def NM:aq:=(.seqa (.reg [Zn 4 0] []) (.blk 2 (.loop wL)) [] [] QO)
def A138:aq:=(Zs [Zo 1 (.box 2 0),Zh 2 false] (.seq (.seqr (.reg [Za 5 0 1,Zl 6 5,Zk 7 6,Zo 8 (.call 178 [7,(.c (.i 2)),(.c (.i 8))]),Zo 9 (.un .not 8),Zm 10 9,Zg 11 (.fad 1 1) 10 false,Zg 12 (.load 1 false 11) 10 false,Zg 13 (.len 12) 10 false,Zg 14 (.bin .gtr 13 (.c (.i 14))) 10 false,Zo 15 (.pick 10 (Zy true) 14)] []) [1,15] [1] NR) (.seqa (.reg [Zn 3 0] []) (.blk 0 (.loop vZ)) [1] [1] NM)))
def m138:aU A1 138 1 A138 V91=true:=by kernel_rfl
def A246:aq:=(Zs [Zo 3 (.box 2 0),Zn 6 0] (Zs [Za 8 1 3,Zl 9 8,Zm 10 1,Zx 11 4 9 10,Zv 12 4 11,Zo 7 (.alloc (.agg [.i 0,.i 0,.i 0,.i 0])),Zw (.store 4 7 12)] (.seq (Zs [Zm 13 2] (.blk 0 (Zs [Za 15 0 7,Zl 16 15,Zb 17 .eql 13 16,Zm 14 17] (.cond 14 (Zs [Za 18 1 7,Zl 19 18,Zm 6 19] .ret) (Zs [Za 21 1 7,Zl 22 21,Zb 23 .eql 13 22,Zm 20 23] (.cond 20 (Zs [Za 24 0 7,Zl 25 24,Zm 6 25] .ret) .skip)))))) (Zs [Zn 6 (-1)] .ret))))
def m246:aU A1 246 3 A246 jw=true:=by kernel_rfl
def xb:aq:=(.seq (Zs [Zm 6 5,Zm 7 0,Zk 8 7,Zb 9 .lss 6 8] (.cond 9 .skip (.exit 0))) (.seq (.blk 1 (Zs [Zm 12 0,Zm 13 5,Zx 14 1 12 13,Zl 15 14,Zm 16 1,Zb 17 .eql 15 16] (.cond 17 (Zs [Zh 4 true] .ret) .skip))) (.reg [Zm 10 5,Zd 11 .add 10 1,Zm 5 11] [])))
def Nm:aq:=(Zs [Zh 4 false] .ret)
def A144:aq:=(Zs [Zh 4 false] (.seqa (.reg [Zn 5 0] []) (.blk 0 (.loop xb)) [] [] Nm))
def m144:aU A1 144 2 A144 V85=true:=by kernel_rfl
def KV:aq:=(.cond 25 (.seq (.reg [Zm 26 6,Zm 4 26,Zh 5 false] [.s 4]) .ret) .skip)
def KR:aq:=(.cond 65 (.seq (.reg [Zm 66 6,Zm 4 66,Zh 5 false] [.s 4]) .ret) .skip)
def Ck:aq:=(.seq (Zs [Zm 27 7,Za 28 1 3,Zl 29 28,Zk 30 29,Zb 31 .lss 27 30] (.cond 31 .skip (.exit 0))) (.seq (.blk 1 (.seq (.seq (.drw [Za 34 1 3,Zl 35 34,Zm 36 7,Zx 37 1 35 36,Zl 38 37,Za 39 1 2,Zl 40 39,Zk 41 40,Zd 42 .sub 41 1,Zo 43 (.call 178 [38,(.c (.i 0)),42]),Zo 44 (.un .not 43)] []) (.cond 44 (.seq (.reg [Zm 45 6,Zm 4 45,Zh 5 false] [.s 4]) .ret) .skip)) (.seq (.drw [Zv 46 2 2,Za 47 1 3,Zl 48 47,Zm 49 7,Zx 50 1 48 49,Zl 51 50,Zm 52 6,Zm 53 6,Zk 54 53,Zd 55 .sub 54 1,Zx 56 1 52 55,Zl 57 56,Zo 58 (.call 246 [46,51,57]),Zm 8 58] []) (.seq (.seqr (.reg [Zm 59 8,Zd 60 .lss 59 0,Zm 61 60,Zg 62 (.mv 6) 61 false,Zg 63 (.mv 8) 61 false,Zg 64 (.call 144 [62,63]) 61 false,Zo 65 (.pick 61 (Zy true) 64)] []) [2,3,6,7,8,65] [2,3,6] KR) (.reg [Zm 67 6,Zm 68 8,Zo 69 (.bsl 1 false [68]),Zo 70 (.app 1 8 true 67 69),Zm 6 70] [.s 6]))))) (.reg [Zm 32 7,Zd 33 .add 32 1,Zm 7 33] [])))
def Mh:aq:=(.seq (.reg [Zm 71 6,Zm 4 71,Zh 5 true] [.s 4]) .ret)
def A220:aq:=(.seq (.reg [Zo 2 (.box 2 0),Zo 3 (.box 2 1),Zo 4 (.mv (.c (.lst .u 1 []))),Zh 5 false] [.s 4]) (.seq (.reg [Za 9 0 3,Zl 10 9,Zo 11 (.bsl 1 false [10]),Zm 6 11] [.s 6]) (.seq (.seqr (.reg [Za 12 0 3,Zl 13 12,Za 14 0 2,Zl 15 14,Zk 16 15,Zd 17 .sub 16 1,Zo 18 (.call 178 [13,(.c (.i 0)),17]),Zo 19 (.un .not 18),Zm 20 19,Zg 21 (.fad 1 3) 20 false,Zg 22 (.load 1 false 21) 20 false,Zg 23 (.len 22) 20 false,Zg 24 (.bin .eql 23 (.c (.i 0))) 20 false,Zo 25 (.pick 20 (Zy true) 24)] []) [2,3,6,25] [2,3,6] KV) (.seqa (.reg [Zn 7 0] []) (.blk 0 (.loop Ck)) [6] [6] Mh))))
def yk:List RV:=[.t 4,.t 5]
def m220:aU A1 220 2 A220 yk=true:=by kernel_rfl
def A191:aq:=(Zs [Zo 2 (.box 2 0),Zo 3 (.box 2 1),Zh 4 false] (.seq (Zs [Zv 7 2 2,Zo 8 (.call 138 [7]),Zo 9 (.un .not 8)] (.cond 9 (Zs [Zh 4 false] .ret) .skip)) (.seq (.reg [Zv 11 2 2,Zv 12 2 3,Zo 13 (.call 220 [11,12]),Zm 10 13,Ze 14 10 0,Ze 15 10 1,Zm 5 14,Zm 6 15] [.s 5]) (Zs [Zm 16 6,Zm 4 16] .ret))))
def m191:aU A1 191 2 A191 V85=true:=by kernel_rfl
def A192:aq:=(Zs [Zo 1 (.box 2 0),Zh 2 false] (Zs [Za 3 0 1,Zl 4 3,Zo 5 (.call 178 [4,(.c (.i 0)),(.c (.i 23))]),Zm 6 5,Zg 7 (.fad 1 1) 6 true,Zg 8 (.load 1 false 7) 6 true,Zg 9 (.fad 0 1) 6 true,Zg 10 (.load 1 false 9) 6 true,Zg 11 (.bin .sub (.c (.i 24)) 10) 6 true,Zg 12 (.call 178 [8,(.c (.i 1)),11]) 6 true,Zo 13 (.pick 6 12 (Zy false)),Zm 2 13] .ret))
def m192:aU A1 192 1 A192 V91=true:=by kernel_rfl
def A139:aq:=(Zs [Zo 2 (.box 2 0),Zo 3 (.box 5 1),Zh 4 false] (Zs [Za 5 0 3,Zl 6 5,Zo 7 (.call 178 [6,(.c (.i 1)),(.c (.i 999))]),Zm 8 7,Zg 9 (.load 2 true 2) 8 true,Zg 10 (.fad 1 3) 8 true,Zg 11 (.load 2 true 10) 8 true,Zg 12 (.call 191 [9,11]) 8 true,Zo 13 (.pick 8 12 (Zy false)),Zm 14 13,Zg 15 (.fad 3 3) 14 true,Zg 16 (.load 2 true 15) 14 true,Zg 17 (.call 192 [16]) 14 true,Zo 18 (.pick 14 17 (Zy false)),Zm 4 18] .ret))
def m139:aU A1 139 2 A139 V85=true:=by kernel_rfl
def wq:aq:=(.seq (Zs [Zm 6 5,Za 7 1 2,Zl 8 7,Zk 9 8,Zb 10 .lss 6 9] (.cond 10 .skip (.exit 0))) (.seq (.blk 1 (Zs [Zm 13 1,Za 14 1 2,Zl 15 14,Zm 16 5,Zx 17 1 15 16,Zl 18 17,Zo 19 (.call 144 [13,18])] (.cond 19 (Zs [Zh 4 true] .ret) .skip))) (.reg [Zm 11 5,Zd 12 .add 11 1,Zm 5 12] [])))
def MX:aq:=(Zs [Zh 4 false] .ret)
def A125:aq:=(Zs [Zo 2 (.box 2 0),Zh 4 false] (.seqa (.reg [Zn 5 0] []) (.blk 0 (.loop wq)) [] [] MX))
def m125:aU A1 125 2 A125 V85=true:=by kernel_rfl
def A167:aq:=(Zs [Zo 1 (.box 2 0),Zn 2 0] (Zs [Za 3 1 1,Zl 4 3,Zo 5 (.conv .u64 4),Zo 6 (.bin .shl (.c (.i 1)) 5),Zd 7 .sub 6 1,Za 8 0 1,Zl 9 8,Zo 10 (.conv .u64 9),Zb 11 .shl 7 10,Zm 2 11] .ret))
def m167:aU A1 167 1 A167 V91=true:=by kernel_rfl
def A140:aq:=(Zs [Zo 2 (.box 5 0),Zo 3 (.box 5 1),Zh 4 false] (.seq (.drw [Za 5 1 2,Zv 6 2 5,Za 7 1 3,Za 8 1 7,Zl 9 8,Zo 10 (.call 125 [6,9]),Zm 11 10,Zg 12 (.fad 3 2) 11 true,Zg 13 (.load 2 true 12) 11 true,Zg 14 (.call 167 [13]) 11 true,Zg 15 (.fad 3 3) 11 true,Zg 16 (.load 2 true 15) 11 true,Zg 17 (.call 167 [16]) 11 true,Zg 18 (.bin .and 14 17) 11 true,Zg 19 (.bin .neq 18 (.c (.i 0))) 11 true,Zo 20 (.pick 11 19 (Zy false)),Zm 4 20] []) .ret))
def m140:aU A1 140 2 A140 V85=true:=by kernel_rfl
def Yx:aq:=(.cond 14 (Zs [Zh 2 false] .ret) .skip)
def Zz:aq:=(.cond 50 (Zs [Zh 2 false] .ret) .skip)
def EP:aq:=(.seq (Zs [Zm 51 4,Zm 52 3,Zb 53 .lss 51 52] (.cond 53 .skip (.exit 2))) (.seq (.blk 3 (.seq (.drw [Za 56 2 1,Zl 57 56,Zm 58 4,Zx 59 5 57 58,Zv 60 5 59,Za 61 2 1,Zl 62 61,Zm 63 3,Zx 64 5 62 63,Zv 65 5 64,Zo 66 (.call 140 [60,65])] []) (.cond 66 (Zs [Zh 2 false] .ret) .skip))) (.reg [Zm 54 4,Zd 55 .add 54 1,Zm 4 55] [])))
def ZX:aq:=(.reg [Zm 20 3,Zd 21 .add 20 1,Zm 3 21] [])
def Ot:aq:=(.seq (Zs [Zm 15 3,Za 16 2 1,Zl 17 16,Zk 18 17,Zb 19 .lss 15 18] (.cond 19 .skip (.exit 0))) (.seqr (.blk 1 (.seq (.seqr (.drw [Za 22 0 1,Zv 23 2 22,Za 24 2 1,Zl 25 24,Zm 26 3,Zx 27 5 25 26,Zv 28 5 27,Zo 29 (.call 139 [23,28]),Zo 30 (.un .not 29),Zm 31 30,Zg 32 (.mv 3) 31 false,Zg 33 (.bin .gtr 32 (.c (.i 0))) 31 false,Zg 34 (.mv 33) 31 false,Zg 35 (.fad 2 1) 34 true,Zg 36 (.load 1 false 35) 34 true,Zg 37 (.mv 3) 34 true,Zg 38 (.bin .sub 37 (.c (.i 1))) 34 true,Zg 39 (.idx 5 36 38) 34 true,Zg 40 (.fad 0 39) 34 true,Zg 41 (.load 1 false 40) 34 true,Zg 42 (.fad 2 1) 34 true,Zg 43 (.load 1 false 42) 34 true,Zg 44 (.mv 3) 34 true,Zg 45 (.idx 5 43 44) 34 true,Zg 46 (.fad 0 45) 34 true,Zg 47 (.load 1 false 46) 34 true,Zg 48 (.bin .geq 41 47) 34 true,Zg 49 (.pick 34 48 (Zy false)) 31 false,Zo 50 (.pick 31 (Zy true) 49)] []) [1,3,50] [1] Zz) (Zs [Zn 4 0] (.blk 2 (.loop EP))))) [1,3] [1] ZX))
def YZ:aq:=(Zs [Zh 2 true] .ret)
def A74:aq:=(Zs [Zo 1 (.box 3 0),Zh 2 false] (.seq (.seqr (.reg [Za 5 0 1,Zv 6 2 5,Zo 7 (.call 138 [6]),Zo 8 (.un .not 7),Zm 9 8,Zg 10 (.fad 2 1) 9 false,Zg 11 (.load 1 false 10) 9 false,Zg 12 (.len 11) 9 false,Zg 13 (.bin .gtr 12 (.c (.i 12))) 9 false,Zo 14 (.pick 9 (Zy true) 13)] []) [1,14] [1] Yx) (.seqa (.reg [Zn 3 0] []) (.blk 0 (.loop Ot)) [] [] YZ)))
def m74:aU A1 74 1 A74 V91=true:=by kernel_rfl
def A89:aq:=(Zs [Zo 1 (.box 2 0),Zo 2 (.alloc (.agg [.lst .u 1 [],.lst .u 4 []]))] (.seq (.drw [Zo 3 (.bsl 1 true []),Za 4 0 1,Zl 5 4,Zo 6 (.app 1 16 false 3 5),Zo 7 (.bsl 4 true []),Za 8 1 1,Zl 9 8,Zo 10 (.app 4 32 false 7 9),Zo 11 (.build [.lst .u 1 [],.lst .u 4 []] [(0,1,6),(1,1,10)]),Zw (.store 2 2 11)] []) .ret))
def m89:aU A1 89 1 A89 V37=true:=by kernel_rfl
def A194:aq:=(.seq (.reg [Zo 2 (.mv (.c (.lst .u 1 [])))] [.s 2]) (.seq (.reg [Zo 3 (.bsl 1 false []),Zm 4 0,Zo 5 (.app 1 8 false 3 4),Zm 2 5] [.s 2]) .ret))
def m194:aU A1 194 1 A194 V91=true:=by kernel_rfl
def A193:aq:=(Zs [Zo 1 (.box 2 0),Zo 2 (.alloc (.agg [.i 0,.lst .u 1 []]))] (.seq (.drw [Za 3 0 1,Zl 4 3,Za 5 1 1,Zl 6 5,Zo 7 (.call 194 [6]),Zo 8 (.build [.i 0,.lst .u 1 []] [(0,1,4),(1,1,7)]),Zw (.store 2 2 8)] []) .ret))
def m193:aU A1 193 1 A193 V37=true:=by kernel_rfl
def A141:aq:=(Zs [Zo 1 (.box 5 0),Zo 2 (.alloc (.agg [.i 0,.i 0,.lst .u 1 [],.i 0,.i 0]))] (.seq (.drw [Za 3 0 1,Zl 4 3,Za 5 1 1,Zv 6 2 5,Zo 7 (.call 193 [6]),Za 8 3 1,Zv 9 2 8,Zo 10 (.build [.i 0,.i 0,.lst .u 1 [],.i 0,.i 0] [(0,1,4),(1,2,7),(3,2,9)]),Zw (.store 5 2 10)] []) .ret))
def m141:aU A1 141 1 A141 Av=true:=by kernel_rfl
def Ey:aq:=(.seq (Zs [Zm 9 4,Za 10 2 1,Zl 11 10,Zk 12 11,Zb 13 .lss 9 12] (.cond 13 .skip (.exit 0))) (.seq (.blk 1 (.drw [Zo 16 (.fdv [] 2 3),Zo 17 (.ldv [] 1 false 16),Za 18 2 1,Zl 19 18,Zm 20 4,Zx 21 5 19 20,Zv 22 5 21,Zo 23 (.call 141 [22]),Zo 24 (.bsm 5 [23]),Zo 25 (.app 5 56 true 17 24),Za 26 2 3,Zw (.store 1 26 25)] [.f false 500000194 3 2])) (.reg [Zm 14 4,Zd 15 .add 14 1,Zm 4 15] [])))
def Yt:aq:=(.seq (.reg [Zv 27 3 3,Zw (.store 3 2 27)] [.f false 500000128 2 0,.f false 500000129 2 1,.f false 500000130 2 2]) .ret)
def A75:aq:=(Zs [Zo 1 (.box 3 0),Zo 2 (.alloc (.agg [.lst .u 1 [],.lst .u 4 [],.lst .u 5 []]))] (.seq (.reg [Za 5 0 1,Zv 6 2 5,Zo 7 (.call 89 [6]),Zo 8 (.build [.lst .u 1 [],.lst .u 4 [],.lst .u 5 []] [(0,2,7)]),Zo 3 (.alloc (.agg [.lst .u 1 [],.lst .u 4 [],.lst .u 5 []])),Zw (.store 3 3 8)] [.f false 500000192 3 0,.f false 500000193 3 1,.f false 500000194 3 2]) (.seqa (.reg [Zn 4 0] []) (.blk 0 (.loop Ey)) [2,3] [2,3,500000192,500000193,500000194] Yt)))
def m75:aU A1 75 1 A75 V26=true:=by kernel_rfl
def EN:aq:=(.seq (Zs [Zm 6 4,Zm 7 0,Zk 8 7,Zb 9 .lss 6 8] (.cond 9 .skip (.exit 0))) (.seq (.blk 1 (.reg [Zm 12 3,Zm 13 0,Zm 14 4,Zx 15 5 13 14,Zv 16 5 15,Zo 17 (.call 141 [16]),Zo 18 (.bsl 5 false [17]),Zo 19 (.app 5 56 true 12 18),Zm 3 19] [.s 3])) (.reg [Zm 10 4,Zd 11 .add 10 1,Zm 4 11] [])))
def YU:aq:=(.seq (.reg [Zm 20 3,Zm 2 20] [.s 2]) .ret)
def A76:aq:=(.seq (.reg [Zo 2 (.mv (.c (.lst .u 5 [])))] [.s 2]) (.seq (.reg [Zo 5 (.bsl 5 false []),Zm 3 5] [.s 3]) (.seqa (.reg [Zn 4 0] []) (.blk 0 (.loop EN)) [3] [3] YU)))
def m76:aU A1 76 1 A76 V91=true:=by kernel_rfl
def A25:aq:=(Zs [Zo 1 (.box 3 0),Zo 2 (.alloc (.agg [.lst .u 1 [],.lst .u 4 [],.lst .u 5 [],.lst .u 5 [],.lst .u 1 []])),Zh 3 false] (.seq (Zs [Zv 4 3 1,Zo 5 (.call 74 [4]),Zo 6 (.un .not 5)] (.cond 6 (Zs [Zo 7 (.build [.lst .u 1 [],.lst .u 4 [],.lst .u 5 [],.lst .u 5 [],.lst .u 1 []] []),Zw (.store 5 2 7),Zh 3 false] .ret) .skip)) (.seq (.drw [Zv 8 3 1,Zo 9 (.call 75 [8]),Za 10 2 1,Zl 11 10,Zo 12 (.call 76 [11]),Zo 13 (.bsl 1 true []),Zo 14 (.build [.lst .u 1 [],.lst .u 4 [],.lst .u 5 [],.lst .u 5 [],.lst .u 1 []] [(0,3,9),(3,1,12),(4,1,13)]),Zw (.store 5 2 14),Zh 3 true] []) .ret)))
def V25:List RV:=[.c 2 5 true,.t 3]
def m25:aU A1 25 1 A25 V25=true:=by kernel_rfl
def Pa:aq:=(.cond 37 (Zs [Zh 6 false] .ret) .skip)
def xn:aq:=(.seq (Zs [Zm 8 7,Zm 9 0,Zk 10 9,Zb 11 .lss 8 10] (.cond 11 .skip (.exit 0))) (.seq (.blk 1 (.seqr (.drw [Zm 14 0,Zm 15 7,Zx 16 1 14 15,Zl 17 16,Zm 18 1,Zm 19 2,Zo 20 (.call 178 [17,18,19]),Zo 21 (.un .not 20),Zm 22 21,Zg 23 (.mv 7) 22 false,Zg 24 (.bin .gtr 23 (.c (.i 0))) 22 false,Zg 25 (.mv 24) 22 false,Zg 26 (.mv 0) 25 true,Zg 27 (.mv 7) 25 true,Zg 28 (.bin .sub 27 (.c (.i 1))) 25 true,Zg 29 (.idx 1 26 28) 25 true,Zg 30 (.load 1 false 29) 25 true,Zg 31 (.mv 0) 25 true,Zg 32 (.mv 7) 25 true,Zg 33 (.idx 1 31 32) 25 true,Zg 34 (.load 1 false 33) 25 true,Zg 35 (.bin .geq 30 34) 25 true,Zg 36 (.pick 25 35 (Zy false)) 22 false,Zo 37 (.pick 22 (Zy true) 36)] []) [0,1,2,7,37] [] Pa)) (.reg [Zm 12 7,Zd 13 .add 12 1,Zm 7 13] [])))
def Oj:aq:=(Zs [Zh 6 true] .ret)
def A121:aq:=(Zs [Zh 6 false] (.seqa (.reg [Zn 7 0] []) (.blk 0 (.loop xn)) [] [] Oj))
def m121:aU A1 121 3 A121 jw=true:=by kernel_rfl
def A143:aq:=(Zs [Zo 1 (.box 5 0),Zo 2 (.alloc (.agg [.lst .u 1 [],.lst .u 4 [],.lst .u 5 [],.lst .u 5 [],.lst .u 1 []]))] (.seq (.drw [Za 3 0 1,Zv 4 3 3,Zo 5 (.call 75 [4]),Za 6 3 1,Zl 7 6,Zo 8 (.call 76 [7]),Za 9 4 1,Zl 10 9,Zo 11 (.call 194 [10]),Zo 12 (.build [.lst .u 1 [],.lst .u 4 [],.lst .u 5 [],.lst .u 5 [],.lst .u 1 []] [(0,3,5),(3,1,8),(4,1,11)]),Zw (.store 5 2 12)] []) .ret))
def m143:aU A1 143 1 A143 Av=true:=by kernel_rfl
def oL:aq:=(.seq (Zs [Zm 6 5,Zm 7 0,Zk 8 7,Zb 9 .lss 6 8,Zm 10 9,Zg 11 (.mv 0) 10 true,Zg 12 (.mv 5) 10 true,Zg 13 (.idx 1 11 12) 10 true,Zg 14 (.load 1 false 13) 10 true,Zg 15 (.mv 1) 10 true,Zg 16 (.bin .lss 14 15) 10 true,Zo 17 (.pick 10 16 (Zy false))] (.cond 17 .skip (.exit 0))) (.blk 1 (.reg [Zm 18 5,Zd 19 .add 18 1,Zm 5 19] [])))
def zD:aq:=(.cond 31 (.seq (.reg [Zm 32 0,Zm 4 32] [.r 4]) .ret) .skip)
def yv:aq:=(.seq (.seqr (.reg [Zm 20 5,Zm 21 0,Zk 22 21,Zb 23 .lss 20 22,Zm 24 23,Zg 25 (.mv 0) 24 true,Zg 26 (.mv 5) 24 true,Zg 27 (.idx 1 25 26) 24 true,Zg 28 (.load 1 false 27) 24 true,Zg 29 (.mv 1) 24 true,Zg 30 (.bin .eql 28 29) 24 true,Zo 31 (.pick 24 30 (Zy false))] []) [0,1,5,31] [1000000000] zD) (.seq (.drw [Zo 33 (.bsl 1 true []),Zm 34 0,Zm 35 5,Zo 36 (.slc 1 34 none (some 35) none),Zo 37 (.app 1 8 false 33 36),Zm 38 1,Zo 39 (.bsl 1 true [38]),Zo 40 (.app 1 8 true 37 39),Zm 41 0,Zm 42 5,Zo 43 (.slc 1 41 (some 42) none none),Zo 44 (.app 1 8 false 40 43),Zm 4 44] [.r 4]) .ret))
def Pb:aq:=(.seq (.reg [Zo 4 (.mv (.c (.lst .u 1 [])))] [.r 4]) (Zs [Zn 5 0] (.seqr (.blk 0 (.loop oL)) [0,1,5] [1000000000] yv)))
def afz:aU A1 169 2 Pb V85=true:=by kernel_rfl
def xt:aq:=(.seq (Zs [Zm 6 5,Za 7 2 2,Zl 8 7,Zk 9 8,Zb 10 .lss 6 9] (.cond 10 .skip (.exit 0))) (.seq (.blk 1 (Zs [Za 13 2 2,Zl 14 13,Zm 15 5,Zx 16 5 14 15,Za 17 0 16,Zl 18 17,Zm 19 1,Zb 20 .eql 18 19] (.cond 20 (Zs [Zm 21 5,Zm 4 21] .ret) .skip))) (.reg [Zm 11 5,Zd 12 .add 11 1,Zm 5 12] [])))
def SR:aq:=(Zs [Zn 4 (-1)] .ret)
def A116:aq:=(Zs [Zo 2 (.box 3 0),Zn 4 0] (.seqa (.reg [Zn 5 0] []) (.blk 0 (.loop xt)) [] [] SR))
def m116:aU A1 116 2 A116 V85=true:=by kernel_rfl
def Lh:aq:=(Zs [Zo 2 (.box 3 0),Zo 4 (.alloc (.agg [.lst .u 1 [],.lst .u 4 [],.lst .u 5 []]))] (Zs [Zv 6 3 2,Zo 7 (.call 75 [6]),Zo 5 (.alloc (.agg [.lst .u 1 [],.lst .u 4 [],.lst .u 5 []])),Zw (.store 3 5 7)] (.seq (.drw [Zo 8 (.bsl 5 true []),Za 9 2 5,Zl 10 9,Zm 11 1,Zo 12 (.slc 5 10 none (some 11) none),Zo 13 (.app 5 56 false 8 12),Za 14 2 5,Zl 15 14,Zm 16 1,Zd 17 .add 16 1,Zo 18 (.slc 5 15 (some 17) none none),Zo 19 (.app 5 56 false 13 18),Za 20 2 5,Zw (.store 1 20 19)] []) (Zs [Zv 21 3 5,Zw (.store 3 4 21)] .ret))))
def fy:List RV:=[.c 4 3 true]
def aew:aU A1 165 2 Lh fy=true:=by kernel_rfl
def Fy:aq:=(.seq (Zs [Zm 11 6,Za 12 4 2,Zl 13 12,Zk 14 13,Zb 15 .lss 11 14] (.cond 15 .skip (.exit 0))) (.seq (.blk 1 (Zs [Zm 18 1,Za 19 4 2,Zl 20 19,Zm 21 6,Zx 22 1 20 21,Zl 23 22,Zo 24 (.call 144 [18,23]),Zo 25 (.un .not 24)] (.cond 25 (.drw [Za 26 4 5,Zl 27 26,Za 28 4 2,Zl 29 28,Zm 30 6,Zx 31 1 29 30,Zl 32 31,Zo 33 (.bsl 1 true [32]),Zo 34 (.app 1 8 true 27 33),Za 35 4 5,Zw (.store 1 35 34)] [.f false 500000324 5 4]) .skip))) (.reg [Zm 16 6,Zd 17 .add 16 1,Zm 6 17] [])))
def aan:aq:=(.seq (.reg [Zv 36 5 5,Zw (.store 5 4 36)] [.f false 500000256 4 0,.f false 500000257 4 1,.f false 500000258 4 2,.f false 500000259 4 3,.f false 500000260 4 4]) .ret)
def A80:aq:=(Zs [Zo 2 (.box 5 0),Zo 4 (.alloc (.agg [.lst .u 1 [],.lst .u 4 [],.lst .u 5 [],.lst .u 5 [],.lst .u 1 []]))] (.seq (.reg [Zv 7 5 2,Zo 8 (.call 143 [7]),Zo 5 (.alloc (.agg [.lst .u 1 [],.lst .u 4 [],.lst .u 5 [],.lst .u 5 [],.lst .u 1 []])),Zw (.store 5 5 8)] [.f false 500000320 5 0,.f false 500000321 5 1,.f false 500000322 5 2,.f false 500000323 5 3,.f false 500000324 5 4]) (.seq (.reg [Zo 9 (.bsl 1 false []),Za 10 4 5,Zw (.store 1 10 9)] [.f false 500000324 5 4]) (.seqa (.reg [Zn 6 0] []) (.blk 0 (.loop Fy)) [4,5] [4,5,500000320,500000321,500000322,500000323,500000324] aan))))
def V80:List RV:=[.c 4 5 true]
def m80:aU A1 80 2 A80 V80=true:=by kernel_rfl
def DW:aq:=(.seq (Zs [Zm 6 4,Za 7 3 1,Zl 8 7,Zk 9 8,Zb 10 .lss 6 9] (.cond 10 .skip (.exit 0))) (.seq (.blk 1 (.seq (.drw [Za 13 0 1,Zv 14 3 13,Za 15 3 1,Zl 16 15,Zm 17 4,Zx 18 5 16 17,Za 19 0 18,Zl 20 19,Zo 21 (.call 116 [14,20]),Zd 22 .lss 21 0] []) (.cond 22 (.reg [Zm 23 3,Zm 24 4,Zo 25 (.bsl 1 false [24]),Zo 26 (.app 1 8 true 23 25),Zm 3 26] [.s 3]) .skip))) (.reg [Zm 11 4,Zd 12 .add 11 1,Zm 4 12] [])))
def Yw:aq:=(.seq (.reg [Zm 27 3,Zm 2 27] [.s 2]) .ret)
def A71:aq:=(.seq (.reg [Zo 1 (.box 5 0),Zo 2 (.mv (.c (.lst .u 1 [])))] [.s 2]) (.seq (.reg [Zo 5 (.bsl 1 false []),Zm 3 5] [.s 3]) (.seqa (.reg [Zn 4 0] []) (.blk 0 (.loop DW)) [3] [3] Yw)))
def m71:aU A1 71 1 A71 V91=true:=by kernel_rfl
def xU:aq:=(.seq (Zs [Zm 7 6,Za 8 2 2,Zl 9 8,Zk 10 9,Zb 11 .lss 7 10] (.cond 11 .skip (.exit 0))) (.seq (.blk 1 (Zs [Za 14 2 2,Zl 15 14,Zm 16 6,Zx 17 5 15 16,Za 18 1 17,Za 19 1 18,Zl 20 19,Zm 21 1,Zo 22 (.call 144 [20,21])] (.cond 22 (.reg [Zm 23 5,Za 24 2 2,Zl 25 24,Zm 26 6,Zx 27 5 25 26,Za 28 3 27,Zv 29 2 28,Zo 30 (.call 167 [29]),Zb 31 .or 23 30,Zm 5 31] []) .skip))) (.reg [Zm 12 6,Zd 13 .add 12 1,Zm 6 13] [])))
def KG:aq:=(Zs [Zm 32 5,Zm 4 32] .ret)
def A200:aq:=(Zs [Zo 2 (.box 3 0),Zn 4 0] (Zs [Zn 5 0] (.seqa (.reg [Zn 6 0] []) (.blk 0 (.loop xU)) [5] [] KG)))
def m200:aU A1 200 2 A200 V85=true:=by kernel_rfl
def xO:aq:=(.seq (Zs [Zm 7 6,Za 8 1 3,Zl 9 8,Zk 10 9,Zb 11 .lss 7 10] (.cond 11 .skip (.exit 0))) (.seq (.blk 1 (.drw [Zm 14 5,Zv 15 3 2,Za 16 1 3,Zl 17 16,Zm 18 6,Zx 19 1 17 18,Zl 20 19,Zo 21 (.call 200 [15,20]),Zb 22 .or 14 21,Zm 5 22] [])) (.reg [Zm 12 6,Zd 13 .add 12 1,Zm 6 13] [])))
def PU:aq:=(Zs [Zm 23 5,Zm 4 23] .ret)
def A166:aq:=(Zs [Zo 2 (.box 3 0),Zo 3 (.box 2 1),Zn 4 0] (Zs [Zn 5 0] (.seqa (.reg [Zn 6 0] []) (.blk 0 (.loop xO)) [5] [] PU)))
def m166:aU A1 166 2 A166 V85=true:=by kernel_rfl
def A179:aq:=(.seq (.reg [Zo 2 (.box 2 0),Zo 3 (.box 2 1),Zo 4 (.mv (.c (.lst .u 1 [])))] [.s 4]) (.seq (.reg [Zv 8 2 2,Zv 9 2 3,Zo 10 (.call 220 [8,9]),Zm 7 10,Ze 11 7 0,Ze 12 7 1,Zm 5 11,Zm 6 12] [.s 5]) (.seq (.reg [Zm 13 5,Zm 4 13] [.s 4]) .ret)))
def m179:aU A1 179 2 A179 V85=true:=by kernel_rfl
def A126:aq:=(Zs [Zo 2 (.box 2 0),Zo 3 (.box 2 1),Zn 4 0] (.seq (.reg [Zv 6 2 2,Zv 7 2 3,Zo 8 (.call 179 [6,7]),Zm 5 8] [.s 5]) (Zs [Zm 9 5,Zm 10 5,Zk 11 10,Zd 12 .sub 11 1,Zx 13 1 9 12,Zl 14 13,Zm 4 14] .ret)))
def m126:aU A1 126 2 A126 V85=true:=by kernel_rfl
def aga:aq:=(Zs [Zo 3 (.box 2 0),Zh 6 false] (Zs [Zv 7 2 3,Zo 8 (.call 138 [7]),Zm 9 8,Zg 10 (.mv 1) 9 true,Zg 11 (.fad 0 3) 9 true,Zg 12 (.load 1 false 11) 9 true,Zg 13 (.len 12) 9 true,Zg 14 (.bin .sub 13 (.c (.i 1))) 9 true,Zg 15 (.call 178 [10,(.c (.i 0)),14]) 9 true,Zo 16 (.pick 9 15 (Zy false)),Zm 17 16,Zg 18 (.mv 2) 17 true,Zg 19 (.fad 0 3) 17 true,Zg 20 (.load 1 false 19) 17 true,Zg 21 (.len 20) 17 true,Zg 22 (.bin .sub 21 (.c (.i 1))) 17 true,Zg 23 (.call 178 [18,(.c (.i 0)),22]) 17 true,Zo 24 (.pick 17 23 (Zy false)),Zm 25 24,Zg 26 (.mv 1) 25 true,Zg 27 (.mv 2) 25 true,Zg 28 (.bin .neq 26 27) 25 true,Zo 29 (.pick 25 28 (Zy false)),Zm 6 29] .ret))
def m234:aU A1 234 3 aga jw=true:=by kernel_rfl
def xC:aq:=(.seq (Zs [Zm 7 6,Za 8 1 3,Zl 9 8,Zk 10 9,Zb 11 .lss 7 10] (.cond 11 .skip (.exit 0))) (.seq (.blk 1 (.drw [Zm 14 5,Za 15 1 2,Zl 16 15,Za 17 1 3,Zl 18 17,Zm 19 6,Zx 20 1 18 19,Zl 21 20,Zx 22 4 16 21,Za 23 2 22,Zl 24 23,Zb 25 .add 14 24,Zm 5 25] [])) (.reg [Zm 12 6,Zd 13 .add 12 1,Zm 6 13] [])))
def Mm:aq:=(Zs [Zm 26 5,Zm 4 26] .ret)
def A271:aq:=(Zs [Zo 2 (.box 2 0),Zo 3 (.box 2 1),Zn 4 0] (Zs [Zn 5 0] (.seqa (.reg [Zn 6 0] []) (.blk 0 (.loop xC)) [5] [] Mm)))
def m271:aU A1 271 2 A271 V85=true:=by kernel_rfl
def A272:aq:=(Zs [Zn 2 0] (.seq (.blk 0 (Zs [Zm 4 0,Zd 5 .lss 4 0,Zm 3 5] (.cond 3 (Zs [Zn 2 (-1)] .ret) (Zs [Zm 7 0,Zd 8 .gtr 7 0,Zm 6 8] (.cond 6 (Zs [Zn 2 1] .ret) .skip))))) (Zs [Zn 2 0] .ret)))
def m272:aU A1 272 1 A272 V91=true:=by kernel_rfl
def xL:aq:=(.seq (Zs [Zm 32 9,Za 33 1 4,Zl 34 33,Zk 35 34,Zb 36 .lss 32 35] (.cond 36 .skip (.exit 0))) (.seq (.blk 1 (.seq (.drw [Za 39 1 4,Zl 40 39,Zm 41 9,Zx 42 1 40 41,Zl 43 42,Za 44 1 5,Zl 45 44,Zm 46 9,Zx 47 1 45 46,Zl 48 47,Zb 49 .neq 43 48] []) (.cond 49 (.seq (.drw [Za 50 1 4,Zl 51 50,Zm 52 9,Zx 53 1 51 52,Zl 54 53,Za 55 1 5,Zl 56 55,Zm 57 9,Zx 58 1 56 57,Zl 59 58,Zb 60 .sub 54 59,Zo 61 (.call 272 [60]),Zm 6 61] []) .ret) .skip))) (.reg [Zm 37 9,Zd 38 .add 37 1,Zm 9 38] [])))
def Lq:aq:=(Zs [Za 62 0 4,Zl 63 62,Za 64 0 5,Zl 65 64,Zb 66 .sub 63 65,Zo 67 (.call 272 [66]),Zm 6 67] .ret)
def A267:aq:=(Zs [Zo 3 (.box 2 0),Zo 4 (.box 2 1),Zo 5 (.box 2 2),Zn 6 0] (.seq (.seq (.drw [Zv 10 2 3,Zv 11 2 4,Zo 12 (.call 271 [10,11]),Zv 13 2 3,Zv 14 2 5,Zo 15 (.call 271 [13,14]),Zb 16 .sub 12 15,Zm 7 16] []) (Zs [Zm 17 7,Zd 18 .neq 17 0] (.cond 18 (Zs [Zm 19 7,Zo 20 (.call 272 [19]),Zm 6 20] .ret) .skip))) (.seq (Zs [Za 21 1 4,Zl 22 21,Zk 23 22,Za 24 1 5,Zl 25 24,Zk 26 25,Zb 27 .sub 23 26,Zm 8 27] (Zs [Zm 28 8,Zd 29 .neq 28 0] (.cond 29 (Zs [Zm 30 8,Zo 31 (.call 272 [30]),Zm 6 31] .ret) .skip))) (.seqa (.reg [Zn 9 0] []) (.blk 0 (.loop xL)) [4,5] [4,5] Lq))))
def m267:aU A1 267 3 A267 jw=true:=by kernel_rfl
def oD:aq:=(.seq (.seq (.drw [Zm 10 4,Zd 11 .gtr 10 0,Zm 12 11,Zg 13 (.mv 0) 12 true,Zg 14 (.nilc 13) 12 true,Zg 15 (.fad 0 14) 12 true,Zg 16 (.load 2 true 15) 12 true,Zg 17 (.load 2 true 3) 12 true,Zg 18 (.mv 0) 12 true,Zg 19 (.nilc 18) 12 true,Zg 20 (.fad 3 19) 12 true,Zg 21 (.load 1 false 20) 12 true,Zg 22 (.mv 4) 12 true,Zg 23 (.bin .sub 22 (.c (.i 1))) 12 true,Zg 24 (.idx 2 21 23) 12 true,Zg 25 (.load 2 true 24) 12 true,Zg 26 (.call 267 [16,17,25]) 12 true,Zg 27 (.bin .lss 26 (.c (.i 0))) 12 true,Zo 28 (.pick 12 27 (Zy false))] []) (.cond 28 .skip (.exit 0))) (.blk 1 (.reg [Zm 29 4,Zd 30 .sub 29 1,Zm 4 30] [])))
def yV:aq:=(.drw [Zm 31 0,Zo 32 (.bsl 2 true []),Zm 33 0,Zo 34 (.nilc 33),Za 35 3 34,Zl 36 35,Zm 37 4,Zo 38 (.slc 2 36 none (some 37) none),Zo 39 (.app 2 32 false 32 38),Zv 40 2 3,Zo 41 (.bsl 2 true [40]),Zo 42 (.app 2 32 true 39 41),Zm 43 0,Zo 44 (.nilc 43),Za 45 3 44,Zl 46 45,Zm 47 4,Zo 48 (.slc 2 46 (some 47) none none),Zo 49 (.app 2 32 false 42 48),Zo 50 (.nilc 31),Za 51 3 50,Zw (.store 1 51 49)] [])
def PN:aq:=(Zs [Zo 3 (.box 2 1)] (Zs [Zm 5 0,Zo 6 (.nilc 5),Za 7 3 6,Zl 8 7,Zk 9 8,Zm 4 9] (.seqr (.blk 0 (.loop oD)) [0,3,4] [3,1000000000,1000000001] yV)))
def dB:List RV:=[]
def acu:aU A1 257 2 PN dB=true:=by kernel_rfl
def oE:aq:=(.seq (.seq (.drw [Zm 10 4,Zd 11 .gtr 10 0,Zm 12 11,Zg 13 (.mv 0) 12 true,Zg 14 (.nilc 13) 12 true,Zg 15 (.fad 0 14) 12 true,Zg 16 (.load 2 true 15) 12 true,Zg 17 (.load 2 true 3) 12 true,Zg 18 (.mv 0) 12 true,Zg 19 (.nilc 18) 12 true,Zg 20 (.fad 3 19) 12 true,Zg 21 (.load 1 false 20) 12 true,Zg 22 (.mv 4) 12 true,Zg 23 (.bin .sub 22 (.c (.i 1))) 12 true,Zg 24 (.idx 2 21 23) 12 true,Zg 25 (.load 2 true 24) 12 true,Zg 26 (.call 267 [16,17,25]) 12 true,Zg 27 (.bin .lss 26 (.c (.i 0))) 12 true,Zo 28 (.pick 12 27 (Zy false))] []) (.cond 28 .skip (.exit 0))) (.blk 1 (.reg [Zm 29 4,Zd 30 .sub 29 1,Zm 4 30] [])))
def Ao:aq:=(.drw [Zm 31 0,Zo 32 (.bsl 2 true []),Zm 33 0,Zo 34 (.nilc 33),Za 35 3 34,Zl 36 35,Zm 37 4,Zo 38 (.slc 2 36 none (some 37) none),Zo 39 (.app 2 32 false 32 38),Zv 40 2 3,Zo 41 (.bsl 2 true [40]),Zo 42 (.app 2 32 true 39 41),Zm 43 0,Zo 44 (.nilc 43),Za 45 3 44,Zl 46 45,Zm 47 4,Zo 48 (.slc 2 46 (some 47) none none),Zo 49 (.app 2 32 false 42 48),Zo 50 (.nilc 31),Za 51 3 50,Zw (.store 1 51 49)] [])
def KE:aq:=(Zs [Zo 3 (.box 2 1)] (Zs [Zm 5 0,Zo 6 (.nilc 5),Za 7 3 6,Zl 8 7,Zk 9 8,Zm 4 9] (.seqr (.blk 0 (.loop oE)) [0,3,4] [3,1000000000,1000000001] Ao)))
def aba:aU A1 257 2 KE dB=true:=by kernel_rfl
def yB:aq:=(.cond 39 .skip (.exit 0))
def yP:aq:=(.cond 56 (.drw [Zm 57 0,Zo 58 (.fdv [65,71,470000003,1000000000] 0 4),Zo 59 (.ldv [65,71,470000003,1000000000] 1 false 58),Zo 60 (.fdv [65,71,470000003,1000000000] 1 4),Zo 61 (.ldv [65,71,470000003,1000000000] 1 false 60),Zo 62 (.call 194 [61]),Zm 63 7,Zo 64 (.bsl 1 true [63]),Zo 65 (.app 1 8 true 62 64),Zo 66 (.build [.i 0,.lst .u 1 []] [(0,1,59),(1,1,65)]),Zm 67 2,Zo 68 (.call 194 [67]),Zm 69 8,Zo 70 (.bsl 1 true [69]),Zo 71 (.app 1 8 true 68 70),Zo 72 (.callM 249 [57,66,71] [1000000000,470000003,65,71])] [.f true 470000003 1000000000 3]) .skip)
def rf:aq:=(.seq (.seqr (.reg [Zm 24 7,Zm 25 0,Zo 26 (.nilc 25),Za 27 0 26,Za 28 1 27,Zl 29 28,Zk 30 29,Zb 31 .lss 24 30,Zm 32 31,Zg 33 (.mv 0) 32 true,Zg 34 (.nilc 33) 32 true,Zg 35 (.fad 3 34) 32 true,Zg 36 (.load 1 false 35) 32 true,Zg 37 (.len 36) 32 true,Zg 38 (.bin .leq 37 (.c (.i 200))) 32 true,Zo 39 (.pick 32 38 (Zy false))] []) [0,2,4,6,7,39] [4,470000003,1000000000,1000000003] yB) (.seq (.blk 1 (Zs [Zm 42 0,Zo 43 (.nilc 42),Za 44 0 43,Zv 45 2 44,Zm 46 7,Zm 47 6,Zo 48 (.call 246 [45,46,47]),Zm 8 48] (.seqr (.reg [Zm 49 8,Zd 50 .geq 49 0,Zm 51 50,Zg 52 (.mv 2) 51 true,Zg 53 (.mv 8) 51 true,Zg 54 (.call 144 [52,53]) 51 true,Zg 55 (.un .not 54) 51 true,Zo 56 (.pick 51 55 (Zy false))] []) [0,2,4,6,7,8,56] [4,470000003,1000000000,1000000003] yP))) (.reg [Zm 40 7,Zd 41 .add 40 1,Zm 7 41] [])))
def LF:aq:=(.seq (.reg [Zo 4 (.box 2 1)] [.w 4,.f true 470000003 1000000000 3,.f true 500000257 4 1]) (Zs [Zm 9 2,Zm 10 2,Zk 11 10,Zd 12 .sub 11 1,Zx 13 1 9 12,Zl 14 13,Zm 6 14] (.seq (Zs [Zm 15 6,Zm 16 0,Zo 17 (.nilc 16),Za 18 2 17,Zl 19 18,Zb 20 .eql 15 19] (.cond 20 (.seq (.reg [Zm 21 0,Zv 22 2 4,Zo 23 (.callM 257 [21,22] [1000000000,470000003])] [.f true 470000003 1000000000 3]) .ret) .skip)) (Zs [Zn 7 0] (.blk 0 (.loop rf))))))
def agc:aU A1 249 3 LF dB=true:=by kernel_rfl
def xW:aq:=(.cond 39 .skip (.exit 0))
def yF:aq:=(.cond 56 (.drw [Zm 57 0,Zo 58 (.fdv [65,71,470000003,1000000000] 0 4),Zo 59 (.ldv [65,71,470000003,1000000000] 1 false 58),Zo 60 (.fdv [65,71,470000003,1000000000] 1 4),Zo 61 (.ldv [65,71,470000003,1000000000] 1 false 60),Zo 62 (.call 194 [61]),Zm 63 7,Zo 64 (.bsl 1 true [63]),Zo 65 (.app 1 8 true 62 64),Zo 66 (.build [.i 0,.lst .u 1 []] [(0,1,59),(1,1,65)]),Zm 67 2,Zo 68 (.call 194 [67]),Zm 69 8,Zo 70 (.bsl 1 true [69]),Zo 71 (.app 1 8 true 68 70),Zo 72 (.callM 249 [57,66,71] [1000000000,470000003,65,71])] [.f true 470000003 1000000000 3]) .skip)
def rX:aq:=(.seq (.seqr (.reg [Zm 24 7,Zm 25 0,Zo 26 (.nilc 25),Za 27 0 26,Za 28 1 27,Zl 29 28,Zk 30 29,Zb 31 .lss 24 30,Zm 32 31,Zg 33 (.mv 0) 32 true,Zg 34 (.nilc 33) 32 true,Zg 35 (.fad 3 34) 32 true,Zg 36 (.load 1 false 35) 32 true,Zg 37 (.len 36) 32 true,Zg 38 (.bin .leq 37 (.c (.i 200))) 32 true,Zo 39 (.pick 32 38 (Zy false))] []) [0,2,4,6,7,39] [4,470000003,1000000000,1000000001] xW) (.seq (.blk 1 (Zs [Zm 42 0,Zo 43 (.nilc 42),Za 44 0 43,Zv 45 2 44,Zm 46 7,Zm 47 6,Zo 48 (.call 246 [45,46,47]),Zm 8 48] (.seqr (.reg [Zm 49 8,Zd 50 .geq 49 0,Zm 51 50,Zg 52 (.mv 2) 51 true,Zg 53 (.mv 8) 51 true,Zg 54 (.call 144 [52,53]) 51 true,Zg 55 (.un .not 54) 51 true,Zo 56 (.pick 51 55 (Zy false))] []) [0,2,4,6,7,8,56] [4,470000003,1000000000,1000000001] yF))) (.reg [Zm 40 7,Zd 41 .add 40 1,Zm 7 41] [])))
def OM:aq:=(.seq (.reg [Zo 4 (.box 2 1)] [.w 4,.f true 470000003 1000000000 3]) (Zs [Zm 9 2,Zm 10 2,Zk 11 10,Zd 12 .sub 11 1,Zx 13 1 9 12,Zl 14 13,Zm 6 14] (.seq (Zs [Zm 15 6,Zm 16 0,Zo 17 (.nilc 16),Za 18 2 17,Zl 19 18,Zb 20 .eql 15 19] (.cond 20 (.seq (.reg [Zm 21 0,Zv 22 2 4,Zo 23 (.callM 257 [21,22] [1000000000,470000003])] [.f true 470000003 1000000000 3]) .ret) .skip)) (Zs [Zn 7 0] (.blk 0 (.loop rX))))))
def abx:aU A1 249 3 OM dB=true:=by kernel_rfl
def RQ:aq:=(.seq (.reg [Zo 3 (.box 2 0),Zo 6 (.mv (.c (.lst .u 2 []))),Zh 7 false] [.s 6]) (Zs [Zv 9 2 3,Zm 10 2,Zo 11 (.build [.lst .u 1 [],.lst .u 4 [],.i 0,.lst .u 2 []] [(0,2,9),(2,1,10)]),Zo 12 (.box 4 11),Zm 8 12] (Zs [Zm 13 8,Zm 14 1,Zo 15 (.build [.i 0,.lst .u 1 []] [(0,1,14)]),Zm 16 1,Zo 17 (.bsl 1 false [16]),Zo 18 (.callM 249 [13,15,17] [12,17])] (.seq (Zs [Zm 19 8,Zo 20 (.nilc 19),Za 21 3 20,Zl 22 21,Zk 23 22,Zd 24 .gtr 23 200] (.cond 24 (.seq (.reg [Zo 25 (.bsl 2 false []),Zm 6 25,Zh 7 false] [.s 6]) .ret) .skip)) (.seq (.reg [Zo 26 (.bsl 2 false []),Zm 27 8,Zo 28 (.nilc 27),Za 29 3 28,Zl 30 29,Zo 31 (.app 2 32 false 26 30),Zm 6 31,Zh 7 true] [.s 6]) .ret)))))
def gv:List RV:=[.t 6,.t 7]
def aey:aU A1 235 3 RQ gv=true:=by kernel_rfl
def Qi:aq:=(.seq (.reg [Zo 3 (.box 2 0),Zo 6 (.mv (.c (.lst .u 2 []))),Zh 7 false] [.s 6]) (.seq (Zs [Zv 8 2 3,Zm 9 1,Zm 10 2,Zo 11 (.call 234 [8,9,10]),Zo 12 (.un .not 11)] (.cond 12 (.seq (.reg [Zo 13 (.bsl 2 false []),Zm 6 13,Zh 7 false] [.s 6]) .ret) .skip)) (.seq (.reg [Zv 14 2 3,Zm 15 1,Zm 16 2,Zo 17 (.callM 235 [14,15,16] []),Ze 18 17 0,Ze 19 17 1,Zm 6 18,Zm 7 19] [.s 6]) .ret)))
def aeb:aU A1 212 3 Qi gv=true:=by kernel_rfl
def wB:aq:=(.seq (Zs [Zm 8 6,Zm 9 1,Zb 10 .add 8 9,Zd 11 .leq 10 24] (.cond 11 .skip (.exit 0))) (.seq (.blk 1 (Zs [Zm 14 0,Zm 15 6,Zm 16 1,Zo 17 (.build [.i 0,.i 0] [(0,1,15),(1,1,16)]),Zo 18 (.call 167 [17]),Zb 19 .and 14 18,Zd 20 .eql 19 0] (.cond 20 (.reg [Zm 21 5,Zm 22 6,Zo 23 (.bsl 1 false [22]),Zo 24 (.app 1 8 true 21 23),Zm 5 24] [.s 5]) .skip))) (.reg [Zm 12 6,Zd 13 .add 12 1,Zm 6 13] [])))
def ME:aq:=(.seq (.reg [Zm 25 5,Zm 4 25] [.s 4]) .ret)
def A213:aq:=(.seq (.reg [Zo 4 (.mv (.c (.lst .u 1 [])))] [.s 4]) (.seq (.reg [Zo 7 (.bsl 1 false []),Zm 5 7] [.s 5]) (.seqa (.reg [Zn 6 0] []) (.blk 0 (.loop wB)) [5] [5] ME)))
def m213:aU A1 213 2 A213 V85=true:=by kernel_rfl
def Ng:aq:=(.cond 31 (Zs [Zv 32 5 3,Zo 33 (.call 141 [32]),Zw (.store 5 4 33),Zh 5 true] .ret) .skip)
def QX:aq:=(.cond 52 .skip (.exit 0))
def wA:aq:=(.seq (.seqr (.reg [Zm 46 9,Zm 47 7,Zk 48 47,Zb 49 .lss 46 48,Zm 50 49,Zg 51 (.mv 8) 50 true,Zo 52 (.pick 50 51 (Zy false))] []) [2,3,4,7,8,9,52] [2,3,4,7] QX) (.seq (.blk 1 (.seq (.seq (.drw [Zm 55 7,Zm 56 9,Zx 57 2 55 56,Zv 58 2 57,Za 59 4 2,Zl 60 59,Zo 61 (.call 125 [58,60])] []) (.cond 61 (.exit 1) .skip)) (.seq (.drw [Za 62 0 2,Zv 63 3 62,Zm 64 7,Zm 65 9,Zx 66 2 64 65,Zv 67 2 66,Zo 68 (.call 166 [63,67]),Za 69 3 3,Za 70 1 69,Zl 71 70,Zo 72 (.call 213 [68,71]),Zm 10 72] [.s 10]) (Zs [Zm 73 10,Zk 74 73,Zd 75 .gtr 74 0] (.cond 75 (.seq (.drw [Za 76 0 3,Zl 77 76,Zm 78 7,Zm 79 9,Zx 80 2 78 79,Zv 81 2 80,Zo 82 (.call 193 [81]),Zm 83 10,Zo 84 (.idx 1 83 (.c (.i 0))),Zl 85 84,Za 86 3 3,Za 87 1 86,Zl 88 87,Zo 89 (.build [.i 0,.i 0] [(0,1,85),(1,1,88)]),Zo 90 (.build [.i 0,.i 0,.lst .u 1 [],.i 0,.i 0] [(0,1,77),(1,2,82),(3,2,89)]),Zw (.store 5 4 90),Zh 5 true] []) .ret) .skip))))) (.reg [Zm 53 9,Zd 54 .add 53 1,Zm 9 54] [])))
def MU:aq:=(Zs [Zo 91 (.build [.i 0,.i 0,.lst .u 1 [],.i 0,.i 0] []),Zw (.store 5 4 91),Zh 5 false] .ret)
def A173:aq:=(Zs [Zo 2 (.box 5 0),Zo 3 (.box 5 1),Zo 4 (.alloc (.agg [.i 0,.i 0,.lst .u 1 [],.i 0,.i 0])),Zh 5 false] (Zs [Za 11 0 2,Za 12 0 11,Zv 13 2 12,Zo 6 (.alloc (.agg [.lst .u 1 [],.lst .u 4 []])),Zw (.store 2 6 13)] (.seq (.seqr (.drw [Za 14 1 3,Zv 15 2 14,Za 16 4 2,Zl 17 16,Zo 18 (.call 125 [15,17]),Zo 19 (.un .not 18),Zm 20 19,Zg 21 (.fad 0 2) 20 true,Zg 22 (.load 3 true 21) 20 true,Zg 23 (.fad 1 3) 20 true,Zg 24 (.load 2 true 23) 20 true,Zg 25 (.call 166 [22,24]) 20 true,Zg 26 (.fad 3 3) 20 true,Zg 27 (.load 2 true 26) 20 true,Zg 28 (.call 167 [27]) 20 true,Zg 29 (.bin .and 25 28) 20 true,Zg 30 (.bin .eql 29 (.c (.i 0))) 20 true,Zo 31 (.pick 20 30 (Zy false))] []) [2,3,4,6,31] [2,3,4,6] Ng) (.seq (.drw [Zv 35 2 6,Za 36 1 3,Za 37 0 36,Zl 38 37,Zv 39 2 6,Za 40 1 3,Zv 41 2 40,Zo 42 (.call 126 [39,41]),Zo 43 (.callM 212 [35,38,42] []),Zm 34 43,Ze 44 34 0,Ze 45 34 1,Zm 7 44,Zm 8 45] [.s 7]) (.seqa (.reg [Zn 9 0] []) (.blk 0 (.loop wA)) [4] [4] MU)))))
def jx:List RV:=[.c 4 5 true,.t 5]
def m173:aU A1 173 2 A173 jx=true:=by kernel_rfl
def wt:aq:=(.seq (.seq (.drw [Zm 9 6,Za 10 2 5,Zl 11 10,Zk 12 11,Zb 13 .lss 9 12,Zm 14 13,Zg 15 (.fad 2 5) 14 true,Zg 16 (.load 1 false 15) 14 true,Zg 17 (.mv 6) 14 true,Zg 18 (.idx 5 16 17) 14 true,Zg 19 (.fad 0 18) 14 true,Zg 20 (.load 1 false 19) 14 true,Zg 21 (.fad 0 3) 14 true,Zg 22 (.load 1 false 21) 14 true,Zg 23 (.bin .lss 20 22) 14 true,Zo 24 (.pick 14 23 (Zy false))] []) (.cond 24 .skip (.exit 0))) (.blk 1 (.reg [Zm 25 6,Zd 26 .add 25 1,Zm 6 26] [])))
def Ep:aq:=(.seq (.drw [Zo 27 (.bsl 5 true []),Za 28 2 5,Zl 29 28,Zm 30 6,Zo 31 (.slc 5 29 none (some 30) none),Zo 32 (.app 5 56 false 27 31),Zv 33 5 3,Zo 34 (.call 141 [33]),Zo 35 (.bsm 5 [34]),Zo 36 (.app 5 56 true 32 35),Za 37 2 5,Zl 38 37,Zm 39 6,Zo 40 (.slc 5 38 (some 39) none none),Zo 41 (.app 5 56 false 36 40),Za 42 2 5,Zw (.store 1 42 41)] [.w 41]) (Zs [Zv 43 3 5,Zw (.store 3 4 43)] .ret))
def YN:aq:=(Zs [Zo 2 (.box 3 0),Zo 3 (.box 5 1),Zo 4 (.alloc (.agg [.lst .u 1 [],.lst .u 4 [],.lst .u 5 []]))] (Zs [Zv 7 3 2,Zo 8 (.call 75 [7]),Zo 5 (.alloc (.agg [.lst .u 1 [],.lst .u 4 [],.lst .u 5 []])),Zw (.store 3 5 8)] (Zs [Zn 6 0] (.seqr (.blk 0 (.loop wt)) [3,4,5,6] [3,4,5,8,1008,2008,1000000000,1000000001,1000000002,1000000003] Ep))))
def aim:aU A1 90 2 YN fy=true:=by kernel_rfl
def QZ:aq:=(.seq (.reg [Zo 2 (.box 5 0),Zo 4 (.alloc (.agg [.lst .u 1 [],.lst .u 4 [],.lst .u 5 [],.lst .u 5 [],.lst .u 1 []])),Zh 5 false] [.f false 500000128 2 0,.f false 500000129 2 1,.f false 500000130 2 2,.f false 500000131 2 3,.f false 500000132 2 4]) (.seq (.drw [Zv 10 5 2,Za 11 3 2,Zl 12 11,Zm 13 1,Zx 14 5 12 13,Zv 15 5 14,Zo 16 (.call 173 [10,15]),Zm 9 16,Ze 17 9 0,Ze 18 9 1,Zo 6 (.alloc (.agg [.i 0,.i 0,.lst .u 1 [],.i 0,.i 0])),Zw (.store 5 6 17),Zm 7 18] [.f false 500000386 6 2]) (.seq (.reg [Zv 19 5 2,Zo 20 (.call 143 [19]),Zo 8 (.alloc (.agg [.lst .u 1 [],.lst .u 4 [],.lst .u 5 [],.lst .u 5 [],.lst .u 1 []])),Zw (.store 5 8 20)] [.f false 500000512 8 0,.f false 500000513 8 1,.f false 500000514 8 2,.f false 500000515 8 3,.f false 500000516 8 4]) (.seq (Zs [Zm 21 7] (.cond 21 (.reg [Za 22 0 8,Zv 23 3 22,Zv 24 5 6,Zo 25 (.callM 90 [23,24] [500000512,500000513,500000514,500000386]),Za 26 0 8,Zw (.store 3 26 25)] [.f false 500000512 8 0,.f false 500000513 8 1,.f false 500000514 8 2]) .skip)) (.seq (.reg [Zv 27 5 8,Zm 28 7,Zw (.store 5 4 27),Zm 5 28] [.f false 500000256 4 0,.f false 500000257 4 1,.f false 500000258 4 2,.f false 500000259 4 3,.f false 500000260 4 4,.w 500000258]) .ret)))))
def ads:aU A1 117 2 QZ jx=true:=by kernel_rfl
def tI:aq:=(.seq (Zs [Zm 15 7,Zm 16 6,Zk 17 16,Zb 18 .lss 15 17] (.cond 18 .skip (.exit 0))) (.seq (.blk 1 (.seq (.drw [Zv 22 5 4,Zm 23 6,Zm 24 7,Zx 25 1 23 24,Zl 26 25,Zo 27 (.callM 117 [22,26] [500000256,500000257,500000258,500000259,500000260]),Zm 21 27,Ze 28 21 0,Ze 29 21 1,Zo 8 (.alloc (.agg [.lst .u 1 [],.lst .u 4 [],.lst .u 5 [],.lst .u 5 [],.lst .u 1 []])),Zw (.store 5 8 28),Zm 9 29] [.f false 500000512 8 0,.f false 500000513 8 1,.f false 500000514 8 2,.f false 500000515 8 3,.f false 500000516 8 4]) (.seq (.reg [Zv 30 5 8,Zw (.store 5 4 30)] [.f false 500000256 4 0,.f false 500000257 4 1,.f false 500000258 4 2,.f false 500000259 4 3,.f false 500000260 4 4]) (Zs [Zm 31 9] (.cond 31 (.drw [Zm 32 5,Za 33 3 1,Zl 34 33,Zm 35 6,Zm 36 7,Zx 37 1 35 36,Zl 38 37,Zx 39 5 34 38,Za 40 0 39,Zl 41 40,Zo 42 (.bsl 1 true [41]),Zo 43 (.app 1 8 true 32 42),Zm 5 43] [.s 5]) .skip))))) (.reg [Zm 19 7,Zd 20 .add 19 1,Zm 7 20] [])))
def zf:aq:=(.seq (.reg [Zv 44 5 4,Zm 45 5,Zw (.store 5 2 44),Zm 3 45] [.s 3,.f false 500000128 2 0,.f false 500000129 2 1,.f false 500000130 2 2,.f false 500000131 2 3,.f false 500000132 2 4]) .ret)
def Pg:aq:=(.seq (.reg [Zo 1 (.box 5 0),Zo 2 (.alloc (.agg [.lst .u 1 [],.lst .u 4 [],.lst .u 5 [],.lst .u 5 [],.lst .u 1 []])),Zo 3 (.mv (.c (.lst .u 1 [])))] [.s 3,.f false 500000064 1 0,.f false 500000065 1 1,.f false 500000066 1 2,.f false 500000067 1 3,.f false 500000068 1 4]) (.seq (.reg [Zv 10 5 1,Zo 11 (.call 143 [10]),Zo 4 (.alloc (.agg [.lst .u 1 [],.lst .u 4 [],.lst .u 5 [],.lst .u 5 [],.lst .u 1 []])),Zw (.store 5 4 11)] [.f false 500000256 4 0,.f false 500000257 4 1,.f false 500000258 4 2,.f false 500000259 4 3,.f false 500000260 4 4,.w 500000258]) (.seq (.reg [Zo 12 (.bsl 1 false []),Zm 5 12] [.s 5]) (.seq (.reg [Zv 13 5 1,Zo 14 (.call 71 [13]),Zm 6 14] [.s 6]) (.seqa (.reg [Zn 7 0] []) (.blk 0 (.loop tI)) [2,4,5] [2,4,5,500000256,500000257,500000258,500000259,500000260,1000000000,1000000001,1000000002,1000000003,1000000004] zf)))))
def aff:aU A1 119 1 Pg V25=true:=by kernel_rfl
def ww:aq:=(.seq (Zs [Zm 11 5,Zm 12 0,Zk 13 12,Zb 14 .lss 11 13] (.cond 14 .skip (.exit 0))) (.seq (.blk 1 (.seq (.drw [Zm 17 0,Zm 18 5,Zx 19 1 17 18,Zl 20 19,Zm 21 1,Zm 22 5,Zx 23 1 21 22,Zl 24 23,Zb 25 .neq 20 24] []) (.cond 25 (Zs [Zh 4 false] .ret) .skip))) (.reg [Zm 15 5,Zd 16 .add 15 1,Zm 5 16] [])))
def KC:aq:=(Zs [Zh 4 true] .ret)
def A227:aq:=(Zs [Zh 4 false] (.seq (Zs [Zm 6 0,Zk 7 6,Zm 8 1,Zk 9 8,Zb 10 .neq 7 9] (.cond 10 (Zs [Zh 4 false] .ret) .skip)) (.seqa (.reg [Zn 5 0] []) (.blk 0 (.loop ww)) [] [] KC)))
def m227:aU A1 227 2 A227 V85=true:=by kernel_rfl
def A199:aq:=(Zs [Zo 2 (.box 2 0),Zo 3 (.box 2 1),Zh 4 false] (Zs [Za 5 0 2,Zl 6 5,Za 7 0 3,Zl 8 7,Zb 9 .eql 6 8,Zm 10 9,Zg 11 (.fad 1 2) 10 true,Zg 12 (.load 1 false 11) 10 true,Zg 13 (.fad 1 3) 10 true,Zg 14 (.load 1 false 13) 10 true,Zg 15 (.call 227 [12,14]) 10 true,Zo 16 (.pick 10 15 (Zy false)),Zm 4 16] .ret))
def m199:aU A1 199 2 A199 V85=true:=by kernel_rfl
def A164:aq:=(Zs [Zo 2 (.box 5 0),Zo 3 (.box 5 1),Zh 4 false] (Zs [Za 5 0 2,Zl 6 5,Za 7 0 3,Zl 8 7,Zb 9 .eql 6 8,Zm 10 9,Zg 11 (.fad 1 2) 10 true,Zg 12 (.load 2 true 11) 10 true,Zg 13 (.fad 1 3) 10 true,Zg 14 (.load 2 true 13) 10 true,Zg 15 (.call 199 [12,14]) 10 true,Zo 16 (.pick 10 15 (Zy false)),Zm 17 16,Zg 18 (.fad 3 2) 17 true,Zg 19 (.load 2 true 18) 17 true,Zg 20 (.fad 3 3) 17 true,Zg 21 (.load 2 true 20) 17 true,Zg 22 (.aeq false 19 21) 17 true,Zo 23 (.pick 17 22 (Zy false)),Zm 4 23] .ret))
def m164:aU A1 164 2 A164 V85=true:=by kernel_rfl
def wb:aq:=(.seq (.seq (.drw [Zm 9 6,Za 10 2 5,Zl 11 10,Zk 12 11,Zb 13 .lss 9 12,Zm 14 13,Zg 15 (.fad 2 5) 14 true,Zg 16 (.load 1 false 15) 14 true,Zg 17 (.mv 6) 14 true,Zg 18 (.idx 5 16 17) 14 true,Zg 19 (.fad 0 18) 14 true,Zg 20 (.load 1 false 19) 14 true,Zg 21 (.fad 0 3) 14 true,Zg 22 (.load 1 false 21) 14 true,Zg 23 (.bin .lss 20 22) 14 true,Zo 24 (.pick 14 23 (Zy false))] []) (.cond 24 .skip (.exit 0))) (.blk 1 (.reg [Zm 25 6,Zd 26 .add 25 1,Zm 6 26] [])))
def Eh:aq:=(.seq (.drw [Zo 27 (.bsl 5 true []),Za 28 2 5,Zl 29 28,Zm 30 6,Zo 31 (.slc 5 29 none (some 30) none),Zo 32 (.app 5 56 false 27 31),Zv 33 5 3,Zo 34 (.call 141 [33]),Zo 35 (.bsm 5 [34]),Zo 36 (.app 5 56 true 32 35),Za 37 2 5,Zl 38 37,Zm 39 6,Zo 40 (.slc 5 38 (some 39) none none),Zo 41 (.app 5 56 false 36 40),Za 42 2 5,Zw (.store 1 42 41)] [.w 41]) (Zs [Zv 43 3 5,Zw (.store 3 4 43)] .ret))
def ZN:aq:=(Zs [Zo 2 (.box 3 0),Zo 3 (.box 5 1),Zo 4 (.alloc (.agg [.lst .u 1 [],.lst .u 4 [],.lst .u 5 []]))] (Zs [Zv 7 3 2,Zo 8 (.call 75 [7]),Zo 5 (.alloc (.agg [.lst .u 1 [],.lst .u 4 [],.lst .u 5 []])),Zw (.store 3 5 8)] (Zs [Zn 6 0] (.seqr (.blk 0 (.loop wb)) [3,4,5,6] [3,4,5,8,1008,2008,1000000000,1000000001,1000000002,1000000003] Eh))))
def ajd:aU A1 90 2 ZN fy=true:=by kernel_rfl
def OS:aq:=(Zs [Zo 2 (.box 3 0),Zo 4 (.alloc (.agg [.lst .u 1 [],.lst .u 4 [],.lst .u 5 []]))] (Zs [Zv 6 3 2,Zo 7 (.call 75 [6]),Zo 5 (.alloc (.agg [.lst .u 1 [],.lst .u 4 [],.lst .u 5 []])),Zw (.store 3 5 7)] (.seq (.drw [Zo 8 (.bsl 5 true []),Za 9 2 5,Zl 10 9,Zm 11 1,Zo 12 (.slc 5 10 none (some 11) none),Zo 13 (.app 5 56 false 8 12),Za 14 2 5,Zl 15 14,Zm 16 1,Zd 17 .add 16 1,Zo 18 (.slc 5 15 (some 17) none none),Zo 19 (.app 5 56 false 13 18),Za 20 2 5,Zw (.store 1 20 19)] []) (Zs [Zv 21 3 5,Zw (.store 3 4 21)] .ret))))
def aau:aU A1 165 2 OS fy=true:=by kernel_rfl
def AW:aq:=(.cond 48 (.exit 1) .skip)
def rp:aq:=(.seq (Zs [Zm 13 6,Za 14 3 1,Zl 15 14,Zk 16 15,Zb 17 .lss 13 16] (.cond 17 .skip (.exit 0))) (.seq (.blk 1 (.seq (.reg [Za 20 3 1,Zl 21 20,Zm 22 6,Zx 23 5 21 22,Zv 24 5 23,Zo 7 (.alloc (.agg [.i 0,.i 0,.lst .u 1 [],.i 0,.i 0])),Zw (.store 5 7 24)] [.f false 500000450 7 2]) (Zs [Za 25 0 4,Zv 26 3 25,Za 27 0 7,Zl 28 27,Zo 29 (.call 116 [26,28]),Zm 8 29] (.seq (.seqr (.drw [Zm 30 8,Zd 31 .lss 30 0,Zm 32 31,Zg 33 (.fad 0 4) 32 false,Zg 34 (.fad 2 33) 32 false,Zg 35 (.load 1 false 34) 32 false,Zg 36 (.mv 8) 32 false,Zg 37 (.idx 5 35 36) 32 false,Zg 38 (.load 5 true 37) 32 false,Zg 39 (.load 5 true 7) 32 false,Zg 40 (.call 164 [38,39]) 32 false,Zo 41 (.pick 32 (Zy true) 40),Zm 42 41,Zg 43 (.fad 1 7) 42 false,Zg 44 (.load 2 true 43) 42 false,Zg 45 (.fad 4 1) 42 false,Zg 46 (.load 1 false 45) 42 false,Zg 47 (.call 125 [44,46]) 42 false,Zo 48 (.pick 42 (Zy true) 47)] []) [1,2,4,5,6,7,8,48] [1,2,4,5,7,500000256,500000257,500000258,500000259,500000260,1000000000,1000000001,1000000002,1000000003,1000000004] AW) (.seq (.reg [Za 49 0 4,Zv 50 3 49,Zm 51 8,Zo 52 (.callM 165 [50,51] [500000256,500000257,500000258]),Zo 9 (.alloc (.agg [.lst .u 1 [],.lst .u 4 [],.lst .u 5 []])),Zw (.store 3 9 52)] [.f false 500000576 9 0,.f false 500000577 9 1,.f false 500000578 9 2]) (.seq (.drw [Zv 53 3 9,Za 54 1 7,Zv 55 2 54,Zo 56 (.call 166 [53,55]),Za 57 3 7,Zv 58 2 57,Zo 59 (.call 167 [58]),Zb 60 .and 56 59,Zd 61 .eql 60 0] []) (.cond 61 (.seq (.drw [Zv 62 3 9,Zv 63 5 7,Zo 64 (.call 141 [63]),Zo 65 (.callM 90 [62,64] [500000576,500000577,500000578,64]),Za 66 0 4,Zw (.store 3 66 65)] [.f false 500000256 4 0,.f false 500000257 4 1,.f false 500000258 4 2]) (.reg [Zm 67 5,Za 68 0 7,Zl 69 68,Zo 70 (.bsl 1 false [69]),Zo 71 (.app 1 8 true 67 70),Zm 5 71] [.s 5])) .skip))))))) (.reg [Zm 18 6,Zd 19 .add 18 1,Zm 6 19] [])))
def Bc:aq:=(.seq (.reg [Zv 72 5 4,Zm 73 5,Zw (.store 5 2 72),Zm 3 73] [.s 3,.f false 500000128 2 0,.f false 500000129 2 1,.f false 500000130 2 2,.f false 500000131 2 3,.f false 500000132 2 4]) .ret)
def RT:aq:=(.seq (.reg [Zo 1 (.box 5 0),Zo 2 (.alloc (.agg [.lst .u 1 [],.lst .u 4 [],.lst .u 5 [],.lst .u 5 [],.lst .u 1 []])),Zo 3 (.mv (.c (.lst .u 1 [])))] [.s 3,.f false 500000064 1 0,.f false 500000065 1 1,.f false 500000066 1 2,.f false 500000067 1 3,.f false 500000068 1 4]) (.seq (.reg [Zv 10 5 1,Zo 11 (.call 143 [10]),Zo 4 (.alloc (.agg [.lst .u 1 [],.lst .u 4 [],.lst .u 5 [],.lst .u 5 [],.lst .u 1 []])),Zw (.store 5 4 11)] [.f false 500000256 4 0,.f false 500000257 4 1,.f false 500000258 4 2,.f false 500000259 4 3,.f false 500000260 4 4,.w 500000258]) (.seq (.reg [Zo 12 (.bsl 1 false []),Zm 5 12] [.s 5]) (.seqa (.reg [Zn 6 0] []) (.blk 0 (.loop rp)) [2,4,5] [2,4,5,500000256,500000257,500000258,500000259,500000260,1000000000,1000000001,1000000002,1000000003,1000000004] Bc))))
def abj:aU A1 105 1 RT V25=true:=by kernel_rfl
def rR:aq:=(.seq (Zs [Zm 14 8,Zm 15 1,Zk 16 15,Zb 17 .lss 14 16] (.cond 17 .skip (.exit 0))) (.seq (.blk 1 (.drw [Za 20 4 6,Zl 21 20,Zm 22 1,Zm 23 8,Zx 24 1 22 23,Zl 25 24,Zo 26 (.callM 169 [21,25] [500000388]),Za 27 4 6,Zw (.store 1 27 26)] [.f false 500000388 6 4])) (.reg [Zm 18 8,Zd 19 .add 18 1,Zm 8 19] [])))
def sk:aq:=(.seq (Zs [Zm 28 9,Za 29 0 2,Za 30 2 29,Zl 31 30,Zk 32 31,Zb 33 .lss 28 32] (.cond 33 .skip (.exit 2))) (.seq (.blk 3 (.seq (.reg [Za 36 0 2,Za 37 2 36,Zl 38 37,Zm 39 9,Zx 40 5 38 39,Zv 41 5 40,Zo 10 (.alloc (.agg [.i 0,.i 0,.lst .u 1 [],.i 0,.i 0])),Zw (.store 5 10 41)] [.f false 500000642 10 2]) (Zs [Za 42 1 10,Zv 43 2 42,Zm 44 1,Zo 45 (.call 125 [43,44])] (.cond 45 (.seq (.reg [Zm 46 7,Za 47 0 10,Zl 48 47,Zo 49 (.bsl 1 false [48]),Zo 50 (.app 1 8 true 46 49),Zm 7 50] [.s 7]) (.drw [Za 51 0 6,Zv 52 3 51,Za 53 0 6,Zv 54 3 53,Za 55 0 10,Zl 56 55,Zo 57 (.call 116 [54,56]),Zo 58 (.callM 165 [52,57] [500000384,500000385,500000386]),Za 59 0 6,Zw (.store 3 59 58)] [.f false 500000384 6 0,.f false 500000385 6 1,.f false 500000386 6 2])) .skip)))) (.reg [Zm 34 9,Zd 35 .add 34 1,Zm 9 35] [])))
def zK:aq:=(.seq (.reg [Zv 60 5 6,Zm 61 7,Zw (.store 5 4 60),Zm 5 61] [.s 5,.f false 500000256 4 0,.f false 500000257 4 1,.f false 500000258 4 2,.f false 500000259 4 3,.f false 500000260 4 4]) .ret)
def zh:aq:=(.seqa (.reg [Zn 9 0] []) (.blk 2 (.loop sk)) [4,6,7] [4,6,7,500000384,500000385,500000386,500000387,500000388,1000000000,1000000001,1000000002,1000000003,1000000004] zK)
def LE:aq:=(.seq (.reg [Zo 2 (.box 5 0),Zo 4 (.alloc (.agg [.lst .u 1 [],.lst .u 4 [],.lst .u 5 [],.lst .u 5 [],.lst .u 1 []])),Zo 5 (.mv (.c (.lst .u 1 [])))] [.s 5,.f false 500000128 2 0,.f false 500000129 2 1,.f false 500000130 2 2,.f false 500000131 2 3,.f false 500000132 2 4]) (.seq (.reg [Zv 11 5 2,Zo 12 (.call 143 [11]),Zo 6 (.alloc (.agg [.lst .u 1 [],.lst .u 4 [],.lst .u 5 [],.lst .u 5 [],.lst .u 1 []])),Zw (.store 5 6 12)] [.f false 500000384 6 0,.f false 500000385 6 1,.f false 500000386 6 2,.f false 500000387 6 3,.f false 500000388 6 4,.w 500000386]) (.seq (.reg [Zo 13 (.bsl 1 false []),Zm 7 13] [.s 7]) (.seqa (.reg [Zn 8 0] []) (.blk 0 (.loop rR)) [1,2,4,6,7] [2,4,6,7,500000384,500000385,500000386,500000387,500000388,1000000000,1000000001,1000000002,1000000003,1000000004] zh))))
def aat:aU A1 109 2 LE jx=true:=by kernel_rfl
def Fo:aq:=(.cond 23 (.seq (.reg [Zm 24 7,Zo 25 (.build [.lst .u 1 [],.lst .u 4 [],.lst .u 5 [],.lst .u 5 [],.lst .u 1 []] []),Zm 4 24,Zw (.store 5 5 25),Zh 6 false] [.s 4,.f false 500000320 5 0,.f false 500000321 5 1,.f false 500000322 5 2,.f false 500000323 5 3,.f false 500000324 5 4]) .ret) .skip)
def EX:aq:=(.seq (.reg [Zv 69 5 8,Zo 70 (.callM 119 [69] [500000512,500000513,500000514,500000515,500000516]),Zm 68 70,Ze 71 68 0,Ze 72 68 1,Zw (.store 5 8 71)] [.f false 500000512 8 0,.f false 500000513 8 1,.f false 500000514 8 2,.f false 500000515 8 3,.f false 500000516 8 4]) (.seq (.reg [Zv 74 5 8,Zo 75 (.callM 105 [74] [500000512,500000513,500000514,500000515,500000516]),Zm 73 75,Ze 76 73 0,Ze 77 73 1,Zw (.store 5 8 76)] [.f false 500000512 8 0,.f false 500000513 8 1,.f false 500000514 8 2,.f false 500000515 8 3,.f false 500000516 8 4]) (.reg [Zm 78 7,Zv 79 5 8,Zo 80 (.call 71 [79]),Zk 81 80,Zo 82 (.bsl 1 false [81]),Zo 83 (.app 1 8 true 78 82),Zm 7 83] [.s 7])))
def xK:aq:=(.seq (Zs [Zm 26 10,Zm 27 1,Zk 28 27,Zb 29 .lss 26 28] (.cond 29 .skip (.exit 0))) (.seq (.blk 1 (.seq (.seq (.drw [Zm 32 1,Zm 33 10,Zx 34 2 32 33,Za 35 1 34,Zl 36 35,Za 37 0 2,Za 38 1 37,Zl 39 38,Zk 40 39,Zd 41 .sub 40 1,Zo 42 (.call 121 [36,(.c (.i 0)),41]),Zo 43 (.un .not 42)] []) (.cond 43 (.seq (.reg [Zo 44 (.bsl 1 false []),Zo 45 (.build [.lst .u 1 [],.lst .u 4 [],.lst .u 5 [],.lst .u 5 [],.lst .u 1 []] []),Zm 4 44,Zw (.store 5 5 45),Zh 6 false] [.s 4,.f false 500000320 5 0,.f false 500000321 5 1,.f false 500000322 5 2,.f false 500000323 5 3,.f false 500000324 5 4]) .ret) .skip)) (.seqr (Zs [Zm 46 1,Zm 47 10,Zx 48 2 46 47,Za 49 0 48,Zl 50 49] (.cond 50 (.drw [Zv 52 5 8,Zm 53 1,Zm 54 10,Zx 55 2 53 54,Za 56 1 55,Zl 57 56,Zo 58 (.callM 109 [52,57] [500000512,500000513,500000514,500000515,500000516]),Zm 51 58,Ze 59 51 0,Ze 60 51 1,Zw (.store 5 8 59)] [.f false 500000512 8 0,.f false 500000513 8 1,.f false 500000514 8 2,.f false 500000515 8 3,.f false 500000516 8 4]) (.drw [Zv 61 5 8,Zm 62 1,Zm 63 10,Zx 64 2 62 63,Za 65 1 64,Zl 66 65,Zo 67 (.call 80 [61,66]),Zw (.store 5 8 67)] [.f false 500000512 8 0,.f false 500000513 8 1,.f false 500000514 8 2,.f false 500000515 8 3,.f false 500000516 8 4,.w 500000514]))) [1,2,5,7,8,10] [2,5,7,8,500000512,500000513,500000514,500000515,500000516,1000000000,1000000001,1000000002,1000000003] EX))) (.reg [Zm 30 10,Zd 31 .add 30 1,Zm 10 31] [])))
def Fh:aq:=(.seq (.drw [Zm 84 7,Zv 85 5 8,Zm 4 84,Zw (.store 5 5 85),Zh 6 true] [.s 4,.f false 500000320 5 0,.f false 500000321 5 1,.f false 500000322 5 2,.f false 500000323 5 3,.f false 500000324 5 4]) .ret)
def ZV:aq:=(.seq (.reg [Zo 2 (.box 3 0),Zo 4 (.mv (.c (.lst .u 1 []))),Zo 5 (.alloc (.agg [.lst .u 1 [],.lst .u 4 [],.lst .u 5 [],.lst .u 5 [],.lst .u 1 []])),Zh 6 false] [.s 4,.f false 500000128 2 0,.f false 500000129 2 1,.f false 500000130 2 2]) (.seq (.reg [Zo 11 (.bsl 1 false []),Zm 7 11] [.s 7]) (.seq (.reg [Zv 13 3 2,Zo 14 (.call 25 [13]),Zm 12 14,Ze 15 12 0,Ze 16 12 1,Zo 8 (.alloc (.agg [.lst .u 1 [],.lst .u 4 [],.lst .u 5 [],.lst .u 5 [],.lst .u 1 []])),Zw (.store 5 8 15),Zm 9 16] [.f false 500000512 8 0,.f false 500000513 8 1,.f false 500000514 8 2,.f false 500000515 8 3,.f false 500000516 8 4,.w 500000514]) (.seq (.seqr (.reg [Zm 17 9,Zo 18 (.un .not 17),Zm 19 18,Zg 20 (.mv 1) 19 false,Zg 21 (.len 20) 19 false,Zg 22 (.bin .gtr 21 (.c (.i 20))) 19 false,Zo 23 (.pick 19 (Zy true) 22)] []) [1,2,5,7,8,23] [2,5,7,8,500000512,500000513,500000514,500000515,500000516,1000000000,1000000001,1000000002,1000000003] Fo) (.seqa (.reg [Zn 10 0] []) (.blk 0 (.loop xK)) [5,7,8] [5,7,8,500000512,500000513,500000514,500000515,500000516,1000000000,1000000001,1000000002,1000000003] Fh)))))
def mJ:List RV:=[.t 4,.c 5 5 true,.t 6]
def ain:aU A1 54 2 ZV mJ=true:=by kernel_rfl
def A132:aq:=(Zs [Zh 6 false] (Zs [Zm 7 1,Zm 8 0,Zb 9 .leq 7 8,Zm 10 9,Zg 11 (.mv 0) 10 true,Zg 12 (.mv 2) 10 true,Zg 13 (.bin .leq 11 12) 10 true,Zo 14 (.pick 10 13 (Zy false)),Zm 6 14] .ret))
def m132:aU A1 132 3 A132 jw=true:=by kernel_rfl
def Oo:aq:=(Zs [Zm 31 4,Zo 32 (.un .not 31),Zm 33 32,Zg 34 (.mv 5) 33 true,Zg 35 (.un .not 34) 33 true,Zg 36 (.mv 35) 33 true,Zg 37 (.mv 3) 36 false,Zg 38 (.bin .eql 37 (.c (.i 0))) 36 false,Zg 39 (.pick 36 (Zy true) 38) 33 true,Zo 40 (.pick 33 39 (Zy false))] (.cond 40 (Zs [Zh 2 false] .ret) .skip))
def vT:aq:=(Zs [Zb 9 .lss 8 7] (.seq (.cond 9 .skip (.exit 0)) (.seq (.blk 1 (Zs [Zm 10 8,Zm 3 10] (.seqr (.drw [Zm 11 0,Zm 12 3,Zo 13 (.stri 11 12),Zo 14 (.bin .geq 13 (.c (.sc (.int .u8 97)))),Zm 15 14,Zg 16 (.mv 0) 15 true,Zg 17 (.mv 3) 15 true,Zg 18 (.stri 16 17) 15 true,Zg 19 (.bin .leq 18 (.c (.sc (.int .u8 122)))) 15 true,Zo 20 (.pick 15 19 (Zy false)),Zm 21 0,Zm 22 3,Zo 23 (.stri 21 22),Zo 24 (.bin .geq 23 (.c (.sc (.int .u8 48)))),Zm 25 24,Zg 26 (.mv 0) 25 true,Zg 27 (.mv 3) 25 true,Zg 28 (.stri 26 27) 25 true,Zg 29 (.bin .leq 28 (.c (.sc (.int .u8 57)))) 25 true,Zo 30 (.pick 25 29 (Zy false)),Zm 4 20,Zm 5 30] []) [0,3,4,5,7,8] [] Oo))) (.reg [Zd 41 .add 8 1,Zm 8 41] []))))
def OQ:aq:=(Zs [Zm 42 0,Zo 43 (.lenz 42),Zo 44 (.call 132 [43,(.c (.i 1)),(.c (.i 8))]),Zm 2 44] .ret)
def A180:aq:=(Zs [Zh 2 false] (.seqa (.reg [Zm 6 0,Zo 7 (.lenz 6),Zn 8 0] []) (.blk 0 (.loop vT)) [0] [] OQ))
def m180:aU A1 180 1 A180 V91=true:=by kernel_rfl
def xS:aq:=(Zs [Zb 9 .lss 8 7] (.seq (.cond 9 .skip (.exit 0)) (.seq (.blk 1 (Zs [Zm 10 8,Zm 5 10] (Zs [Zm 11 1,Zm 12 0,Zm 13 5,Zx 14 1 12 13,Zl 15 14,Zb 16 .eql 11 15] (.cond 16 (Zs [Zm 17 5,Zm 4 17] .ret) .skip)))) (.reg [Zd 18 .add 8 1,Zm 8 18] []))))
def Na:aq:=(Zs [Zn 4 (-1)] .ret)
def A221:aq:=(Zs [Zn 4 0] (.seqa (.reg [Zm 6 0,Zk 7 6,Zn 8 0] []) (.blk 0 (.loop xS)) [] [] Na))
def m221:aU A1 221 2 A221 V85=true:=by kernel_rfl
def A181:aq:=(Zs [Zh 4 false] (Zs [Zm 5 0,Zm 6 1,Zo 7 (.call 221 [5,6]),Zd 8 .geq 7 0,Zm 4 8] .ret))
def m181:aU A1 181 2 A181 V85=true:=by kernel_rfl
def A233:aq:=(Zs [Zh 2 false] (Zs [Zm 3 0,Zm 4 0,Zb 5 .neq 3 4,Zm 2 5] .ret))
def m233:aU A1 233 1 A233 V91=true:=by kernel_rfl
def acl:aq:=(Zs [Zn 4 0] (Zs [Zm 7 0,Zo 8 (.call 233 [7]),Zm 5 8] (Zs [Zm 9 1,Zo 10 (.call 233 [9]),Zm 6 10] (.seq (Zs [Zm 11 5] (.cond 11 (.seq (Zs [Zm 12 6] (.cond 12 (Zs [Zn 4 0] .ret) .skip)) (Zs [Zn 4 (-1)] .ret)) .skip)) (.seq (Zs [Zm 13 6] (.cond 13 (Zs [Zn 4 1] .ret) .skip)) (.seq (Zs [Zm 14 0,Zm 15 1,Zb 16 .lss 14 15] (.cond 16 (Zs [Zn 4 (-1)] .ret) .skip)) (.seq (Zs [Zm 17 0,Zm 18 1,Zb 19 .gtr 17 18] (.cond 19 (Zs [Zn 4 1] .ret) .skip)) (Zs [Zn 4 0] .ret))))))))
def m223:aU A1 223 2 acl V85=true:=by kernel_rfl
def xj:aq:=(Zs [Zb 9 .lss 8 7] (.seq (.cond 9 .skip (.exit 0)) (.seq (.blk 1 (Zs [Zx 10 1 6 8,Zl 11 10,Zm 5 11] (Zs [Zm 12 5,Zm 13 3,Zb 14 .neq 12 13] (.cond 14 (Zs [Zm 15 5,Zm 2 15] .ret) .skip)))) (.reg [Zd 16 .add 8 1,Zm 8 16] []))))
def NN:aq:=(Zs [Zm 17 3,Zm 2 17] .ret)
def A222:aq:=(Zs [Zn 2 0] (Zs [Zn 3 0] (.seqa (.reg [Zm 6 0,Zk 7 6,Zn 8 0] []) (.blk 0 (.loop xj)) [3] [] NN)))
def m222:aU A1 222 1 A222 V91=true:=by kernel_rfl
def A182:aq:=(Zs [Zo 2 (.box 4 0),Zo 3 (.box 4 1),Zn 4 0] (.seq (.drw [Za 5 0 2,Zl 6 5,Za 7 0 3,Zl 8 7,Zo 9 (.call 223 [6,8]),Za 10 1 2,Zl 11 10,Za 12 1 3,Zl 13 12,Zo 14 (.call 223 [11,13]),Za 15 2 2,Zl 16 15,Za 17 2 3,Zl 18 17,Zo 19 (.call 223 [16,18]),Za 20 3 2,Zl 21 20,Za 22 3 3,Zl 23 22,Zo 24 (.call 223 [21,23]),Zo 25 (.bsl 1 true [9,14,19,24]),Zo 26 (.call 222 [25]),Zm 4 26] []) .ret))
def m182:aU A1 182 2 A182 V85=true:=by kernel_rfl
def Bs:aq:=(Zs [Zb 11 .lss 10 9] (.seq (.cond 11 .skip (.exit 0)) (.seq (.blk 1 (Zs [Zm 12 10,Zx 13 1 8 10,Zl 14 13,Zm 3 12,Zm 4 14] (Zs [Zm 15 4,Zo 16 (.call 180 [15]),Zo 17 (.un .not 16),Zm 18 17,Zg 19 (.fad 0 1) 18 false,Zg 20 (.load 1 false 19) 18 false,Zg 21 (.mv 3) 18 false,Zg 22 (.slc 1 20 none (some 21) none) 18 false,Zg 23 (.mv 4) 18 false,Zg 24 (.call 181 [22,23]) 18 false,Zo 25 (.pick 18 (Zy true) 24)] (.cond 25 (Zs [Zh 2 false] .ret) .skip)))) (.reg [Zd 26 .add 10 1,Zm 10 26] []))))
def wr:aq:=(Zs [Zb 31 .lss 30 29] (.seq (.cond 31 .skip (.exit 2)) (.seq (.blk 3 (Zs [Zm 32 30,Zx 33 4 28 30,Zv 34 4 33,Zo 6 (.alloc (.agg [.i 0,.i 0,.i 0,.i 0])),Zm 5 32,Zw (.store 4 6 34)] (.seq (.drw [Za 35 0 6,Zl 36 35,Zd 37 .lss 36 0,Zm 38 37,Zg 39 (.fad 0 6) 38 false,Zg 40 (.load 1 false 39) 38 false,Zg 41 (.fad 1 6) 38 false,Zg 42 (.load 1 false 41) 38 false,Zg 43 (.bin .geq 40 42) 38 false,Zo 44 (.pick 38 (Zy true) 43),Zm 45 44,Zg 46 (.fad 1 6) 45 false,Zg 47 (.load 1 false 46) 45 false,Zg 48 (.fad 0 1) 45 false,Zg 49 (.load 1 false 48) 45 false,Zg 50 (.len 49) 45 false,Zg 51 (.bin .geq 47 50) 45 false,Zo 52 (.pick 45 (Zy true) 51),Zm 53 52,Zg 54 (.fad 2 6) 53 false,Zg 55 (.load 1 false 54) 53 false,Zg 56 (.call 132 [55,(.c (.i 1)),(.c (.i 5000))]) 53 false,Zg 57 (.un .not 56) 53 false,Zo 58 (.pick 53 (Zy true) 57),Zm 59 58,Zg 60 (.fad 3 6) 59 false,Zg 61 (.load 1 false 60) 59 false,Zg 62 (.call 132 [61,(.c (.i 0)),(.c (.i 9))]) 59 false,Zg 63 (.un .not 62) 59 false,Zo 64 (.pick 59 (Zy true) 63),Zm 65 64,Zg 66 (.mv 5) 65 false,Zg 67 (.bin .gtr 66 (.c (.i 0))) 65 false,Zg 68 (.mv 67) 65 false,Zg 69 (.fad 1 1) 68 true,Zg 70 (.load 1 false 69) 68 true,Zg 71 (.mv 5) 68 true,Zg 72 (.bin .sub 71 (.c (.i 1))) 68 true,Zg 73 (.idx 4 70 72) 68 true,Zg 74 (.load 4 true 73) 68 true,Zg 75 (.load 4 true 6) 68 true,Zg 76 (.call 182 [74,75]) 68 true,Zg 77 (.bin .gtr 76 (.c (.i 0))) 68 true,Zg 78 (.pick 68 77 (Zy false)) 65 false,Zo 79 (.pick 65 (Zy true) 78)] []) (.cond 79 (Zs [Zh 2 false] .ret) .skip)))) (.reg [Zd 80 .add 30 1,Zm 30 80] []))))
def NX:aq:=(Zs [Za 81 0 1,Zl 82 81,Zk 83 82,Zo 84 (.call 132 [83,(.c (.i 2)),(.c (.i 8))]),Zm 85 84,Zg 86 (.fad 1 1) 85 true,Zg 87 (.load 1 false 86) 85 true,Zg 88 (.len 87) 85 true,Zg 89 (.bin .leq 88 (.c (.i 14))) 85 true,Zo 90 (.pick 85 89 (Zy false)),Zm 2 90] .ret)
def KY:aq:=(.seqa (.reg [Za 27 1 1,Zl 28 27,Zk 29 28,Zn 30 0] []) (.blk 2 (.loop wr)) [1] [1] NX)
def A128:aq:=(Zs [Zo 1 (.box 2 0),Zh 2 false] (.seqa (.reg [Za 7 0 1,Zl 8 7,Zk 9 8,Zn 10 0] []) (.blk 0 (.loop Bs)) [1] [1] KY))
def m128:aU A1 128 1 A128 V91=true:=by kernel_rfl
def A185:aq:=(Zs [Zo 2 (.box 4 0),Zn 4 0] (.seq (Zs [Zm 5 1] (.blk 0 (Zs [Za 7 0 2,Zl 8 7,Zb 9 .eql 5 8,Zm 6 9] (.cond 6 (Zs [Za 10 1 2,Zl 11 10,Zm 4 11] .ret) (Zs [Za 13 1 2,Zl 14 13,Zb 15 .eql 5 14,Zm 12 15] (.cond 12 (Zs [Za 16 0 2,Zl 17 16,Zm 4 17] .ret) .skip)))))) (Zs [Zn 4 (-1)] .ret)))
def m185:aU A1 185 2 A185 V85=true:=by kernel_rfl
def wP:aq:=(Zs [Zb 9 .lss 8 7] (.seq (.cond 9 .skip (.exit 0)) (.seq (.blk 1 (Zs [Zm 10 8,Zm 5 10] (Zs [Zm 11 1,Zm 12 0,Zm 13 5,Zx 14 1 12 13,Zl 15 14,Zb 16 .eql 11 15] (.cond 16 (Zs [Zm 17 5,Zm 4 17] .ret) .skip)))) (.reg [Zd 18 .add 8 1,Zm 8 18] []))))
def Lb:aq:=(Zs [Zn 4 (-1)] .ret)
def A146:aq:=(Zs [Zn 4 0] (.seqa (.reg [Zm 6 0,Zk 7 6,Zn 8 0] []) (.blk 0 (.loop wP)) [] [] Lb))
def m146:aU A1 146 2 A146 V85=true:=by kernel_rfl
def A84:aq:=(Zs [Zh 4 false] (Zs [Zm 5 0,Zm 6 1,Zo 7 (.call 146 [5,6]),Zd 8 .geq 7 0,Zm 4 8] .ret))
def m84:aU A1 84 2 A84 V85=true:=by kernel_rfl
def MZ:aq:=(.cond 23 (.seq (.reg [Zo 4 (.mv (.c (.lst .u 1 []))),Zh 5 false] [.s 4]) .ret) .skip)
def Qo:aq:=(.cond 56 (.seq (.reg [Zo 4 (.mv (.c (.lst .u 1 []))),Zh 5 false] [.s 4]) .ret) .skip)
def BC:aq:=(Zs [Zb 33 .lss 32 31] (.seq (.cond 33 .skip (.exit 0)) (.seq (.blk 1 (Zs [Zx 34 1 30 32,Zl 35 34,Zm 9 35] (.seq (Zs [Zm 36 9,Za 37 1 2,Zl 38 37,Zk 39 38,Zd 40 .sub 39 1,Zo 41 (.call 132 [36,(.c (.i 0)),40]),Zo 42 (.un .not 41)] (.cond 42 (.seq (.reg [Zo 4 (.mv (.c (.lst .u 1 []))),Zh 5 false] [.s 4]) .ret) .skip)) (Zs [Za 43 1 2,Zl 44 43,Zm 45 9,Zx 46 4 44 45,Zv 47 4 46,Zm 48 7,Zo 49 (.call 185 [47,48]),Zm 7 49] (.seq (.seqr (.reg [Zm 50 7,Zd 51 .lss 50 0,Zm 52 51,Zg 53 (.mv 6) 52 false,Zg 54 (.mv 7) 52 false,Zg 55 (.call 84 [53,54]) 52 false,Zo 56 (.pick 52 (Zy true) 55)] []) [2,6,7,30,31,32,56] [2,6] Qo) (.reg [Zm 57 6,Zm 58 7,Zo 59 (.bsl 1 false [58]),Zo 60 (.app 1 8 true 57 59),Zm 6 60] [.s 6])))))) (.reg [Zd 61 .add 32 1,Zm 32 61] []))))
def Sf:aq:=(.seq (.reg [Zm 62 6,Zm 4 62,Zh 5 true] [.s 4]) .ret)
def A135:aq:=(.seq (.reg [Zo 2 (.box 2 0),Zo 3 (.box 2 1),Zo 4 (.mv (.c (.lst .u 1 []))),Zh 5 false] [.s 4]) (.seq (.seqr (.reg [Za 10 0 3,Zl 11 10,Za 12 0 2,Zl 13 12,Zk 14 13,Zd 15 .sub 14 1,Zo 16 (.call 132 [11,(.c (.i 0)),15]),Zo 17 (.un .not 16),Zm 18 17,Zg 19 (.fad 1 3) 18 false,Zg 20 (.load 1 false 19) 18 false,Zg 21 (.len 20) 18 false,Zg 22 (.bin .eql 21 (.c (.i 0))) 18 false,Zo 23 (.pick 18 (Zy true) 22)] []) [2,3,23] [2,3] MZ) (.seq (.drw [Za 24 0 3,Zl 25 24,Zo 26 (.bsl 1 true [25]),Za 27 0 3,Zl 28 27,Zm 6 26,Zm 7 28] [.s 6]) (.seqa (.reg [Za 29 1 3,Zl 30 29,Zk 31 30,Zn 32 0] []) (.blk 0 (.loop BC)) [6] [6] Sf))))
def m135:aU A1 135 2 A135 yk=true:=by kernel_rfl
def A183:aq:=(Zs [Zo 1 (.box 2 0),Zh 2 false] (Zs [Za 3 0 1,Zl 4 3,Zd 5 .geq 4 0,Zm 6 5,Zg 7 (.fad 1 1) 6 true,Zg 8 (.load 1 false 7) 6 true,Zg 9 (.call 132 [8,(.c (.i 1)),(.c (.i 24))]) 6 true,Zo 10 (.pick 6 9 (Zy false)),Zm 11 10,Zg 12 (.fad 0 1) 11 true,Zg 13 (.load 1 false 12) 11 true,Zg 14 (.fad 1 1) 11 true,Zg 15 (.load 1 false 14) 11 true,Zg 16 (.bin .sub (.c (.i 24)) 15) 11 true,Zg 17 (.bin .leq 13 16) 11 true,Zo 18 (.pick 11 17 (Zy false)),Zm 2 18] .ret))
def m183:aU A1 183 1 A183 V91=true:=by kernel_rfl
def A129:aq:=(Zs [Zo 2 (.box 2 0),Zo 3 (.box 5 1),Zh 4 false] (.seq (.reg [Zv 8 2 2,Za 9 1 3,Zv 10 2 9,Zo 11 (.call 135 [8,10]),Zm 7 11,Ze 12 7 0,Ze 13 7 1,Zm 5 12,Zm 6 13] [.s 5]) (Zs [Zm 14 6,Zm 15 14,Zg 16 (.fad 0 3) 15 true,Zg 17 (.load 1 false 16) 15 true,Zg 18 (.call 132 [17,(.c (.i 1)),(.c (.i 999))]) 15 true,Zo 19 (.pick 15 18 (Zy false)),Zm 20 19,Zg 21 (.fad 3 3) 20 true,Zg 22 (.load 2 true 21) 20 true,Zg 23 (.call 183 [22]) 20 true,Zo 24 (.pick 20 23 (Zy false)),Zm 4 24] .ret)))
def m129:aU A1 129 2 A129 V85=true:=by kernel_rfl
def A184:aq:=(Zs [Zo 1 (.box 2 0),Zn 2 0] (.seq (.drw [Za 3 1 1,Zl 4 3,Zo 5 (.bin .shl (.c (.i 1)) 4),Zd 6 .sub 5 1,Za 7 0 1,Zl 8 7,Zb 9 .shl 6 8,Zm 2 9] []) .ret))
def m184:aU A1 184 1 A184 V91=true:=by kernel_rfl
def nQ:aq:=(.seq (Zs [Zm 29 5,Zm 30 4,Zk 31 30,Zb 32 .lss 29 31] (.cond 32 .skip (.exit 2))) (.seq (.blk 3 (.seq (.drw [Zm 35 4,Zm 36 5,Zx 37 1 35 36,Zl 38 37,Zm 39 4,Zm 40 5,Zd 41 .sub 40 1,Zx 42 1 39 41,Zl 43 42,Zb 44 .neq 38 43] []) (.cond 44 (Zs [Zm 45 0,Zm 46 3,Zm 47 4,Zm 48 5,Zx 49 1 47 48,Zl 50 49,Zx 51 1 45 46,Zw (.store 1 51 50)] (.reg [Zm 52 3,Zd 53 .add 52 1,Zm 3 53] [])) .skip))) (.reg [Zm 33 5,Zd 34 .add 33 1,Zm 5 34] [])))
def Aw:aq:=(Zs [Zm 54 0,Zm 55 3,Zo 56 (.slc 1 54 (some 55) none none),Zw (.clr 1 (.i 0) 56)] (.seq (.reg [Zm 57 0,Zm 58 3,Zo 59 (.slc 1 57 none (some 58) none),Zm 2 59] [.s 2]) .ret))
def rm:aq:=(.seq (Zs [Zm 10 3,Zm 11 0,Zk 12 11,Zb 13 .lss 10 12] (.cond 13 .skip (.exit 0))) (.seq (.blk 1 (.seq (.drw [Zm 16 0,Zm 17 3,Zx 18 1 16 17,Zl 19 18,Zm 20 0,Zm 21 3,Zd 22 .sub 21 1,Zx 23 1 20 22,Zl 24 23,Zb 25 .eql 19 24] []) (.cond 25 (.seq (.reg [Zm 26 0,Zm 27 3,Zo 28 (.slc 1 26 (some 27) none none),Zm 4 28] [.s 4]) (.seqa (.reg [Zn 5 1] []) (.blk 2 (.loop nQ)) [0,3] [1000000000] Aw)) .skip))) (.reg [Zm 14 3,Zd 15 .add 14 1,Zm 3 15] [])))
def yO:aq:=(.seq (.reg [Zm 60 0,Zm 2 60] [.s 2]) .ret)
def SO:aq:=(.seq (.reg [Zo 2 (.mv (.c (.lst .u 1 [])))] [.s 2]) (.seq (Zs [Zm 6 0,Zk 7 6,Zd 8 .lss 7 2] (.cond 8 (.seq (.reg [Zm 9 0,Zm 2 9] [.s 2]) .ret) .skip)) (.seqa (.reg [Zn 3 1] []) (.blk 0 (.loop rm)) [0] [1000000000] yO)))
def adj:aU A1 112 1 SO V91=true:=by kernel_rfl
def Fv:aq:=(Zs [Zb 12 .lss 11 10] (.seq (.cond 12 .skip (.exit 0)) (.seq (.blk 1 (Zs [Zx 13 1 9 11,Zl 14 13,Zm 7 14] (Zs [Zm 15 1,Zm 16 7,Zo 17 (.call 84 [15,16])] (.cond 17 (.reg [Zm 18 5,Zm 19 7,Zo 20 (.bsl 1 false [19]),Zo 21 (.app 1 8 true 18 20),Zm 5 21] [.s 5]) .skip)))) (.reg [Zd 22 .add 11 1,Zm 11 22] []))))
def Zi:aq:=(Zs [Zm 23 5,Zo 24 (.callM 111 [23] [5])] (.seq (.reg [Zm 25 5,Zo 26 (.callM 112 [25] [5]),Zm 4 26] [.s 4]) .ret))
def A68:aq:=(.seq (.reg [Zo 4 (.mv (.c (.lst .u 1 [])))] [.s 4]) (.seq (.reg [Zo 8 (.bsl 1 false []),Zm 5 8] [.s 5]) (.seqa (.reg [Zm 9 0,Zk 10 9,Zn 11 0] []) (.blk 0 (.loop Fv)) [5] [5] Zi)))
def m68:aU A1 68 2 A68 V85=true:=by kernel_rfl
def A131:aq:=(Zs [Zo 2 (.box 5 0),Zo 3 (.box 5 1),Zh 4 false] (.seq (.drw [Za 5 3 2,Zv 6 2 5,Zo 7 (.call 184 [6]),Za 8 3 3,Zv 9 2 8,Zo 10 (.call 184 [9]),Zb 11 .and 7 10,Zd 12 .neq 11 0,Zm 13 12,Zg 14 (.fad 1 2) 13 true,Zg 15 (.fad 1 14) 13 true,Zg 16 (.load 1 false 15) 13 true,Zg 17 (.fad 1 3) 13 true,Zg 18 (.fad 1 17) 13 true,Zg 19 (.load 1 false 18) 13 true,Zg 20 (.call 68 [16,19]) 13 true,Zg 21 (.len 20) 13 true,Zg 22 (.bin .gtr 21 (.c (.i 0))) 13 true,Zo 23 (.pick 13 22 (Zy false)),Zm 4 23] []) .ret))
def m131:aU A1 131 2 A131 V85=true:=by kernel_rfl
def A130:aq:=(Zs [Zo 2 (.box 5 0),Zh 3 false] (Zs [Zv 4 5 2,Zv 5 5 1,Zo 6 (.call 131 [4,5]),Zm 3 6] .ret))
def qB:List RV:=[.t 3]
def m130:aU A1 130 2 A130 qB=true:=by kernel_rfl
def CB:aq:=(Zs [Zb 9 .lss 8 7] (.seq (.cond 9 .skip (.exit 0)) (.seq (.blk 1 (Zs [Zm 10 8,Zm 5 10] (Zs [Zm 11 1,Zm 12 0,Zm 13 5,Zx 14 5 12 13,Zv 15 5 14,Zo 16 (.dyn 11 [15])] (.cond 16 (Zs [Zm 17 5,Zm 4 17] .ret) .skip)))) (.reg [Zd 18 .add 8 1,Zm 8 18] []))))
def ML:aq:=(Zs [Zn 4 (-1)] .ret)
def A133:aq:=(Zs [Zn 4 0] (.seqa (.reg [Zm 6 0,Zk 7 6,Zn 8 0] []) (.blk 0 (.loop CB)) [] [] ML))
def m133:aU A1 133 2 A133 V85=true:=by kernel_rfl
def A65:aq:=(Zs [Zh 4 false] (Zs [Zm 5 0,Zm 6 1,Zo 7 (.call 133 [5,6]),Zd 8 .geq 7 0,Zm 4 8] .ret))
def m65:aU A1 65 2 A65 V85=true:=by kernel_rfl
def Yv:aq:=(.cond 14 (Zs [Zh 2 false] .ret) .skip)
def QF:aq:=(Zs [Zb 19 .lss 18 17] (.seq (.cond 19 .skip (.exit 0)) (.seq (.blk 1 (Zs [Zm 20 18,Zx 21 5 16 18,Zv 22 5 21,Zo 4 (.alloc (.agg [.i 0,.i 0,.lst .u 1 [],.i 0,.i 0])),Zm 3 20,Zw (.store 5 4 22)] (.seq (.drw [Za 23 0 1,Zv 24 2 23,Zv 25 5 4,Zo 26 (.call 129 [24,25]),Zo 27 (.un .not 26),Zm 28 27,Zg 29 (.mv 3) 28 false,Zg 30 (.bin .gtr 29 (.c (.i 0))) 28 false,Zg 31 (.mv 30) 28 false,Zg 32 (.fad 2 1) 31 true,Zg 33 (.load 1 false 32) 31 true,Zg 34 (.mv 3) 31 true,Zg 35 (.bin .sub 34 (.c (.i 1))) 31 true,Zg 36 (.idx 5 33 35) 31 true,Zg 37 (.fad 0 36) 31 true,Zg 38 (.load 1 false 37) 31 true,Zg 39 (.fad 0 4) 31 true,Zg 40 (.load 1 false 39) 31 true,Zg 41 (.bin .geq 38 40) 31 true,Zg 42 (.pick 31 41 (Zy false)) 28 false,Zo 43 (.pick 28 (Zy true) 42),Zm 44 43,Zg 45 (.fad 2 1) 44 false,Zg 46 (.load 1 false 45) 44 false,Zg 47 (.mv 3) 44 false,Zg 48 (.slc 5 46 none (some 47) none) 44 false,Zg 49 (.mkf 130 [4]) 44 false,Zg 50 (.call 65 [48,49]) 44 false,Zo 51 (.pick 44 (Zy true) 50)] []) (.cond 51 (Zs [Zh 2 false] .ret) .skip)))) (.reg [Zd 52 .add 18 1,Zm 18 52] []))))
def ZR:aq:=(Zs [Zh 2 true] .ret)
def A63:aq:=(Zs [Zo 1 (.box 3 0),Zh 2 false] (.seq (.seqr (.reg [Za 5 0 1,Zv 6 2 5,Zo 7 (.call 128 [6]),Zo 8 (.un .not 7),Zm 9 8,Zg 10 (.fad 2 1) 9 false,Zg 11 (.load 1 false 10) 9 false,Zg 12 (.len 11) 9 false,Zg 13 (.bin .gtr 12 (.c (.i 12))) 9 false,Zo 14 (.pick 9 (Zy true) 13)] []) [1,14] [1] Yv) (.seqa (.reg [Za 15 2 1,Zl 16 15,Zk 17 16,Zn 18 0] []) (.blk 0 (.loop QF)) [] [] ZR)))
def m63:aU A1 63 1 A63 V91=true:=by kernel_rfl
def A157:aq:=(Zs [Zo 1 (.box 2 0),Zo 2 (.alloc (.agg [.lst .u 1 [],.lst .u 4 []]))] (.seq (.drw [Zo 3 (.bsl 1 true []),Za 4 0 1,Zl 5 4,Zo 6 (.app 1 16 false 3 5),Zo 7 (.bsl 4 true []),Za 8 1 1,Zl 9 8,Zo 10 (.app 4 32 false 7 9),Zo 11 (.build [.lst .u 1 [],.lst .u 4 []] [(0,1,6),(1,1,10)]),Zw (.store 2 2 11)] []) .ret))
def m157:aU A1 157 1 A157 V37=true:=by kernel_rfl
def A108:aq:=(Zs [Zo 1 (.box 2 0),Zo 2 (.alloc (.agg [.i 0,.lst .u 1 []]))] (.seq (.drw [Zo 3 (.fdv [] 0 1),Zo 4 (.ldv [] 1 false 3),Zo 5 (.bsl 1 true []),Za 6 1 1,Zl 7 6,Zo 8 (.app 1 8 false 5 7),Zo 9 (.build [.i 0,.lst .u 1 []] [(0,1,4),(1,1,8)]),Zw (.store 2 2 9)] []) .ret))
def m108:aU A1 108 1 A108 V37=true:=by kernel_rfl
def Fa:aq:=(Zs [Zb 14 .lss 13 12] (.seq (.cond 14 .skip (.exit 0)) (.seq (.blk 1 (.seq (.reg [Zx 15 5 11 13,Zv 16 5 15,Zo 5 (.alloc (.agg [.i 0,.i 0,.lst .u 1 [],.i 0,.i 0])),Zw (.store 5 5 16)] [.f false 500000322 5 2]) (.drw [Zo 17 (.fdv [] 2 3),Zo 18 (.ldv [] 1 false 17),Za 19 0 5,Zl 20 19,Za 21 1 5,Zv 22 2 21,Zo 23 (.call 108 [22]),Za 24 3 5,Zv 25 2 24,Zo 26 (.build [.i 0,.i 0,.lst .u 1 [],.i 0,.i 0] [(0,1,20),(1,2,23),(3,2,25)]),Zo 27 (.bsm 5 [26]),Zo 28 (.app 5 56 true 18 27),Za 29 2 3,Zw (.store 1 29 28)] [.f false 500000194 3 2]))) (.reg [Zd 30 .add 13 1,Zm 13 30] []))))
def YJ:aq:=(.seq (.reg [Zv 31 3 3,Zw (.store 3 2 31)] [.f false 500000128 2 0,.f false 500000129 2 1,.f false 500000130 2 2]) .ret)
def A98:aq:=(Zs [Zo 1 (.box 3 0),Zo 2 (.alloc (.agg [.lst .u 1 [],.lst .u 4 [],.lst .u 5 []]))] (.seq (.reg [Za 6 0 1,Zv 7 2 6,Zo 8 (.call 157 [7]),Zo 9 (.build [.lst .u 1 [],.lst .u 4 [],.lst .u 5 []] [(0,2,8)]),Zo 3 (.alloc (.agg [.lst .u 1 [],.lst .u 4 [],.lst .u 5 []])),Zw (.store 3 3 9)] [.f false 500000192 3 0,.f false 500000193 3 1,.f false 500000194 3 2]) (.seqa (.reg [Za 10 2 1,Zl 11 10,Zk 12 11,Zn 13 0] []) (.blk 0 (.loop Fa)) [2,3] [2,3,500000192,500000193,500000194] YJ)))
def m98:aU A1 98 1 A98 V26=true:=by kernel_rfl
def A142:aq:=(.seq (.reg [Zo 2 (.mv (.c (.lst .u 1 [])))] [.s 2]) (.seq (.reg [Zo 3 (.bsl 1 false []),Zm 4 0,Zo 5 (.app 1 8 false 3 4),Zm 2 5] [.s 2]) .ret))
def m142:aU A1 142 1 A142 V91=true:=by kernel_rfl
def A77:aq:=(Zs [Zo 1 (.box 5 0),Zo 2 (.alloc (.agg [.lst .u 1 [],.lst .u 4 [],.lst .u 5 [],.lst .u 5 [],.lst .u 1 []]))] (.seq (.drw [Za 3 0 1,Zv 4 3 3,Zo 5 (.call 98 [4]),Za 6 3 1,Zl 7 6,Zo 8 (.build [.lst .u 1 [],.lst .u 4 [],.lst .u 5 []] [(2,1,7)]),Zo 9 (.call 98 [8]),Zo 10 (.fld 2 1 false 9),Za 11 4 1,Zl 12 11,Zo 13 (.call 142 [12]),Zo 14 (.build [.lst .u 1 [],.lst .u 4 [],.lst .u 5 [],.lst .u 5 [],.lst .u 1 []] [(0,3,5),(3,1,10),(4,1,13)]),Zw (.store 5 2 14)] []) .ret))
def m77:aU A1 77 1 A77 Av=true:=by kernel_rfl
def A27:aq:=(Zs [Zo 1 (.box 3 0),Zo 2 (.alloc (.agg [.lst .u 1 [],.lst .u 4 [],.lst .u 5 [],.lst .u 5 [],.lst .u 1 []])),Zh 3 false] (.seq (Zs [Zv 4 3 1,Zo 5 (.call 63 [4]),Zo 6 (.un .not 5)] (.cond 6 (Zs [Zo 7 (.build [.lst .u 1 [],.lst .u 4 [],.lst .u 5 [],.lst .u 5 [],.lst .u 1 []] []),Zw (.store 5 2 7),Zh 3 false] .ret) .skip)) (Zs [Zv 8 3 1,Za 9 2 1,Zl 10 9,Zo 11 (.build [.lst .u 1 [],.lst .u 4 [],.lst .u 5 [],.lst .u 5 [],.lst .u 1 []] [(0,3,8),(3,1,10),(4,1,(.c (.lst .u 1 [])))]),Zo 12 (.call 77 [11]),Zw (.store 5 2 12),Zh 3 true] .ret)))
def m27:aU A1 27 1 A27 V25=true:=by kernel_rfl
def EL:aq:=(Zs [Zb 10 .lss 9 8] (.seq (.cond 10 .skip (.exit 0)) (.seq (.blk 1 (Zs [Zm 11 9,Zx 12 1 7 9,Zl 13 12,Zm 5 11,Zm 6 13] (Zs [Zm 14 6,Zm 15 1,Zd 16 .sub 15 1,Zo 17 (.call 132 [14,(.c (.i 0)),16]),Zo 18 (.un .not 17),Zm 19 18,Zg 20 (.mv 5) 19 false,Zg 21 (.bin .gtr 20 (.c (.i 0))) 19 false,Zg 22 (.mv 21) 19 false,Zg 23 (.mv 0) 22 true,Zg 24 (.mv 5) 22 true,Zg 25 (.bin .sub 24 (.c (.i 1))) 22 true,Zg 26 (.idx 1 23 25) 22 true,Zg 27 (.load 1 false 26) 22 true,Zg 28 (.mv 6) 22 true,Zg 29 (.bin .geq 27 28) 22 true,Zg 30 (.pick 22 29 (Zy false)) 19 false,Zo 31 (.pick 19 (Zy true) 30)] (.cond 31 (Zs [Zh 4 false] .ret) .skip)))) (.reg [Zd 32 .add 9 1,Zm 9 32] []))))
def Zp:aq:=(Zs [Zh 4 true] .ret)
def A64:aq:=(Zs [Zh 4 false] (.seqa (.reg [Zm 7 0,Zk 8 7,Zn 9 0] []) (.blk 0 (.loop EL)) [] [] Zp))
def m64:aU A1 64 2 A64 V85=true:=by kernel_rfl
def A134:aq:=(Zs [Zo 2 (.box 5 0),Zh 3 false] (Zs [Za 4 0 2,Zl 5 4,Zl 6 1,Zb 7 .eql 5 6,Zm 3 7] .ret))
def m134:aU A1 134 2 A134 qB=true:=by kernel_rfl
def A67:aq:=(Zs [Zo 2 (.box 5 0),Zo 3 (.box 1 1),Zn 4 0] (Zs [Za 5 3 2,Zl 6 5,Zo 7 (.mkf 134 [3]),Zo 8 (.call 133 [6,7]),Zm 4 8] .ret))
def m67:aU A1 67 2 A67 V85=true:=by kernel_rfl
def A69:aq:=(Zs [Zo 2 (.box 2 0),Zo 3 (.box 2 1),Zn 4 0] (.seq (.reg [Zv 8 2 2,Zv 9 2 3,Zo 10 (.call 135 [8,9]),Zm 7 10,Ze 11 7 0,Ze 12 7 1,Zm 5 11,Zm 6 12] [.s 5]) (Zs [Zm 13 5,Zm 14 5,Zk 15 14,Zd 16 .sub 15 1,Zx 17 1 13 16,Zl 18 17,Zm 4 18] .ret)))
def m69:aU A1 69 2 A69 V85=true:=by kernel_rfl
def aai:aq:=(.cond 22 (Zs [Zh 4 true] .ret) .skip)
def A66:aq:=(Zs [Zo 3 (.box 5 0),Zh 4 false] (Zs [Zv 7 5 1,Za 8 0 3,Zl 9 8,Zo 10 (.call 67 [7,9]),Zm 5 10] (.seq (.seqr (.reg [Zm 11 5,Zd 12 .lss 11 0,Zm 13 12,Zg 14 (.fad 1 3) 13 false,Zg 15 (.fad 1 14) 13 false,Zg 16 (.load 1 false 15) 13 false,Zg 17 (.fad 4 1) 13 false,Zg 18 (.load 1 false 17) 13 false,Zg 19 (.call 68 [16,18]) 13 false,Zg 20 (.len 19) 13 false,Zg 21 (.bin .gtr 20 (.c (.i 0))) 13 false,Zo 22 (.pick 13 (Zy true) 21)] []) [1,2,3,5,22] [3] aai) (Zs [Za 23 3 1,Zl 24 23,Zm 25 5,Zx 26 5 24 25,Zv 27 5 26,Zo 6 (.alloc (.agg [.i 0,.i 0,.lst .u 1 [],.i 0,.i 0])),Zw (.store 5 6 27)] (.seq (.drw [Za 28 1 6,Za 29 0 28,Zl 30 29,Za 31 1 3,Za 32 0 31,Zl 33 32,Zb 34 .neq 30 33,Zm 35 34,Zg 36 (.load 2 true 2) 35 false,Zg 37 (.fad 1 6) 35 false,Zg 38 (.load 2 true 37) 35 false,Zg 39 (.call 69 [36,38]) 35 false,Zg 40 (.load 2 true 2) 35 false,Zg 41 (.fad 1 3) 35 false,Zg 42 (.load 2 true 41) 35 false,Zg 43 (.call 69 [40,42]) 35 false,Zg 44 (.bin .neq 39 43) 35 false,Zo 45 (.pick 35 (Zy true) 44),Zm 46 45,Zg 47 (.fad 3 6) 46 false,Zg 48 (.fad 1 47) 46 false,Zg 49 (.load 1 false 48) 46 false,Zg 50 (.fad 3 3) 46 false,Zg 51 (.fad 1 50) 46 false,Zg 52 (.load 1 false 51) 46 false,Zg 53 (.bin .neq 49 52) 46 false,Zo 54 (.pick 46 (Zy true) 53),Zm 4 54] []) .ret)))))
def m66:aU A1 66 3 A66 V85=true:=by kernel_rfl
def Yz:aq:=(.cond 27 (Zs [Zh 2 false] .ret) .skip)
def A16:aq:=(Zs [Zo 1 (.box 5 0),Zh 2 false] (Zs [Za 4 0 1,Za 5 0 4,Zv 6 2 5,Zo 3 (.alloc (.agg [.lst .u 1 [],.lst .u 4 []])),Zw (.store 2 3 6)] (.seq (.seqr (.reg [Za 7 0 1,Zv 8 3 7,Zo 9 (.call 63 [8]),Zo 10 (.un .not 9),Zm 11 10,Zg 12 (.load 2 true 3) 11 false,Zg 13 (.fad 3 1) 11 false,Zg 14 (.load 1 false 13) 11 false,Zg 15 (.build [.lst .u 1 [],.lst .u 4 [],.lst .u 5 []] [(0,2,12),(2,1,14)]) 11 false,Zg 16 (.call 63 [15]) 11 false,Zg 17 (.un .not 16) 11 false,Zo 18 (.pick 11 (Zy true) 17),Zm 19 18,Zg 20 (.fad 4 1) 19 false,Zg 21 (.load 1 false 20) 19 false,Zg 22 (.fad 1 3) 19 false,Zg 23 (.load 1 false 22) 19 false,Zg 24 (.len 23) 19 false,Zg 25 (.call 64 [21,24]) 19 false,Zg 26 (.un .not 25) 19 false,Zo 27 (.pick 19 (Zy true) 26)] []) [1,3,27] [1,3] Yz) (Zs [Za 28 0 1,Za 29 2 28,Zl 30 29,Zo 31 (.mkf 66 [1,3]),Zo 32 (.call 65 [30,31]),Zo 33 (.un .not 32),Zm 2 33] .ret))))
def m16:aU A1 16 1 A16 V91=true:=by kernel_rfl
def A81:aq:=(Zs [Zo 2 (.box 5 0),Zh 4 false] (Zs [Zv 5 5 2,Zo 6 (.call 16 [5]),Zm 7 6,Zg 8 (.mv 1) 7 true,Zg 9 (.fad 0 2) 7 true,Zg 10 (.fad 0 9) 7 true,Zg 11 (.fad 1 10) 7 true,Zg 12 (.load 1 false 11) 7 true,Zg 13 (.len 12) 7 true,Zg 14 (.call 64 [8,13]) 7 true,Zo 15 (.pick 7 14 (Zy false)),Zm 4 15] .ret))
def m81:aU A1 81 2 A81 V85=true:=by kernel_rfl
def Ma:aq:=(.seq (.reg [Zo 4 (.mv (.c (.lst .u 1 [])))] [.s 4]) (.seq (Zs [Zm 5 1,Zd 6 .lss 5 0] (.cond 6 (.reg [Zo 7 (.bad),Zw (.bad)] []) .skip)) (.seq (Zs [Zm 8 1,Zm 9 0,Zo 10 (.capn 9),Zm 11 0,Zk 12 11,Zb 13 .sub 10 12,Zb 14 .sub 8 13,Zm 1 14] (Zs [Zm 15 1,Zd 16 .gtr 15 0] (.cond 16 (.reg [Zm 17 0,Zm 18 0,Zo 19 (.capn 18),Zo 20 (.slg 1 17 19),Zm 21 1,Zo 22 (.apz 1 (.i 0) 8 20 21),Zm 23 0,Zk 24 23,Zo 25 (.slc 1 22 none (some 24) none),Zm 0 25] [.s 0]) .skip))) (.seq (.reg [Zm 26 0,Zm 4 26] [.s 4]) .ret))))
def agj:aU A1 170 2 Ma V85=true:=by kernel_rfl
def DD:aq:=(Zs [Zb 12 .lss 11 10] (.seq (.cond 12 .skip (.exit 0)) (.seq (.blk 1 (.seq (.reg [Zx 13 1 9 11,Zl 14 13,Zm 5 14] [.s 5]) (Zs [Zm 15 3,Zm 16 5,Zk 17 16,Zb 18 .add 15 17,Zm 3 18] (Zs [Zm 19 3,Zd 20 .lss 19 0] (.cond 20 (.reg [Zo 21 (.bad),Zw (.bad)] []) .skip))))) (.reg [Zd 22 .add 11 1,Zm 11 22] []))))
def wQ:aq:=(Zs [Zb 28 .lss 27 26] (.seq (.cond 28 .skip (.exit 2)) (.seq (.blk 3 (.seq (.reg [Zx 29 1 25 27,Zl 30 29,Zm 8 30] [.s 8]) (.reg [Zm 31 6,Zm 32 8,Zo 33 (.app 1 8 false 31 32),Zm 6 33] [.s 6]))) (.reg [Zd 34 .add 27 1,Zm 27 34] []))))
def Sl:aq:=(.seq (.reg [Zm 35 6,Zm 2 35] [.s 2]) .ret)
def NS:aq:=(.seq (.reg [Zm 23 3,Zo 24 (.callM 170 [(.c (.lst .u 1 [])),23] []),Zm 6 24] [.s 6]) (.seqa (.reg [Zm 25 0,Zk 26 25,Zn 27 0] []) (.blk 2 (.loop wQ)) [6] [6] Sl))
def A110:aq:=(.seq (.reg [Zo 2 (.mv (.c (.lst .u 1 [])))] [.s 2]) (Zs [Zn 3 0] (.seqa (.reg [Zm 9 0,Zk 10 9,Zn 11 0] []) (.blk 0 (.loop DD)) [0,3] [] NS)))
def m110:aU A1 110 1 A110 V91=true:=by kernel_rfl
def Sv:aq:=(.seq (.reg [Zo 3 (.box 5 0),Zh 4 false] [.f true 470000064 1000000001 0]) (Zs [Za 6 1 3,Za 7 1 6,Zl 8 7,Zl 9 1,Zo 10 (.call 68 [8,9]),Zk 11 10,Zd 12 .gtr 11 0,Zm 5 12] (.seq (Zs [Zm 13 5] (.cond 13 (.reg [Zl 14 2,Za 15 0 3,Zl 16 15,Zo 17 (.bsl 1 false [16]),Zo 18 (.app 1 8 true 14 17),Zw (.store 1 2 18)] [.f true 470000064 1000000001 0]) .skip)) (Zs [Zm 19 5,Zm 4 19] .ret))))
def afv:aU A1 114 3 Sv V85=true:=by kernel_rfl
def rO:aq:=(Zs [Zb 9 .lss 8 7] (.seq (.cond 9 .skip (.exit 0)) (.seq (.blk 1 (Zs [Zm 10 8,Zm 5 10] (.seq (.reg [Zm 11 1,Zm 12 0,Zm 13 5,Zx 14 5 12 13,Zv 15 5 14,Zo 16 (.dynM 11 [15] [1000000001,1000000002,470000128])] [.f true 470000128 1000000002 0]) (.cond 16 (Zs [Zm 17 5,Zm 4 17] .ret) .skip)))) (.reg [Zd 18 .add 8 1,Zm 8 18] []))))
def AM:aq:=(Zs [Zn 4 (-1)] .ret)
def OO:aq:=(.seq (.reg [Zn 4 0] [.f true 470000128 1000000002 0]) (.seqa (.reg [Zm 6 0,Zk 7 6,Zn 8 0] []) (.blk 0 (.loop rO)) [] [470000128,1000000000,1000000001,1000000002] AM))
def ael:aU A1 133 2 OO V85=true:=by kernel_rfl
def rF:aq:=(.seq (Zs [Zm 16 6,Zm 17 0,Zk 18 17,Zb 19 .lss 16 18] (.cond 19 .skip (.exit 0))) (.seq (.blk 1 (Zs [Zm 22 0,Zm 23 6,Zx 24 5 22 23,Zv 25 5 24,Zo 7 (.alloc (.agg [.i 0,.i 0,.lst .u 1 [],.i 0,.i 0])),Zw (.store 5 7 25)] (.seq (.reg [Zm 26 1,Zv 27 5 7,Zo 28 (.dynM 26 [27] [1000000001,1000000002,470000128]),Zo 29 (.un .not 28)] [.f true 470000128 1000000002 0]) (.cond 29 (Zs [Zm 30 0,Zm 31 5,Zv 32 5 7,Zx 33 5 30 31,Zw (.store 5 33 32)] (.reg [Zm 34 5,Zd 35 .add 34 1,Zm 5 35] [])) .skip)))) (.reg [Zm 20 6,Zd 21 .add 20 1,Zm 6 21] [])))
def Ay:aq:=(Zs [Zm 36 0,Zm 37 5,Zo 38 (.slc 5 36 (some 37) none none),Zw (.clr 5 (.agg [.i 0,.i 0,.sc (.slice none 0 0),.i 0,.i 0]) 38)] (.seq (.reg [Zm 39 0,Zm 40 5,Zo 41 (.slc 5 39 none (some 40) none),Zm 4 41] [.r 4]) .ret))
def Rd:aq:=(.seq (.reg [Zo 4 (.mv (.c (.lst .u 5 [])))] [.r 4,.f true 470000128 1000000002 0]) (.seq (.reg [Zm 8 0,Zm 9 1,Zo 10 (.callM 133 [8,9] [1000000000,1000000001,1000000002,470000128]),Zm 5 10] [.f true 470000128 1000000002 0]) (.seq (Zs [Zm 11 5,Zd 12 .eql 11 (-1)] (.cond 12 (.seq (.reg [Zm 13 0,Zm 4 13] [.r 4]) .ret) .skip)) (.seqa (.reg [Zm 14 5,Zd 15 .add 14 1,Zm 6 15] []) (.blk 0 (.loop rF)) [0,5] [470000128,1000000000,1000000001,1000000002] Ay))))
def adq:aU A1 113 2 Rd V85=true:=by kernel_rfl
def A48:aq:=(.seq (.reg [Zo 2 (.box 5 0),Zo 3 (.box 1 1),Zo 4 (.alloc (.agg [.lst .u 1 [],.lst .u 4 [],.lst .u 5 [],.lst .u 5 [],.lst .u 1 []])),Zo 5 (.mv (.c (.lst .u 1 []))),Zh 6 false] [.s 5]) (.seq (Zs [Zv 9 5 2,Zl 10 3,Zo 11 (.call 81 [9,10]),Zo 12 (.un .not 11)] (.cond 12 (.seq (.reg [Zo 13 (.build [.lst .u 1 [],.lst .u 4 [],.lst .u 5 [],.lst .u 5 [],.lst .u 1 []] []),Zw (.store 5 4 13),Zo 5 (.mv (.c (.lst .u 1 []))),Zh 6 false] [.s 5]) .ret) .skip)) (Zs [Zv 14 5 2,Zo 15 (.call 77 [14]),Zo 16 (.bsl 1 false []),Zo 7 (.alloc (.agg [.lst .u 1 [],.lst .u 4 [],.lst .u 5 [],.lst .u 5 [],.lst .u 1 []])),Zo 8 (.alloc (.lst .u 1 [])),Zw (.store 5 7 15),Zw (.store 1 8 16)] (Zs [Za 17 4 2,Zl 18 17,Zl 19 3,Zo 20 (.bsl 1 false [18,19]),Zo 21 (.call 110 [20]),Za 22 4 7,Zw (.store 1 22 21)] (Zs [Za 23 4 7,Zl 24 23,Zo 25 (.callM 111 [24] [21])] (Zs [Za 26 4 7,Zl 27 26,Zo 28 (.callM 112 [27] [21]),Za 29 4 7,Zw (.store 1 29 28)] (Zs [Za 30 0 7,Za 31 2 30,Zl 32 31,Zo 33 (.mkf 114 [3,8]),Zo 34 (.callM 113 [32,33] [2015,3,8,16]),Za 35 0 7,Za 36 2 35,Zw (.store 1 36 34)] (.seq (.drw [Zv 37 5 7,Zo 38 (.ldv [4] 1 false 8),Zw (.stw 4 5 4 37),Zm 5 38,Zh 6 true] [.s 5]) .ret))))))))
def V48:List RV:=[.c 4 5 true,.t 5,.t 6]
def m48:aU A1 48 2 A48 V48=true:=by kernel_rfl
def A83:aq:=(Zs [Zh 3 false] (Zs [Zl 4 1,Zm 5 0,Zo 6 (.call 84 [4,5]),Zm 3 6] .ret))
def m83:aU A1 83 2 A83 qB=true:=by kernel_rfl
def BD:aq:=(Zs [Zb 9 .lss 8 7] (.seq (.cond 9 .skip (.exit 0)) (.seq (.blk 1 (Zs [Zm 10 8,Zm 5 10] (Zs [Zm 11 1,Zm 12 0,Zm 13 5,Zx 14 1 12 13,Zl 15 14,Zo 16 (.dyn 11 [15])] (.cond 16 (Zs [Zm 17 5,Zm 4 17] .ret) .skip)))) (.reg [Zd 18 .add 8 1,Zm 8 18] []))))
def QA:aq:=(Zs [Zn 4 (-1)] .ret)
def A145:aq:=(Zs [Zn 4 0] (.seqa (.reg [Zm 6 0,Zk 7 6,Zn 8 0] []) (.blk 0 (.loop BD)) [] [] QA))
def m145:aU A1 145 2 A145 V85=true:=by kernel_rfl
def qK:aq:=(.seq (Zs [Zm 16 6,Zm 17 0,Zk 18 17,Zb 19 .lss 16 18] (.cond 19 .skip (.exit 0))) (.seq (.blk 1 (Zs [Zm 22 0,Zm 23 6,Zx 24 1 22 23,Zl 25 24,Zm 7 25] (Zs [Zm 26 1,Zm 27 7,Zo 28 (.dyn 26 [27]),Zo 29 (.un .not 28)] (.cond 29 (Zs [Zm 30 0,Zm 31 5,Zm 32 7,Zx 33 1 30 31,Zw (.store 1 33 32)] (.reg [Zm 34 5,Zd 35 .add 34 1,Zm 5 35] [])) .skip)))) (.reg [Zm 20 6,Zd 21 .add 20 1,Zm 6 21] [])))
def EV:aq:=(Zs [Zm 36 0,Zm 37 5,Zo 38 (.slc 1 36 (some 37) none none),Zw (.clr 1 (.i 0) 38)] (.seq (.reg [Zm 39 0,Zm 40 5,Zo 41 (.slc 1 39 none (some 40) none),Zm 4 41] [.s 4]) .ret))
def YA:aq:=(.seq (.reg [Zo 4 (.mv (.c (.lst .u 1 [])))] [.s 4]) (Zs [Zm 8 0,Zm 9 1,Zo 10 (.call 145 [8,9]),Zm 5 10] (.seq (Zs [Zm 11 5,Zd 12 .eql 11 (-1)] (.cond 12 (.seq (.reg [Zm 13 0,Zm 4 13] [.s 4]) .ret) .skip)) (.seqa (.reg [Zm 14 5,Zd 15 .add 14 1,Zm 6 15] []) (.blk 0 (.loop qK)) [0,5] [1000000000,1000000001] EV))))
def ajh:aU A1 82 2 YA V85=true:=by kernel_rfl
def A33:aq:=(Zs [Zo 2 (.box 5 0),Zo 3 (.box 1 1),Zo 4 (.alloc (.agg [.lst .u 1 [],.lst .u 4 [],.lst .u 5 [],.lst .u 5 [],.lst .u 1 []])),Zh 5 false] (.seq (Zs [Zv 7 5 2,Zl 8 3,Zo 9 (.call 81 [7,8]),Zo 10 (.un .not 9)] (.cond 10 (Zs [Zo 11 (.build [.lst .u 1 [],.lst .u 4 [],.lst .u 5 [],.lst .u 5 [],.lst .u 1 []] []),Zw (.store 5 4 11),Zh 5 false] .ret) .skip)) (Zs [Zv 12 5 2,Zo 13 (.call 77 [12]),Zo 6 (.alloc (.agg [.lst .u 1 [],.lst .u 4 [],.lst .u 5 [],.lst .u 5 [],.lst .u 1 []])),Zw (.store 5 6 13)] (Zs [Za 14 4 6,Zl 15 14,Zo 16 (.mkf 83 [3]),Zo 17 (.callM 82 [15,16] [4013,3]),Za 18 4 6,Zw (.store 1 18 17)] (Zs [Zv 19 5 6,Zw (.store 5 4 19),Zh 5 true] .ret)))))
def m33:aU A1 33 2 A33 jx=true:=by kernel_rfl
def A186:aq:=(Zs [Zo 2 (.box 5 0),Zh 3 false] (Zs [Za 4 0 2,Zl 5 4,Zl 6 1,Zb 7 .eql 5 6,Zm 3 7] .ret))
def m186:aU A1 186 2 A186 qB=true:=by kernel_rfl
def A137:aq:=(Zs [Zo 2 (.box 3 0),Zo 3 (.box 1 1),Zn 4 0] (Zs [Za 5 2 2,Zl 6 5,Zo 7 (.mkf 186 [3]),Zo 8 (.call 133 [6,7]),Zm 4 8] .ret))
def m137:aU A1 137 2 A137 V85=true:=by kernel_rfl
def Fd:aq:=(Zs [Zb 11 .lss 10 9] (.seq (.cond 11 .skip (.exit 0)) (.seq (.blk 1 (Zs [Zx 12 5 8 10,Zv 13 5 12,Zo 5 (.alloc (.agg [.i 0,.i 0,.lst .u 1 [],.i 0,.i 0])),Zw (.store 5 5 13)] (Zs [Za 14 0 1,Zv 15 3 14,Za 16 0 5,Zl 17 16,Zo 18 (.call 137 [15,17]),Zd 19 .lss 18 0] (.cond 19 (.reg [Zm 20 3,Za 21 0 5,Zl 22 21,Zo 23 (.bsl 1 false [22]),Zo 24 (.app 1 8 true 20 23),Zm 3 24] [.s 3]) .skip)))) (.reg [Zd 25 .add 10 1,Zm 10 25] []))))
def YB:aq:=(.seq (.reg [Zm 26 3,Zm 2 26] [.s 2]) .ret)
def A72:aq:=(.seq (.reg [Zo 1 (.box 5 0),Zo 2 (.mv (.c (.lst .u 1 [])))] [.s 2]) (.seq (.reg [Zo 6 (.bsl 1 false []),Zm 3 6] [.s 3]) (.seqa (.reg [Za 7 3 1,Zl 8 7,Zk 9 8,Zn 10 0] []) (.blk 0 (.loop Fd)) [3] [3] YB)))
def m72:aU A1 72 1 A72 V91=true:=by kernel_rfl
def A168:aq:=(Zs [Zo 2 (.box 5 0),Zh 3 false] (Zs [Za 4 0 2,Zl 5 4,Za 6 0 1,Zl 7 6,Zb 8 .neq 5 7,Zm 9 8,Zg 10 (.load 5 true 2) 9 true,Zg 11 (.load 5 true 1) 9 true,Zg 12 (.call 131 [10,11]) 9 true,Zo 13 (.pick 9 12 (Zy false)),Zm 3 13] .ret))
def m168:aU A1 168 2 A168 qB=true:=by kernel_rfl
def A107:aq:=(Zs [Zo 2 (.box 5 0),Zo 3 (.box 5 1),Zh 4 false] (Zs [Za 5 1 3,Za 6 1 5,Zl 7 6,Za 8 4 2,Zl 9 8,Zo 10 (.call 68 [7,9]),Zk 11 10,Zd 12 .eql 11 0,Zm 13 12,Zg 14 (.fad 0 2) 13 true,Zg 15 (.fad 2 14) 13 true,Zg 16 (.load 1 false 15) 13 true,Zg 17 (.mkf 168 [3]) 13 true,Zg 18 (.call 65 [16,17]) 13 true,Zg 19 (.un .not 18) 13 true,Zo 20 (.pick 13 19 (Zy false)),Zm 4 20] .ret))
def m107:aU A1 107 2 A107 V85=true:=by kernel_rfl
def wE:aq:=(.seq (.seq (.drw [Zm 9 6,Za 10 2 2,Zl 11 10,Zk 12 11,Zb 13 .lss 9 12,Zm 14 13,Zg 15 (.fad 2 2) 14 true,Zg 16 (.load 1 false 15) 14 true,Zg 17 (.mv 6) 14 true,Zg 18 (.idx 5 16 17) 14 true,Zg 19 (.fad 0 18) 14 true,Zg 20 (.load 1 false 19) 14 true,Zg 21 (.fad 0 3) 14 true,Zg 22 (.load 1 false 21) 14 true,Zg 23 (.bin .lss 20 22) 14 true,Zo 24 (.pick 14 23 (Zy false))] []) (.cond 24 .skip (.exit 0))) (.blk 1 (.reg [Zm 25 6,Zd 26 .add 25 1,Zm 6 26] [])))
def Rk:aq:=(Zs [Za 27 1 3,Zv 28 2 27,Zo 29 (.call 108 [28]),Za 30 1 3,Zw (.store 2 30 29)] (Zs [Za 31 2 5,Zl 32 31,Zm 33 6,Zv 34 5 3,Zo 35 (.bsl 5 false [34]),Zo 36 (.callM 214 [32,33,35] [2008,35]),Za 37 2 5,Zw (.store 1 37 36)] (Zs [Zv 38 3 5,Zw (.store 3 4 38)] .ret)))
def A174:aq:=(Zs [Zo 2 (.box 3 0),Zo 3 (.box 5 1),Zo 4 (.alloc (.agg [.lst .u 1 [],.lst .u 4 [],.lst .u 5 []]))] (Zs [Zv 7 3 2,Zo 8 (.call 98 [7]),Zo 5 (.alloc (.agg [.lst .u 1 [],.lst .u 4 [],.lst .u 5 []])),Zw (.store 3 5 8),Zn 6 0] (.seqr (.blk 0 (.loop wE)) [3,4,5,6] [3,4,5,8,1008,2008] Rk)))
def m174:aU A1 174 2 A174 fy=true:=by kernel_rfl
def A239:aq:=(Zs [Zh 3 false] (Zs [Zm 4 0,Za 5 0 1,Zl 6 5,Zk 7 6,Zd 8 .sub 7 1,Zo 9 (.call 132 [4,(.c (.i 0)),8]),Zo 10 (.un .not 9),Zm 3 10] .ret))
def m239:aU A1 239 2 A239 qB=true:=by kernel_rfl
def A238:aq:=(Zs [Zh 4 false] (Zs [Zm 5 0,Zm 6 1,Zo 7 (.call 145 [5,6]),Zd 8 .geq 7 0,Zm 4 8] .ret))
def m238:aU A1 238 2 A238 V85=true:=by kernel_rfl
def A215:aq:=(Zs [Zo 2 (.box 2 0),Zh 4 false] (Zs [Zv 5 2 2,Zo 6 (.call 128 [5]),Zm 7 6,Zg 8 (.mv 1) 7 true,Zg 9 (.mkf 239 [2]) 7 true,Zg 10 (.call 238 [8,9]) 7 true,Zg 11 (.un .not 10) 7 true,Zo 12 (.pick 7 11 (Zy false)),Zm 4 12] .ret))
def m215:aU A1 215 2 A215 V85=true:=by kernel_rfl
def A241:aq:=(.seq (.reg [Zo 2 (.mv (.c (.lst .u 1 [])))] [.s 2]) (.seq (Zs [Zm 3 0,Zo 4 (.isn false 3)] (.cond 4 (.seq (.reg [Zo 2 (.mv (.c (.lst .u 1 [])))] [.s 2]) .ret) .skip)) (.seq (.reg [Zo 5 (.bsl 1 false []),Zm 6 0,Zo 7 (.app 1 8 false 5 6),Zm 2 7] [.s 2]) .ret)))
def m241:aU A1 241 1 A241 V91=true:=by kernel_rfl
def Bb:aq:=(.cond 43 (.drw [Zo 44 (.ldv [] 1 false 7),Zm 45 13,Zm 46 1,Zm 47 13,Zo 48 (.bin .shl (.c (.i 1)) 47),Zb 49 .or 46 48,Zm 50 2,Zm 51 2,Zk 52 51,Zm 53 2,Zk 54 53,Zo 55 (.slc 1 50 none (some 52) (some 54)),Zm 56 11,Zo 57 (.bsl 1 true [56]),Zo 58 (.app 1 8 true 55 57),Zo 59 (.dynM 44 [45,49,58] [58,1000000001,1000000002,470000128,1000000004,1000000005,1000000006])] [.f true 470000128 1000000002 0]) .skip)
def tv:aq:=(Zs [Zb 28 .lss 27 26] (.seq (.cond 28 .skip (.exit 0)) (.seq (.blk 1 (Zs [Zm 29 27,Zx 30 4 25 27,Zv 31 4 30,Zo 12 (.alloc (.agg [.i 0,.i 0,.i 0,.i 0])),Zm 11 29,Zw (.store 4 12 31)] (Zs [Zv 32 4 12,Zm 33 0,Zo 34 (.call 185 [32,33]),Zm 13 34] (.seqr (.reg [Zm 35 13,Zd 36 .geq 35 0,Zm 37 36,Zg 38 (.mv 1) 37 true,Zg 39 (.mv 13) 37 true,Zg 40 (.bin .shr 38 39) 37 true,Zg 41 (.bin .and 40 (.c (.i 1))) 37 true,Zg 42 (.bin .eql 41 (.c (.i 0))) 37 true,Zo 43 (.pick 37 42 (Zy false))] []) [0,1,2,7,11,13,25,26,27,43] [470000128,1000000001,1000000002,1000000004,1000000005,1000000006] Bb)))) (.reg [Zd 60 .add 27 1,Zm 27 60] []))))
def SG:aq:=(.seq (.seq (.reg [Zm 14 0,Zl 15 3,Zb 16 .eql 14 15] [.z 2,.f true 470000128 1000000002 0]) (.cond 16 (.seq (.drw [Zo 17 (.ldv [] 1 false 4),Zl 18 5,Zm 19 2,Zo 20 (.call 241 [19]),Zo 21 (.build [.i 0,.lst .u 1 []] [(0,1,18),(1,1,20)]),Zo 22 (.bsm 2 [21]),Zo 23 (.app 2 32 true 17 22),Zw (.store 1 4 23)] [.f true 470000128 1000000002 0]) .ret) .skip)) (Zs [Za 24 1 6,Zl 25 24,Zk 26 25,Zn 27 0] (.blk 0 (.loop tv))))
def act:aU A1 240 8 SG dB=true:=by kernel_rfl
def zi:aq:=(.cond 43 (.drw [Zo 44 (.ldv [] 1 false 7),Zm 45 13,Zm 46 1,Zm 47 13,Zo 48 (.bin .shl (.c (.i 1)) 47),Zb 49 .or 46 48,Zm 50 2,Zm 51 2,Zk 52 51,Zm 53 2,Zk 54 53,Zo 55 (.slc 1 50 none (some 52) (some 54)),Zm 56 11,Zo 57 (.bsl 1 true [56]),Zo 58 (.app 1 8 true 55 57),Zo 59 (.dynM 44 [45,49,58] [58,1000000000,1000000001,470000064,1000000003,1000000004,1000000005])] [.f true 470000064 1000000001 0]) .skip)
def rB:aq:=(Zs [Zb 28 .lss 27 26] (.seq (.cond 28 .skip (.exit 0)) (.seq (.blk 1 (Zs [Zm 29 27,Zx 30 4 25 27,Zv 31 4 30,Zo 12 (.alloc (.agg [.i 0,.i 0,.i 0,.i 0])),Zm 11 29,Zw (.store 4 12 31)] (Zs [Zv 32 4 12,Zm 33 0,Zo 34 (.call 185 [32,33]),Zm 13 34] (.seqr (.reg [Zm 35 13,Zd 36 .geq 35 0,Zm 37 36,Zg 38 (.mv 1) 37 true,Zg 39 (.mv 13) 37 true,Zg 40 (.bin .shr 38 39) 37 true,Zg 41 (.bin .and 40 (.c (.i 1))) 37 true,Zg 42 (.bin .eql 41 (.c (.i 0))) 37 true,Zo 43 (.pick 37 42 (Zy false))] []) [0,1,2,7,11,13,25,26,27,43] [470000064,1000000000,1000000001,1000000003,1000000004,1000000005] zi)))) (.reg [Zd 60 .add 27 1,Zm 27 60] []))))
def QU:aq:=(.seq (.seq (.reg [Zm 14 0,Zl 15 3,Zb 16 .eql 14 15] [.z 2,.f true 470000064 1000000001 0]) (.cond 16 (.seq (.drw [Zo 17 (.ldv [] 1 false 4),Zl 18 5,Zm 19 2,Zo 20 (.call 241 [19]),Zo 21 (.build [.i 0,.lst .u 1 []] [(0,1,18),(1,1,20)]),Zo 22 (.bsm 2 [21]),Zo 23 (.app 2 32 true 17 22),Zw (.store 1 4 23)] [.f true 470000064 1000000001 0]) .ret) .skip)) (Zs [Za 24 1 6,Zl 25 24,Zk 26 25,Zn 27 0] (.blk 0 (.loop rB))))
def aay:aU A1 240 8 QU dB=true:=by kernel_rfl
def xy:aq:=(Zs [Zb 12 .lss 11 10] (.seq (.cond 12 .skip (.exit 0)) (.seq (.blk 1 (Zs [Zx 13 1 9 11,Zl 14 13,Zm 7 14] (.reg [Zm 15 5,Za 16 1 2,Zl 17 16,Zm 18 7,Zx 19 4 17 18,Za 20 2 19,Zl 21 20,Zb 22 .add 15 21,Zm 5 22] []))) (.reg [Zd 23 .add 11 1,Zm 11 23] []))))
def Re:aq:=(Zs [Zm 24 5,Zm 4 24] .ret)
def A252:aq:=(Zs [Zo 2 (.box 2 0),Zo 3 (.box 2 1),Zn 4 0] (Zs [Zn 5 0] (.seqa (.reg [Za 8 1 3,Zl 9 8,Zk 10 9,Zn 11 0] []) (.blk 0 (.loop xy)) [5] [] Re)))
def m252:aU A1 252 2 A252 V85=true:=by kernel_rfl
def CK:aq:=(Zs [Zb 12 .lss 11 10] (.seq (.cond 12 .skip (.exit 0)) (.seq (.blk 1 (Zs [Zm 13 11,Zx 14 1 9 11,Zl 15 14,Zm 5 13,Zm 6 15] (.seq (Zs [Zm 16 5,Zm 17 1,Zk 18 17,Zb 19 .geq 16 18] (.cond 19 (Zs [Zn 4 1] .ret) .skip)) (Zs [Zm 20 1,Zm 21 5,Zx 22 1 20 21,Zl 23 22,Zm 7 23] (Zs [Zm 24 6,Zm 25 7,Zo 26 (.call 223 [24,25]),Zm 8 26] (Zs [Zm 27 8,Zd 28 .neq 27 0] (.cond 28 (Zs [Zm 29 8,Zm 4 29] .ret) .skip))))))) (.reg [Zd 30 .add 11 1,Zm 11 30] []))))
def QV:aq:=(.seq (Zs [Zm 31 0,Zk 32 31,Zm 33 1,Zk 34 33,Zb 35 .lss 32 34] (.cond 35 (Zs [Zn 4 (-1)] .ret) .skip)) (Zs [Zn 4 0] .ret))
def A253:aq:=(Zs [Zn 4 0] (.seqa (.reg [Zm 9 0,Zk 10 9,Zn 11 0] []) (.blk 0 (.loop CK)) [0,1] [] QV))
def m253:aU A1 253 2 A253 V85=true:=by kernel_rfl
def A244:aq:=(Zs [Zo 3 (.box 2 0),Zo 4 (.box 2 1),Zo 5 (.box 2 2),Zn 6 0] (.seq (.drw [Zv 7 2 3,Zv 8 2 4,Zo 9 (.call 252 [7,8]),Zv 10 2 3,Zv 11 2 5,Zo 12 (.call 252 [10,11]),Zo 13 (.call 223 [9,12]),Za 14 1 4,Zl 15 14,Zk 16 15,Za 17 1 5,Zl 18 17,Zk 19 18,Zo 20 (.call 223 [16,19]),Za 21 1 4,Zl 22 21,Za 23 1 5,Zl 24 23,Zo 25 (.call 253 [22,24]),Za 26 0 4,Zl 27 26,Za 28 0 5,Zl 29 28,Zo 30 (.call 223 [27,29]),Zo 31 (.bsl 1 true [13,20,25,30]),Zo 32 (.call 222 [31]),Zm 6 32] []) .ret))
def m244:aU A1 244 3 A244 jw=true:=by kernel_rfl
def A243:aq:=(Zs [Zo 3 (.box 2 0),Zo 4 (.box 2 1),Zn 5 0] (Zs [Zv 6 2 2,Zv 7 2 3,Zv 8 2 4,Zo 9 (.call 244 [6,7,8]),Zm 5 9] .ret))
def V243:List RV:=[.t 5]
def m243:aU A1 243 3 A243 V243=true:=by kernel_rfl
def QR:aq:=(Zs [Zl 19 7,Zo 20 (.mkf 243 [3]),Zo 21 (.callM 242 [19,20] [500000448,3])] (.seq (.reg [Zl 22 7,Zm 6 22] [.s 6]) .ret))
def A216:aq:=(.seq (.reg [Zo 3 (.box 2 0),Zo 4 (.box 1 1),Zo 5 (.box 1 2),Zo 6 (.mv (.c (.lst .u 2 [])))] [.s 6]) (.seq (.reg [Zo 9 (.bsl 2 false []),Zo 7 (.alloc (.lst .u 2 [])),Zw (.store 1 7 9)] [.f false 500000448 7 0]) (Zs [Zo 8 (.alloc (.sc .nilFunc))] (Zs [Zo 10 (.mkf 240 [5,7,4,3,8]),Zw (.store 1 8 10)] (.seqr (Zs [Zl 11 4,Zl 12 5,Zb 13 .neq 11 12] (.cond 13 (.drw [Zl 14 8,Zl 15 4,Zl 16 4,Zo 17 (.bin .shl (.c (.i 1)) 16),Zo 18 (.dynM 14 [15,17,(.c (.lst .u 1 []))] [5,7,500000448,4,3,8])] [.f false 500000448 7 0]) .skip)) [3,7] [3,7,500000448] QR)))))
def m216:aU A1 216 3 A216 jw=true:=by kernel_rfl
def Qc:aq:=(.cond 19 (.seq (.reg [Zo 6 (.mv (.c (.lst .u 2 []))),Zh 7 false] [.s 6]) .ret) .skip)
def A175:aq:=(.seq (.reg [Zo 3 (.box 2 0),Zo 6 (.mv (.c (.lst .u 2 []))),Zh 7 false] [.s 6]) (.seq (.seqr (.reg [Zv 9 2 3,Zm 10 1,Zm 11 2,Zo 12 (.bsl 1 false [10,11]),Zo 13 (.call 215 [9,12]),Zo 14 (.un .not 13),Zm 15 14,Zg 16 (.mv 1) 15 false,Zg 17 (.mv 2) 15 false,Zg 18 (.bin .eql 16 17) 15 false,Zo 19 (.pick 15 (Zy true) 18)] []) [1,2,3,19] [3] Qc) (.seq (.reg [Zv 20 2 3,Zm 21 1,Zm 22 2,Zo 23 (.call 216 [20,21,22]),Zm 8 23] [.s 8]) (.seq (Zs [Zm 24 8,Zk 25 24,Zd 26 .gtr 25 200] (.cond 26 (.seq (.reg [Zo 6 (.mv (.c (.lst .u 2 []))),Zh 7 false] [.s 6]) .ret) .skip)) (.seq (.reg [Zm 27 8,Zm 6 27,Zh 7 true] [.s 6]) .ret)))))
def m175:aU A1 175 3 A175 gv=true:=by kernel_rfl
def Du:aq:=(Zs [Zb 25 .lss 24 23] (.seq (.cond 25 .skip (.exit 2)) (.seq (.blk 3 (Zs [Zx 26 1 22 24,Zl 27 26,Zm 7 27] (.drw [Zm 28 3,Zm 29 7,Zx 30 1 28 29,Zl 31 30,Za 32 3 5,Zv 33 2 32,Zo 34 (.call 184 [33]),Zb 35 .or 31 34,Zx 36 1 28 29,Zw (.store 1 36 35)] []))) (.reg [Zd 37 .add 24 1,Zm 24 37] []))))
def LN:aq:=(.reg [Zd 38 .add 16 1,Zm 16 38] [])
def CY:aq:=(Zs [Zb 17 .lss 16 15] (.seq (.cond 17 .skip (.exit 0)) (.seqr (.blk 1 (Zs [Zx 18 5 14 16,Zv 19 5 18,Zo 5 (.alloc (.agg [.i 0,.i 0,.lst .u 1 [],.i 0,.i 0])),Zw (.store 5 5 19)] (Zs [Za 20 1 5,Za 21 1 20,Zl 22 21,Zk 23 22,Zn 24 0] (.blk 2 (.loop Du))))) [3,14,15,16] [3] LN)))
def OA:aq:=(.seq (.reg [Zm 39 3,Zm 2 39] [.s 2]) .ret)
def A219:aq:=(.seq (.reg [Zo 1 (.box 3 0),Zo 2 (.mv (.c (.lst .u 1 [])))] [.s 2]) (.seq (.reg [Za 8 0 1,Za 9 1 8,Zl 10 9,Zk 11 10,Zo 12 (.mks 1 (.i 0) 8 11 11),Zm 3 12] [.s 3]) (.seqa (.reg [Za 13 2 1,Zl 14 13,Zk 15 14,Zn 16 0] []) (.blk 0 (.loop CY)) [3] [3] OA)))
def m219:aU A1 219 1 A219 V91=true:=by kernel_rfl
def wJ:aq:=(Zs [Zb 15 .lss 14 13] (.seq (.cond 15 .skip (.exit 0)) (.seq (.blk 1 (Zs [Zx 16 1 12 14,Zl 17 16,Zm 8 17] (.reg [Zm 18 6,Zm 19 5,Zm 20 8,Zx 21 1 19 20,Zl 22 21,Zb 23 .or 18 22,Zm 6 23] []))) (.reg [Zd 24 .add 14 1,Zm 14 24] []))))
def KD:aq:=(Zs [Zm 25 6,Zm 4 25] .ret)
def A177:aq:=(Zs [Zo 2 (.box 3 0),Zo 3 (.box 2 1),Zn 4 0] (.seq (.reg [Zv 9 3 2,Zo 10 (.call 219 [9]),Zm 5 10,Zn 6 0] [.s 5]) (.seqa (.reg [Za 11 1 3,Zl 12 11,Zk 13 12,Zn 14 0] []) (.blk 0 (.loop wJ)) [6] [] KD)))
def m177:aU A1 177 2 A177 V85=true:=by kernel_rfl
def A245:aq:=(Zs [Zh 2 false] (Zs [Zm 3 0,Zo 4 (.call 132 [3,(.c (.i 0)),(.c (.i 16777215))]),Zm 2 4] .ret))
def m245:aU A1 245 1 A245 V91=true:=by kernel_rfl
def A217:aq:=(Zs [Zh 4 false] (Zs [Zm 5 0,Zo 6 (.call 245 [5]),Zm 7 6,Zg 8 (.mv 1) 7 true,Zg 9 (.call 132 [8,(.c (.i 1)),(.c (.i 24))]) 7 true,Zo 10 (.pick 7 9 (Zy false)),Zm 4 10] .ret))
def m217:aU A1 217 2 A217 V85=true:=by kernel_rfl
def xM:aq:=(.seq (Zs [Zm 8 6,Zm 9 1,Zb 10 .add 8 9,Zd 11 .leq 10 24] (.cond 11 .skip (.exit 0))) (.seq (.blk 1 (Zs [Zm 14 0,Zm 15 6,Zm 16 1,Zo 17 (.build [.i 0,.i 0] [(0,1,15),(1,1,16)]),Zo 18 (.call 184 [17]),Zb 19 .and 14 18,Zd 20 .eql 19 0] (.cond 20 (.reg [Zm 21 5,Zm 22 6,Zo 23 (.bsl 1 false [22]),Zo 24 (.app 1 8 true 21 23),Zm 5 24] [.s 5]) .skip))) (.reg [Zm 12 6,Zd 13 .add 12 1,Zm 6 13] [])))
def Ry:aq:=(.seq (.reg [Zm 25 5,Zm 4 25] [.s 4]) .ret)
def A218:aq:=(.seq (.reg [Zo 4 (.mv (.c (.lst .u 1 [])))] [.s 4]) (.seq (.reg [Zo 7 (.bsl 1 false []),Zm 5 7] [.s 5]) (.seqa (.reg [Zn 6 0] []) (.blk 0 (.loop xM)) [5] [5] Ry)))
def m218:aU A1 218 2 A218 V85=true:=by kernel_rfl
def A176:aq:=(Zs [Zo 4 (.alloc (.agg [.i 0,.i 0])),Zh 5 false] (.seq (Zs [Zm 7 0,Zm 8 1,Zo 9 (.call 217 [7,8]),Zo 10 (.un .not 9)] (.cond 10 (Zs [Zo 11 (.build [.i 0,.i 0] []),Zw (.store 2 4 11),Zh 5 false] .ret) .skip)) (.seq (.reg [Zm 12 0,Zm 13 1,Zo 14 (.call 218 [12,13]),Zm 6 14] [.s 6]) (.seq (Zs [Zm 15 6,Zk 16 15,Zd 17 .eql 16 0] (.cond 17 (Zs [Zo 18 (.build [.i 0,.i 0] []),Zw (.store 2 4 18),Zh 5 false] .ret) .skip)) (Zs [Zm 19 6,Zo 20 (.idx 1 19 (.c (.i 0))),Zl 21 20,Zm 22 1,Zo 23 (.build [.i 0,.i 0] [(0,1,21),(1,1,22)]),Zw (.store 2 4 23),Zh 5 true] .ret)))))
def V176:List RV:=[.c 4 2 true,.t 5]
def m176:aU A1 176 2 A176 V176=true:=by kernel_rfl
def wX:aq:=(Zs [Zb 54 .lss 53 52] (.seq (.cond 54 .skip (.exit 0)) (.seq (.blk 1 (Zs [Zx 55 2 51 53,Zv 56 2 55,Zo 12 (.alloc (.agg [.i 0,.lst .u 1 []])),Zw (.store 2 12 56)] (.seq (Zs [Za 57 1 12,Zl 58 57,Za 59 4 2,Zl 60 59,Zo 61 (.call 68 [58,60]),Zk 62 61,Zd 63 .gtr 62 0] (.cond 63 (.exit 1) .skip)) (.seq (.drw [Za 65 0 2,Zv 66 3 65,Zv 67 2 12,Zo 68 (.call 177 [66,67]),Za 69 3 7,Za 70 1 69,Zl 71 70,Zo 72 (.call 176 [68,71]),Zm 64 72,Ze 73 64 0,Ze 74 64 1,Zo 13 (.alloc (.agg [.i 0,.i 0])),Zw (.store 2 13 73),Zm 14 74] []) (Zs [Zm 75 14] (.cond 75 (Zs [Za 76 0 2,Zv 77 3 76,Zm 78 1,Zv 79 2 12,Zv 80 2 13,Zo 81 (.build [.i 0,.i 0,.lst .u 1 [],.i 0,.i 0] [(0,1,78),(1,2,79),(3,2,80)]),Zo 82 (.call 174 [77,81]),Za 83 0 6,Zw (.store 3 83 82)] (Zs [Zv 84 5 6,Zw (.store 5 4 84),Zh 5 true] .ret)) .skip)))))) (.reg [Zd 85 .add 53 1,Zm 53 85] []))))
def Oe:aq:=(Zs [Zv 86 5 6,Zw (.store 5 4 86),Zh 5 false] .ret)
def A118:aq:=(Zs [Zo 2 (.box 5 0),Zo 4 (.alloc (.agg [.lst .u 1 [],.lst .u 4 [],.lst .u 5 [],.lst .u 5 [],.lst .u 1 []])),Zh 5 false] (.seq (.drw [Zv 15 5 2,Zo 16 (.call 77 [15]),Zo 17 (.fdv [6,7] 3 2),Zo 18 (.ldv [6,7] 1 false 17),Zv 19 5 2,Zm 20 1,Zo 21 (.call 67 [19,20]),Zo 22 (.idv [6,7] 5 18 21),Zo 23 (.lde [6,7] 5 true 22),Zo 24 (.fdv [6,7] 0 2),Zo 25 (.fdv [6,7] 0 24),Zo 26 (.ldv [6,7] 2 true 25),Zo 6 (.alloc (.agg [.lst .u 1 [],.lst .u 4 [],.lst .u 5 [],.lst .u 5 [],.lst .u 1 []])),Zo 7 (.alloc (.agg [.i 0,.i 0,.lst .u 1 [],.i 0,.i 0])),Zo 8 (.alloc (.agg [.lst .u 1 [],.lst .u 4 []])),Zw (.stw 6 5 6 16),Zw (.stw 7 5 7 23),Zw (.store 2 8 26)] []) (.seq (Zs [Zv 27 5 2,Zv 28 5 7,Zo 29 (.call 107 [27,28])] (.cond 29 (Zs [Za 30 0 2,Zv 31 3 30,Zv 32 5 7,Zo 33 (.call 174 [31,32]),Za 34 0 6,Zw (.store 3 34 33)] (Zs [Zv 35 5 6,Zw (.store 5 4 35),Zh 5 true] .ret)) .skip)) (.seq (.drw [Zv 37 2 8,Za 38 1 7,Za 39 0 38,Zl 40 39,Zv 41 2 8,Za 42 1 7,Zv 43 2 42,Zo 44 (.call 69 [41,43]),Zo 45 (.call 175 [37,40,44]),Zm 36 45,Ze 46 36 0,Ze 47 36 1,Zm 9 46,Zm 10 47] [.s 9]) (.seq (Zs [Zm 48 10,Zo 49 (.un .not 48)] (.cond 49 (Zs [Zv 50 5 6,Zw (.store 5 4 50),Zh 5 false] .ret) .skip)) (.seqa (.reg [Zm 51 9,Zk 52 51,Zn 53 0] []) (.blk 0 (.loop wX)) [4,6] [4,6,16,1016,2016,3016,4016] Oe))))))
def m118:aU A1 118 2 A118 jx=true:=by kernel_rfl
def Em:aq:=(Zs [Zb 22 .lss 21 20] (.seq (.cond 22 .skip (.exit 0)) (.seq (.blk 1 (Zs [Zx 23 1 19 21,Zl 24 23,Zm 8 24] (.seq (.reg [Zv 26 5 5,Zm 27 8,Zo 28 (.call 118 [26,27]),Zm 25 28,Ze 29 25 0,Ze 30 25 1,Zo 9 (.alloc (.agg [.lst .u 1 [],.lst .u 4 [],.lst .u 5 [],.lst .u 5 [],.lst .u 1 []])),Zw (.store 5 9 29),Zm 10 30] [.f false 500000576 9 0,.f false 500000577 9 1,.f false 500000578 9 2,.f false 500000579 9 3,.f false 500000580 9 4]) (.seq (Zs [Zm 31 10] (.cond 31 (.reg [Zm 32 6,Zm 33 8,Zo 34 (.bsl 1 false [33]),Zo 35 (.app 1 8 true 32 34),Zm 6 35] [.s 6]) .skip)) (.reg [Zv 36 5 9,Zw (.store 5 5 36)] [.f false 500000320 5 0,.f false 500000321 5 1,.f false 500000322 5 2,.f false 500000323 5 3,.f false 500000324 5 4]))))) (.reg [Zd 37 .add 21 1,Zm 21 37] []))))
def YL:aq:=(.seq (.reg [Zv 38 5 5,Zm 39 6,Zw (.store 5 2 38),Zm 3 39,Zh 4 true] [.s 3,.f false 500000128 2 0,.f false 500000129 2 1,.f false 500000130 2 2,.f false 500000131 2 3,.f false 500000132 2 4]) .ret)
def A52:aq:=(.seq (.reg [Zo 1 (.box 5 0),Zo 2 (.alloc (.agg [.lst .u 1 [],.lst .u 4 [],.lst .u 5 [],.lst .u 5 [],.lst .u 1 []])),Zo 3 (.mv (.c (.lst .u 1 []))),Zh 4 false] [.s 3]) (.seq (Zs [Zv 11 5 1,Zo 12 (.call 16 [11]),Zo 13 (.un .not 12)] (.cond 13 (.seq (.reg [Zo 14 (.build [.lst .u 1 [],.lst .u 4 [],.lst .u 5 [],.lst .u 5 [],.lst .u 1 []] []),Zw (.store 5 2 14),Zo 3 (.mv (.c (.lst .u 1 []))),Zh 4 false] [.s 3,.f false 500000128 2 0,.f false 500000129 2 1,.f false 500000130 2 2,.f false 500000131 2 3,.f false 500000132 2 4]) .ret) .skip)) (.seq (.reg [Zv 15 5 1,Zo 16 (.call 77 [15]),Zo 17 (.bsl 1 false []),Zo 5 (.alloc (.agg [.lst .u 1 [],.lst .u 4 [],.lst .u 5 [],.lst .u 5 [],.lst .u 1 []])),Zw (.store 5 5 16),Zm 6 17] [.s 6,.f false 500000320 5 0,.f false 500000321 5 1,.f false 500000322 5 2,.f false 500000323 5 3,.f false 500000324 5 4]) (.seqa (.reg [Zv 18 5 1,Zo 19 (.call 72 [18]),Zk 20 19,Zn 21 0] []) (.blk 0 (.loop Em)) [2,5,6] [2,5,6,500000320,500000321,500000322,500000323,500000324] YL))))
def V52:List RV:=[.c 2 5 true,.t 3,.t 4]
def m52:aU A1 52 1 A52 V52=true:=by kernel_rfl
def xF:aq:=(Zs [Zb 14 .lss 13 12] (.seq (.cond 14 .skip (.exit 0)) (.seq (.blk 1 (Zs [Zm 15 13,Zm 5 15] (.seq (.drw [Zm 16 0,Zm 17 5,Zx 18 1 16 17,Zl 19 18,Zm 20 1,Zm 21 5,Zx 22 1 20 21,Zl 23 22,Zb 24 .neq 19 23] []) (.cond 24 (Zs [Zh 4 false] .ret) .skip)))) (.reg [Zd 25 .add 13 1,Zm 13 25] []))))
def Ni:aq:=(Zs [Zh 4 true] .ret)
def A106:aq:=(Zs [Zh 4 false] (.seq (Zs [Zm 6 0,Zk 7 6,Zm 8 1,Zk 9 8,Zb 10 .neq 7 9] (.cond 10 (Zs [Zh 4 false] .ret) .skip)) (.seqa (.reg [Zm 11 0,Zk 12 11,Zn 13 0] []) (.blk 0 (.loop xF)) [] [] Ni)))
def m106:aU A1 106 2 A106 V85=true:=by kernel_rfl
def YV:aq:=(.cond 64 (.seq (.drw [Za 65 0 5,Za 66 2 65,Zl 67 66,Zm 68 7,Za 69 0 8,Zl 70 69,Za 71 1 9,Zv 72 2 71,Zo 73 (.call 108 [72]),Za 74 3 9,Zv 75 2 74,Zo 76 (.build [.i 0,.i 0,.lst .u 1 [],.i 0,.i 0] [(0,1,70),(1,2,73),(3,2,75)]),Zx 77 5 67 68,Zw (.store 5 77 76)] []) (.reg [Zm 78 6,Za 79 0 8,Zl 80 79,Zo 81 (.bsl 1 false [80]),Zo 82 (.app 1 8 true 78 81),Zm 6 82] [.s 6])) .skip)
def aak:aq:=(.seqr (.reg [Zm 58 10,Zo 59 (.un .not 58),Zm 60 59,Zg 61 (.load 5 true 5) 60 true,Zg 62 (.load 5 true 9) 60 true,Zg 63 (.call 107 [61,62]) 60 true,Zo 64 (.pick 60 63 (Zy false))] []) [2,5,6,7,8,9,20,21,22,64] [2,5,6,8,9,16,1016,2016,3016,4016] YV)
def QI:aq:=(Zs [Zb 23 .lss 22 21] (.seq (.cond 23 .skip (.exit 0)) (.seq (.blk 1 (Zs [Zm 24 22,Zx 25 5 20 22,Zv 26 5 25,Zo 8 (.alloc (.agg [.i 0,.i 0,.lst .u 1 [],.i 0,.i 0])),Zm 7 24,Zw (.store 5 8 26)] (.seq (.drw [Za 27 3 5,Zl 28 27,Zv 29 5 5,Za 30 0 8,Zl 31 30,Zo 32 (.call 67 [29,31]),Zx 33 5 28 32,Zv 34 5 33,Zo 9 (.alloc (.agg [.i 0,.i 0,.lst .u 1 [],.i 0,.i 0])),Zw (.store 5 9 34)] []) (.seqr (.reg [Za 35 1 8,Za 36 0 35,Zl 37 36,Za 38 1 9,Za 39 0 38,Zl 40 39,Zb 41 .eql 37 40,Zm 42 41,Zg 43 (.fad 1 8) 42 true,Zg 44 (.fad 1 43) 42 true,Zg 45 (.load 1 false 44) 42 true,Zg 46 (.fad 1 9) 42 true,Zg 47 (.fad 1 46) 42 true,Zg 48 (.load 1 false 47) 42 true,Zg 49 (.call 106 [45,48]) 42 true,Zo 50 (.pick 42 49 (Zy false)),Zm 51 50,Zg 52 (.fad 3 8) 51 true,Zg 53 (.load 2 true 52) 51 true,Zg 54 (.fad 3 9) 51 true,Zg 55 (.load 2 true 54) 51 true,Zg 56 (.aeq false 53 55) 51 true,Zo 57 (.pick 51 56 (Zy false)),Zm 10 57] []) [2,5,6,7,8,9,10,20,21,22] [2,5,6,8,9,16,1016,2016,3016,4016] aak)))) (.reg [Zd 83 .add 22 1,Zm 22 83] []))))
def aag:aq:=(.seq (.reg [Zv 84 5 5,Zm 85 6,Zw (.store 5 2 84),Zm 3 85,Zh 4 true] [.s 3]) .ret)
def A46:aq:=(.seq (.reg [Zo 1 (.box 5 0),Zo 2 (.alloc (.agg [.lst .u 1 [],.lst .u 4 [],.lst .u 5 [],.lst .u 5 [],.lst .u 1 []])),Zo 3 (.mv (.c (.lst .u 1 []))),Zh 4 false] [.s 3]) (.seq (Zs [Zv 11 5 1,Zo 12 (.call 16 [11]),Zo 13 (.un .not 12)] (.cond 13 (.seq (.reg [Zo 14 (.build [.lst .u 1 [],.lst .u 4 [],.lst .u 5 [],.lst .u 5 [],.lst .u 1 []] []),Zw (.store 5 2 14),Zo 3 (.mv (.c (.lst .u 1 []))),Zh 4 false] [.s 3]) .ret) .skip)) (.seq (.reg [Zv 15 5 1,Zo 16 (.call 77 [15]),Zo 17 (.bsl 1 false []),Zo 5 (.alloc (.agg [.lst .u 1 [],.lst .u 4 [],.lst .u 5 [],.lst .u 5 [],.lst .u 1 []])),Zw (.store 5 5 16),Zm 6 17] [.s 6]) (.seqa (.reg [Za 18 0 5,Za 19 2 18,Zl 20 19,Zk 21 20,Zn 22 0] []) (.blk 0 (.loop QI)) [2,5,6] [2,5,6,16,1016,2016,3016,4016] aag))))
def m46:aU A1 46 1 A46 V52=true:=by kernel_rfl
def Zj:aq:=(.cond 23 (.seq (.reg [Zo 24 (.build [.lst .u 1 [],.lst .u 4 [],.lst .u 5 [],.lst .u 5 [],.lst .u 1 []] []),Zo 4 (.mv (.c (.lst .u 1 []))),Zw (.store 5 5 24),Zh 6 false] [.s 4,.f false 500000320 5 0,.f false 500000321 5 1,.f false 500000322 5 2,.f false 500000323 5 3,.f false 500000324 5 4]) .ret) .skip)
def ZE:aq:=(.seq (.reg [Zv 56 5 7,Zo 57 (.call 52 [56]),Zm 55 57,Ze 58 55 0,Ze 59 55 1,Ze 60 55 2,Zw (.store 5 7 58)] [.f false 500000448 7 0,.f false 500000449 7 1,.f false 500000450 7 2,.f false 500000451 7 3,.f false 500000452 7 4]) (.seq (.reg [Zv 62 5 7,Zo 63 (.call 46 [62]),Zm 61 63,Ze 64 61 0,Ze 65 61 1,Ze 66 61 2,Zw (.store 5 7 64)] [.f false 500000448 7 0,.f false 500000449 7 1,.f false 500000450 7 2,.f false 500000451 7 3,.f false 500000452 7 4]) (.reg [Zm 67 9,Zv 68 5 7,Zo 69 (.call 72 [68]),Zk 70 69,Zo 71 (.bsl 1 false [70]),Zo 72 (.app 1 8 true 67 71),Zm 9 72] [.s 9])))
def Fq:aq:=(Zs [Zb 29 .lss 28 27] (.seq (.cond 29 .skip (.exit 0)) (.seq (.blk 1 (.seq (.reg [Zx 30 2 26 28,Zv 31 2 30,Zo 11 (.alloc (.agg [.b false,.lst .u 1 []])),Zw (.store 2 11 31)] [.f false 500000705 11 1]) (.seq (Zs [Zv 32 5 7,Za 33 1 11,Zl 34 33,Zo 35 (.call 81 [32,34]),Zo 36 (.un .not 35)] (.cond 36 (.seq (.reg [Zo 37 (.build [.lst .u 1 [],.lst .u 4 [],.lst .u 5 [],.lst .u 5 [],.lst .u 1 []] []),Zo 4 (.mv (.c (.lst .u 1 []))),Zw (.store 5 5 37),Zh 6 false] [.s 4,.f false 500000320 5 0,.f false 500000321 5 1,.f false 500000322 5 2,.f false 500000323 5 3,.f false 500000324 5 4]) .ret) .skip)) (.seqr (Zs [Za 38 0 11,Zl 39 38] (.cond 39 (.reg [Zv 41 5 7,Za 42 1 11,Zl 43 42,Zo 44 (.call 48 [41,43]),Zm 40 44,Ze 45 40 0,Ze 46 40 1,Ze 47 40 2,Zw (.store 5 7 45)] [.f false 500000448 7 0,.f false 500000449 7 1,.f false 500000450 7 2,.f false 500000451 7 3,.f false 500000452 7 4]) (.reg [Zv 49 5 7,Za 50 1 11,Zl 51 50,Zo 52 (.call 33 [49,51]),Zm 48 52,Ze 53 48 0,Ze 54 48 1,Zw (.store 5 7 53)] [.f false 500000448 7 0,.f false 500000449 7 1,.f false 500000450 7 2,.f false 500000451 7 3,.f false 500000452 7 4]))) [5,7,9,26,27,28] [5,7,9,500000448,500000449,500000450,500000451,500000452] ZE)))) (.reg [Zd 73 .add 28 1,Zm 28 73] []))))
def aaf:aq:=(.seq (.drw [Zm 74 9,Zv 75 5 7,Zm 4 74,Zw (.store 5 5 75),Zh 6 true] [.s 4,.f false 500000320 5 0,.f false 500000321 5 1,.f false 500000322 5 2,.f false 500000323 5 3,.f false 500000324 5 4]) .ret)
def A56:aq:=(.seq (.reg [Zo 2 (.box 3 0),Zo 4 (.mv (.c (.lst .u 1 []))),Zo 5 (.alloc (.agg [.lst .u 1 [],.lst .u 4 [],.lst .u 5 [],.lst .u 5 [],.lst .u 1 []])),Zh 6 false] [.s 4]) (.seq (.reg [Zv 13 3 2,Zo 14 (.call 27 [13]),Zm 12 14,Ze 15 12 0,Ze 16 12 1,Zo 7 (.alloc (.agg [.lst .u 1 [],.lst .u 4 [],.lst .u 5 [],.lst .u 5 [],.lst .u 1 []])),Zw (.store 5 7 15),Zm 8 16] [.f false 500000448 7 0,.f false 500000449 7 1,.f false 500000450 7 2,.f false 500000451 7 3,.f false 500000452 7 4]) (.seq (.seqr (.reg [Zm 17 8,Zo 18 (.un .not 17),Zm 19 18,Zg 20 (.mv 1) 19 false,Zg 21 (.len 20) 19 false,Zg 22 (.bin .gtr 21 (.c (.i 20))) 19 false,Zo 23 (.pick 19 (Zy true) 22)] []) [1,5,7,23] [5,7,500000448,500000449,500000450,500000451,500000452] Zj) (.seq (.reg [Zo 25 (.bsl 1 false []),Zm 9 25] [.s 9]) (.seqa (.reg [Zm 26 1,Zk 27 26,Zn 28 0] []) (.blk 0 (.loop Fq)) [5,7,9] [5,7,9,500000448,500000449,500000450,500000451,500000452] aaf)))))
def m56:aU A1 56 2 A56 mJ=true:=by kernel_rfl
def Ec:aq:=(.seq (Zs [Zm 11 5,Zm 12 0,Zk 13 12,Zb 14 .lss 11 13] (.cond 14 .skip (.exit 0))) (.seq (.blk 1 (.seq (.drw [Zm 17 0,Zm 18 5,Zx 19 1 17 18,Zl 20 19,Zm 21 1,Zm 22 5,Zx 23 1 21 22,Zl 24 23,Zb 25 .neq 20 24] []) (.cond 25 (Zs [Zh 4 false] .ret) .skip))) (.reg [Zm 15 5,Zd 16 .add 15 1,Zm 5 16] [])))
def Zf:aq:=(Zs [Zh 4 true] .ret)
def A20:aq:=(Zs [Zh 4 false] (.seq (Zs [Zm 6 0,Zk 7 6,Zm 8 1,Zk 9 8,Zb 10 .neq 7 9] (.cond 10 (Zs [Zh 4 false] .ret) .skip)) (.seqa (.reg [Zn 5 0] []) (.blk 0 (.loop Ec)) [] [] Zf)))
def m20:aU A1 20 2 A20 V85=true:=by kernel_rfl
def Ez:aq:=(.seq (Zs [Zm 11 5,Zm 12 0,Zk 13 12,Zb 14 .lss 11 13] (.cond 14 .skip (.exit 0))) (.seq (.blk 1 (.seq (.drw [Zm 17 0,Zm 18 5,Zx 19 1 17 18,Zl 20 19,Zm 21 1,Zm 22 5,Zx 23 1 21 22,Zl 24 23,Zb 25 .neq 20 24] []) (.cond 25 (Zs [Zh 4 false] .ret) .skip))) (.reg [Zm 15 5,Zd 16 .add 15 1,Zm 5 16] [])))
def aac:aq:=(Zs [Zh 4 true] .ret)
def A99:aq:=(Zs [Zh 4 false] (.seq (Zs [Zm 6 0,Zk 7 6,Zm 8 1,Zk 9 8,Zb 10 .neq 7 9] (.cond 10 (Zs [Zh 4 false] .ret) .skip)) (.seqa (.reg [Zn 5 0] []) (.blk 0 (.loop Ez)) [] [] aac)))
def m99:aU A1 99 2 A99 V85=true:=by kernel_rfl
def afe:aq:=(Zs [Zo 2 (.box 4 0),Zo 3 (.box 4 1),Zh 4 false] (.seq (Zs [Za 5 0 2,Zl 6 5,Za 7 0 3,Zl 8 7,Zb 9 .neq 6 8] (.cond 9 (Zs [Zh 4 false] .ret) .skip)) (.seq (Zs [Za 10 1 2,Zl 11 10,Za 12 1 3,Zl 13 12,Zb 14 .neq 11 13] (.cond 14 (Zs [Zh 4 false] .ret) .skip)) (.seq (Zs [Za 15 2 2,Zl 16 15,Za 17 2 3,Zl 18 17,Zb 19 .neq 16 18] (.cond 19 (Zs [Zh 4 false] .ret) .skip)) (.seq (Zs [Za 20 3 2,Zl 21 20,Za 22 3 3,Zl 23 22,Zb 24 .neq 21 23] (.cond 24 (Zs [Zh 4 false] .ret) .skip)) (Zs [Zh 4 true] .ret))))))
def m158:aU A1 158 2 afe V85=true:=by kernel_rfl
def ws:aq:=(.seq (Zs [Zm 11 5,Zm 12 0,Zk 13 12,Zb 14 .lss 11 13] (.cond 14 .skip (.exit 0))) (.seq (.blk 1 (.seq (.drw [Zm 17 0,Zm 18 5,Zx 19 4 17 18,Zv 20 4 19,Zm 21 1,Zm 22 5,Zx 23 4 21 22,Zv 24 4 23,Zo 25 (.call 158 [20,24]),Zo 26 (.un .not 25)] []) (.cond 26 (Zs [Zh 4 false] .ret) .skip))) (.reg [Zm 15 5,Zd 16 .add 15 1,Zm 5 16] [])))
def QL:aq:=(Zs [Zh 4 true] .ret)
def A100:aq:=(Zs [Zh 4 false] (.seq (Zs [Zm 6 0,Zk 7 6,Zm 8 1,Zk 9 8,Zb 10 .neq 7 9] (.cond 10 (Zs [Zh 4 false] .ret) .skip)) (.seqa (.reg [Zn 5 0] []) (.blk 0 (.loop ws)) [] [] QL)))
def m100:aU A1 100 2 A100 V85=true:=by kernel_rfl
def A40:aq:=(Zs [Zo 2 (.box 2 0),Zo 3 (.box 2 1),Zh 4 false] (.seq (Zs [Za 5 0 2,Zl 6 5,Za 7 0 3,Zl 8 7,Zo 9 (.call 99 [6,8]),Zo 10 (.un .not 9)] (.cond 10 (Zs [Zh 4 false] .ret) .skip)) (.seq (Zs [Za 11 1 2,Zl 12 11,Za 13 1 3,Zl 14 13,Zo 15 (.call 100 [12,14]),Zo 16 (.un .not 15)] (.cond 16 (Zs [Zh 4 false] .ret) .skip)) (Zs [Zh 4 true] .ret))))
def m40:aU A1 40 2 A40 V85=true:=by kernel_rfl
def A159:aq:=(Zs [Zo 2 (.box 2 0),Zo 3 (.box 2 1),Zh 4 false] (.seq (Zs [Za 5 0 2,Zl 6 5,Za 7 0 3,Zl 8 7,Zb 9 .neq 6 8] (.cond 9 (Zs [Zh 4 false] .ret) .skip)) (.seq (Zs [Za 10 1 2,Zl 11 10,Za 12 1 3,Zl 13 12,Zo 14 (.call 20 [11,13]),Zo 15 (.un .not 14)] (.cond 15 (Zs [Zh 4 false] .ret) .skip)) (Zs [Zh 4 true] .ret))))
def m159:aU A1 159 2 A159 V85=true:=by kernel_rfl
def A160:aq:=(Zs [Zo 2 (.box 2 0),Zo 3 (.box 2 1),Zh 4 false] (.seq (Zs [Za 5 0 2,Zl 6 5,Za 7 0 3,Zl 8 7,Zb 9 .neq 6 8] (.cond 9 (Zs [Zh 4 false] .ret) .skip)) (.seq (Zs [Za 10 1 2,Zl 11 10,Za 12 1 3,Zl 13 12,Zb 14 .neq 11 13] (.cond 14 (Zs [Zh 4 false] .ret) .skip)) (Zs [Zh 4 true] .ret))))
def m160:aU A1 160 2 A160 V85=true:=by kernel_rfl
def age:aq:=(Zs [Zo 2 (.box 5 0),Zo 3 (.box 5 1),Zh 4 false] (.seq (Zs [Za 5 0 2,Zl 6 5,Za 7 0 3,Zl 8 7,Zb 9 .neq 6 8] (.cond 9 (Zs [Zh 4 false] .ret) .skip)) (.seq (Zs [Za 10 1 2,Zv 11 2 10,Za 12 1 3,Zv 13 2 12,Zo 14 (.call 159 [11,13]),Zo 15 (.un .not 14)] (.cond 15 (Zs [Zh 4 false] .ret) .skip)) (.seq (Zs [Za 16 3 2,Zv 17 2 16,Za 18 3 3,Zv 19 2 18,Zo 20 (.call 160 [17,19]),Zo 21 (.un .not 20)] (.cond 21 (Zs [Zh 4 false] .ret) .skip)) (Zs [Zh 4 true] .ret)))))
def m136:aU A1 136 2 age V85=true:=by kernel_rfl
def Fk:aq:=(.seq (Zs [Zm 11 5,Zm 12 0,Zk 13 12,Zb 14 .lss 11 13] (.cond 14 .skip (.exit 0))) (.seq (.blk 1 (.seq (.drw [Zm 17 0,Zm 18 5,Zx 19 5 17 18,Zv 20 5 19,Zm 21 1,Zm 22 5,Zx 23 5 21 22,Zv 24 5 23,Zo 25 (.call 136 [20,24]),Zo 26 (.un .not 25)] []) (.cond 26 (Zs [Zh 4 false] .ret) .skip))) (.reg [Zm 15 5,Zd 16 .add 15 1,Zm 5 16] [])))
def Zc:aq:=(Zs [Zh 4 true] .ret)
def A70:aq:=(Zs [Zh 4 false] (.seq (Zs [Zm 6 0,Zk 7 6,Zm 8 1,Zk 9 8,Zb 10 .neq 7 9] (.cond 10 (Zs [Zh 4 false] .ret) .skip)) (.seqa (.reg [Zn 5 0] []) (.blk 0 (.loop Fk)) [] [] Zc)))
def m70:aU A1 70 2 A70 V85=true:=by kernel_rfl
def A28:aq:=(Zs [Zo 2 (.box 3 0),Zo 3 (.box 3 1),Zh 4 false] (.seq (Zs [Za 5 0 2,Zv 6 2 5,Za 7 0 3,Zv 8 2 7,Zo 9 (.call 40 [6,8]),Zo 10 (.un .not 9)] (.cond 10 (Zs [Zh 4 false] .ret) .skip)) (.seq (Zs [Za 11 2 2,Zl 12 11,Za 13 2 3,Zl 14 13,Zo 15 (.call 70 [12,14]),Zo 16 (.un .not 15)] (.cond 16 (Zs [Zh 4 false] .ret) .skip)) (Zs [Zh 4 true] .ret))))
def m28:aU A1 28 2 A28 V85=true:=by kernel_rfl
def A17:aq:=(Zs [Zo 2 (.box 5 0),Zo 3 (.box 5 1),Zh 4 false] (.seq (Zs [Za 5 0 2,Zv 6 3 5,Za 7 0 3,Zv 8 3 7,Zo 9 (.call 28 [6,8]),Zo 10 (.un .not 9)] (.cond 10 (Zs [Zh 4 false] .ret) .skip)) (.seq (Zs [Za 11 3 2,Zl 12 11,Za 13 3 3,Zl 14 13,Zo 15 (.call 70 [12,14]),Zo 16 (.un .not 15)] (.cond 16 (Zs [Zh 4 false] .ret) .skip)) (.seq (Zs [Za 17 4 2,Zl 18 17,Za 19 4 3,Zl 20 19,Zo 21 (.call 20 [18,20]),Zo 22 (.un .not 21)] (.cond 22 (Zs [Zh 4 false] .ret) .skip)) (Zs [Zh 4 true] .ret)))))
def m17:aU A1 17 2 A17 V85=true:=by kernel_rfl
def A123:aq:=(Zs [Zo 2 (.box 2 0),Zo 3 (.box 2 1),Zh 4 false] (.seq (Zs [Za 5 0 2,Zl 6 5,Za 7 0 3,Zl 8 7,Zo 9 (.beq true 6 8)] (.cond 9 (Zs [Zh 4 false] .ret) .skip)) (.seq (Zs [Za 10 1 2,Zl 11 10,Za 12 1 3,Zl 13 12,Zo 14 (.call 20 [11,13]),Zo 15 (.un .not 14)] (.cond 15 (Zs [Zh 4 false] .ret) .skip)) (Zs [Zh 4 true] .ret))))
def m123:aU A1 123 2 A123 V85=true:=by kernel_rfl
def Fs:aq:=(.seq (Zs [Zm 11 5,Zm 12 0,Zk 13 12,Zb 14 .lss 11 13] (.cond 14 .skip (.exit 0))) (.seq (.blk 1 (.seq (.drw [Zm 17 0,Zm 18 5,Zx 19 2 17 18,Zv 20 2 19,Zm 21 1,Zm 22 5,Zx 23 2 21 22,Zv 24 2 23,Zo 25 (.call 123 [20,24]),Zo 26 (.un .not 25)] []) (.cond 26 (Zs [Zh 4 false] .ret) .skip))) (.reg [Zm 15 5,Zd 16 .add 15 1,Zm 5 16] [])))
def YH:aq:=(Zs [Zh 4 true] .ret)
def A57:aq:=(Zs [Zh 4 false] (.seq (Zs [Zm 6 0,Zk 7 6,Zm 8 1,Zk 9 8,Zb 10 .neq 7 9] (.cond 10 (Zs [Zh 4 false] .ret) .skip)) (.seqa (.reg [Zn 5 0] []) (.blk 0 (.loop Fs)) [] [] YH)))
def m57:aU A1 57 2 A57 V85=true:=by kernel_rfl
def BK:aq:=(.seq (Zs [Zm 6 0,Zd 7 .gtr 6 0] (.cond 7 .skip (.exit 0))) (.blk 1 (Zs [Zm 8 0,Zd 9 .rem 8 10,Zo 10 (.bin .add (.c (.i 48)) 9),Zo 11 (.conv .u8 10),Zo 12 (.bsl 1 false [11]),Zo 13 (.b2s 12),Zm 14 3,Zb 15 .add 13 14,Zm 3 15] (.reg [Zm 16 0,Zd 17 .quo 16 10,Zm 0 17] []))))
def LR:aq:=(Zs [Zm 18 3,Zo 19 (.bin .add (.c (.z ⟨#[109]⟩)) 18),Zm 2 19] .ret)
def A161:aq:=(Zs [Zo 2 (.mv (.c (.z ⟨#[]⟩)))] (.seq (Zs [Zm 4 0,Zd 5 .leq 4 0] (.cond 5 (Zs [Zo 2 (.mv (.c (.z ⟨#[109,48]⟩)))] .ret) .skip)) (Zs [Zo 3 (.mv (.c (.z ⟨#[]⟩)))] (.seqr (.blk 0 (.loop BK)) [3] [] LR))))
def m161:aU A1 161 1 A161 V91=true:=by kernel_rfl
def oT:aq:=(.seq (Zs [Zm 6 5,Zm 7 0,Zk 8 7,Zb 9 .lss 6 8] (.cond 9 .skip (.exit 0))) (.seq (.blk 1 (Zs [Zm 12 0,Zm 13 5,Zm 14 1,Zo 15 (.call 161 [14]),Zx 16 1 12 13,Zw (.store 1 16 15)] (.reg [Zm 17 1,Zd 18 .add 17 1,Zm 1 18] []))) (.reg [Zm 10 5,Zd 11 .add 10 1,Zm 5 11] [])))
def yX:aq:=(Zs [Zm 19 1,Zm 4 19] .ret)
def MT:aq:=(Zs [Zn 4 0] (.seqa (.reg [Zn 5 0] []) (.blk 0 (.loop oT)) [1] [1000000000] yX))
def adw:aU A1 102 2 MT V85=true:=by kernel_rfl
def rQ:aq:=(.seq (Zs [Zm 6 5,Zm 7 0,Zk 8 7,Zb 9 .lss 6 8] (.cond 9 .skip (.exit 0))) (.seq (.blk 1 (Zs [Zm 12 0,Zm 13 5,Zm 14 1,Zx 15 4 12 13,Za 16 0 15,Zw (.store 1 16 14)] (Zs [Zm 17 1,Zd 18 .add 17 1,Zm 1 18] (Zs [Zm 19 0,Zm 20 5,Zm 21 1,Zx 22 4 19 20,Za 23 1 22,Zw (.store 1 23 21)] (Zs [Zm 24 1,Zd 25 .add 24 1,Zm 1 25] (Zs [Zm 26 0,Zm 27 5,Zm 28 1,Zx 29 4 26 27,Za 30 2 29,Zw (.store 1 30 28)] (Zs [Zm 31 1,Zd 32 .add 31 1,Zm 1 32] (Zs [Zm 33 0,Zm 34 5,Zm 35 1,Zx 36 4 33 34,Za 37 3 36,Zw (.store 1 37 35)] (.reg [Zm 38 1,Zd 39 .add 38 1,Zm 1 39] []))))))))) (.reg [Zm 10 5,Zd 11 .add 10 1,Zm 5 11] [])))
def AK:aq:=(Zs [Zm 40 1,Zm 4 40] .ret)
def SB:aq:=(Zs [Zn 4 0] (.seqa (.reg [Zn 5 0] []) (.blk 0 (.loop rQ)) [1] [1000000000] AK))
def agd:aU A1 103 2 SB V85=true:=by kernel_rfl
def YT:aq:=(Zs [Zo 2 (.box 2 0),Zn 4 0] (Zs [Za 5 0 2,Zl 6 5,Zm 7 1,Zo 8 (.callM 102 [6,7] [1000000000]),Zm 1 8] (Zs [Za 9 1 2,Zl 10 9,Zm 11 1,Zo 12 (.callM 103 [10,11] [1000000001]),Zm 1 12] (Zs [Zm 13 1,Zm 4 13] .ret))))
def ahj:aU A1 42 2 YT V85=true:=by kernel_rfl
def qT:aq:=(.seq (Zs [Zm 6 5,Zm 7 0,Zk 8 7,Zb 9 .lss 6 8] (.cond 9 .skip (.exit 0))) (.seq (.blk 1 (Zs [Zm 12 0,Zm 13 5,Zm 14 1,Zx 15 1 12 13,Zw (.store 1 15 14)] (.reg [Zm 16 1,Zd 17 .add 16 1,Zm 1 17] []))) (.reg [Zm 10 5,Zd 11 .add 10 1,Zm 5 11] [])))
def Ew:aq:=(Zs [Zm 18 1,Zm 4 18] .ret)
def ZH:aq:=(Zs [Zn 4 0] (.seqa (.reg [Zn 5 0] []) (.blk 0 (.loop qT)) [1] [1000000000] Ew))
def aix:aU A1 22 2 ZH V85=true:=by kernel_rfl
def vS:aq:=(.seq (Zs [Zm 6 5,Zm 7 0,Zk 8 7,Zb 9 .lss 6 8] (.cond 9 .skip (.exit 0))) (.seq (.blk 1 (Zs [Zm 12 0,Zm 13 5,Zm 14 1,Zx 15 5 12 13,Za 16 0 15,Zw (.store 1 16 14)] (Zs [Zm 17 1,Zd 18 .add 17 1,Zm 1 18] (Zs [Zm 19 0,Zm 20 5,Zm 21 1,Zx 22 5 19 20,Za 23 1 22,Za 24 0 23,Zw (.store 1 24 21)] (Zs [Zm 25 1,Zd 26 .add 25 1,Zm 1 26] (.seq (.regh [Zm 27 0,Zm 28 5,Zx 29 5 27 28,Za 30 1 29,Za 31 1 30] (.inn 32 5 1 31 [(33,1)] 34 22 [32,33]) [Zm 1 34] []) (Zs [Zm 35 0,Zm 36 5,Zm 37 1,Zx 38 5 35 36,Za 39 3 38,Za 40 0 39,Zw (.store 1 40 37)] (Zs [Zm 41 1,Zd 42 .add 41 1,Zm 1 42] (Zs [Zm 43 0,Zm 44 5,Zm 45 1,Zx 46 5 43 44,Za 47 3 46,Za 48 1 47,Zw (.store 1 48 45)] (.reg [Zm 49 1,Zd 50 .add 49 1,Zm 1 50] [])))))))))) (.reg [Zm 10 5,Zd 11 .add 10 1,Zm 5 11] [])))
def Eb:aq:=(Zs [Zm 51 1,Zm 4 51] .ret)
def aas:aq:=(Zs [Zn 4 0] (.seqa (.reg [Zn 5 0] []) (.blk 0 (.loop vS)) [1] [1000000000] Eb))
def air:aU A1 73 2 aas V85=true:=by kernel_rfl
def aah:aq:=(Zs [Zo 2 (.box 3 0),Zn 4 0] (Zs [Za 5 0 2,Zv 6 2 5,Zm 7 1,Zo 8 (.callM 42 [6,7] [1000000000,1000000001]),Zm 1 8] (.seq (.regh [Za 9 2 2,Zl 10 9,Zm 11 1] (.har 12 73 [10,11] [1000000002]) [Zm 1 12] []) (Zs [Zm 13 1,Zm 4 13] .ret))))
def aiw:aU A1 29 2 aah V85=true:=by kernel_rfl
def wx:aq:=(.seq (Zs [Zm 6 5,Zm 7 0,Zk 8 7,Zb 9 .lss 6 8] (.cond 9 .skip (.exit 0))) (.seq (.blk 1 (Zs [Zm 12 0,Zm 13 5,Zm 14 1,Zd 15 .rem 14 3,Zd 16 .eql 15 0,Zx 17 2 12 13,Za 18 0 17,Zw (.store 1 18 16)] (Zs [Zm 19 1,Zd 20 .add 19 1,Zm 1 20] (.regh [Zm 21 0,Zm 22 5,Zx 23 2 21 22,Za 24 1 23] (.inn 25 2 1 24 [(26,1)] 27 22 [25,26]) [Zm 1 27] [])))) (.reg [Zm 10 5,Zd 11 .add 10 1,Zm 5 11] [])))
def EB:aq:=(Zs [Zm 28 1,Zm 4 28] .ret)
def aap:aq:=(Zs [Zn 4 0] (.seqa (.reg [Zn 5 0] []) (.blk 0 (.loop wx)) [1] [1000000000] EB))
def agz:aU A1 58 2 aap V85=true:=by kernel_rfl
def Yu:aq:=(Zs [Zo 2 (.box 5 0),Zn 4 0] (.seq (.regh [Za 5 0 2,Zv 6 3 5,Zm 7 1] (.har 8 29 [6,7] [1000000000,1000000001,1000000002]) [Zm 1 8] []) (.seq (.regh [Za 9 3 2,Zl 10 9,Zm 11 1] (.har 12 73 [10,11] [1000000003]) [Zm 1 12] []) (Zs [Za 13 4 2,Zl 14 13,Zm 15 1,Zo 16 (.callM 22 [14,15] [1000000004]),Zm 1 16] (Zs [Zm 17 1,Zm 4 17] .ret)))))
def ajg:aU A1 21 2 Yu V85=true:=by kernel_rfl
def Fu:aq:=(.seq (Zs [Zm 6 5,Zm 7 0,Zk 8 7,Zb 9 .lss 6 8] (.cond 9 .skip (.exit 0))) (.seq (.blk 1 (.seq (Zs [Zm 12 0,Zm 13 5,Zx 14 1 12 13,Zl 15 14,Zm 16 1,Zb 17 .neq 15 16] (.cond 17 (Zs [Zn 4 (-1)] .ret) .skip)) (.reg [Zm 18 1,Zd 19 .add 18 1,Zm 1 19] []))) (.reg [Zm 10 5,Zd 11 .add 10 1,Zm 5 11] [])))
def aam:aq:=(Zs [Zm 20 1,Zm 4 20] .ret)
def A23:aq:=(Zs [Zn 4 0] (.seqa (.reg [Zn 5 0] []) (.blk 0 (.loop Fu)) [1] [] aam))
def m23:aU A1 23 2 A23 V85=true:=by kernel_rfl
def xq:aq:=(.seq (Zs [Zm 6 5,Zm 7 0,Zk 8 7,Zb 9 .lss 6 8] (.cond 9 .skip (.exit 0))) (.seq (.blk 1 (.seq (.seq (.drw [Zm 12 0,Zm 13 5,Zx 14 1 12 13,Zl 15 14,Zm 16 1,Zo 17 (.call 161 [16]),Zb 18 .neq 15 17] []) (.cond 18 (Zs [Zn 4 (-1)] .ret) .skip)) (.reg [Zm 19 1,Zd 20 .add 19 1,Zm 1 20] []))) (.reg [Zm 10 5,Zd 11 .add 10 1,Zm 5 11] [])))
def Pf:aq:=(Zs [Zm 21 1,Zm 4 21] .ret)
def A162:aq:=(Zs [Zn 4 0] (.seqa (.reg [Zn 5 0] []) (.blk 0 (.loop xq)) [1] [] Pf))
def m162:aU A1 162 2 A162 V85=true:=by kernel_rfl
def wm:aq:=(.seq (Zs [Zm 6 5,Zm 7 0,Zk 8 7,Zb 9 .lss 6 8] (.cond 9 .skip (.exit 0))) (.seq (.blk 1 (.seq (Zs [Zm 12 0,Zm 13 5,Zx 14 4 12 13,Za 15 0 14,Zl 16 15,Zm 17 1,Zb 18 .neq 16 17] (.cond 18 (Zs [Zn 4 (-1)] .ret) .skip)) (Zs [Zm 19 1,Zd 20 .add 19 1,Zm 1 20] (.seq (Zs [Zm 21 0,Zm 22 5,Zx 23 4 21 22,Za 24 1 23,Zl 25 24,Zm 26 1,Zb 27 .neq 25 26] (.cond 27 (Zs [Zn 4 (-1)] .ret) .skip)) (Zs [Zm 28 1,Zd 29 .add 28 1,Zm 1 29] (.seq (Zs [Zm 30 0,Zm 31 5,Zx 32 4 30 31,Za 33 2 32,Zl 34 33,Zm 35 1,Zb 36 .neq 34 35] (.cond 36 (Zs [Zn 4 (-1)] .ret) .skip)) (Zs [Zm 37 1,Zd 38 .add 37 1,Zm 1 38] (.seq (Zs [Zm 39 0,Zm 40 5,Zx 41 4 39 40,Za 42 3 41,Zl 43 42,Zm 44 1,Zb 45 .neq 43 44] (.cond 45 (Zs [Zn 4 (-1)] .ret) .skip)) (.reg [Zm 46 1,Zd 47 .add 46 1,Zm 1 47] []))))))))) (.reg [Zm 10 5,Zd 11 .add 10 1,Zm 5 11] [])))
def Rb:aq:=(Zs [Zm 48 1,Zm 4 48] .ret)
def A163:aq:=(Zs [Zn 4 0] (.seqa (.reg [Zn 5 0] []) (.blk 0 (.loop wm)) [1] [] Rb))
def m163:aU A1 163 2 A163 V85=true:=by kernel_rfl
def A104:aq:=(Zs [Zo 2 (.box 2 0),Zn 4 0] (Zs [Za 5 0 2,Zl 6 5,Zm 7 1,Zo 8 (.call 162 [6,7]),Zm 1 8] (.seq (Zs [Zm 9 1,Zd 10 .lss 9 0] (.cond 10 (Zs [Zn 4 (-1)] .ret) .skip)) (Zs [Za 11 1 2,Zl 12 11,Zm 13 1,Zo 14 (.call 163 [12,13]),Zm 1 14] (.seq (Zs [Zm 15 1,Zd 16 .lss 15 0] (.cond 16 (Zs [Zn 4 (-1)] .ret) .skip)) (Zs [Zm 17 1,Zm 4 17] .ret))))))
def m104:aU A1 104 2 A104 V85=true:=by kernel_rfl
def DS:aq:=(.seq (Zs [Zm 6 5,Zm 7 0,Zk 8 7,Zb 9 .lss 6 8] (.cond 9 .skip (.exit 0))) (.seq (.blk 1 (.seq (Zs [Zm 12 0,Zm 13 5,Zx 14 5 12 13,Za 15 0 14,Zl 16 15,Zm 17 1,Zb 18 .neq 16 17] (.cond 18 (Zs [Zn 4 (-1)] .ret) .skip)) (Zs [Zm 19 1,Zd 20 .add 19 1,Zm 1 20] (.seq (Zs [Zm 21 0,Zm 22 5,Zx 23 5 21 22,Za 24 1 23,Za 25 0 24,Zl 26 25,Zm 27 1,Zb 28 .neq 26 27] (.cond 28 (Zs [Zn 4 (-1)] .ret) .skip)) (Zs [Zm 29 1,Zd 30 .add 29 1,Zm 1 30] (Zs [Zm 31 0,Zm 32 5,Zx 33 5 31 32,Za 34 1 33,Za 35 1 34,Zl 36 35,Zm 37 1,Zo 38 (.call 23 [36,37]),Zm 1 38] (.seq (Zs [Zm 39 1,Zd 40 .lss 39 0] (.cond 40 (Zs [Zn 4 (-1)] .ret) .skip)) (.seq (Zs [Zm 41 0,Zm 42 5,Zx 43 5 41 42,Za 44 3 43,Za 45 0 44,Zl 46 45,Zm 47 1,Zb 48 .neq 46 47] (.cond 48 (Zs [Zn 4 (-1)] .ret) .skip)) (Zs [Zm 49 1,Zd 50 .add 49 1,Zm 1 50] (.seq (Zs [Zm 51 0,Zm 52 5,Zx 53 5 51 52,Za 54 3 53,Za 55 1 54,Zl 56 55,Zm 57 1,Zb 58 .neq 56 57] (.cond 58 (Zs [Zn 4 (-1)] .ret) .skip)) (.reg [Zm 59 1,Zd 60 .add 59 1,Zm 1 60] []))))))))))) (.reg [Zm 10 5,Zd 11 .add 10 1,Zm 5 11] [])))
def YI:aq:=(Zs [Zm 61 1,Zm 4 61] .ret)
def A78:aq:=(Zs [Zn 4 0] (.seqa (.reg [Zn 5 0] []) (.blk 0 (.loop DS)) [1] [] YI))
def m78:aU A1 78 2 A78 V85=true:=by kernel_rfl
def A44:aq:=(Zs [Zo 2 (.box 3 0),Zn 4 0] (Zs [Za 5 0 2,Zv 6 2 5,Zm 7 1,Zo 8 (.call 104 [6,7]),Zm 1 8] (.seq (Zs [Zm 9 1,Zd 10 .lss 9 0] (.cond 10 (Zs [Zn 4 (-1)] .ret) .skip)) (Zs [Za 11 2 2,Zl 12 11,Zm 13 1,Zo 14 (.call 78 [12,13]),Zm 1 14] (.seq (Zs [Zm 15 1,Zd 16 .lss 15 0] (.cond 16 (Zs [Zn 4 (-1)] .ret) .skip)) (Zs [Zm 17 1,Zm 4 17] .ret))))))
def m44:aU A1 44 2 A44 V85=true:=by kernel_rfl
def A30:aq:=(Zs [Zo 2 (.box 5 0),Zn 4 0] (Zs [Za 5 0 2,Zv 6 3 5,Zm 7 1,Zo 8 (.call 44 [6,7]),Zm 1 8] (.seq (Zs [Zm 9 1,Zd 10 .lss 9 0] (.cond 10 (Zs [Zn 4 (-1)] .ret) .skip)) (Zs [Za 11 3 2,Zl 12 11,Zm 13 1,Zo 14 (.call 78 [12,13]),Zm 1 14] (.seq (Zs [Zm 15 1,Zd 16 .lss 15 0] (.cond 16 (Zs [Zn 4 (-1)] .ret) .skip)) (Zs [Za 17 4 2,Zl 18 17,Zm 19 1,Zo 20 (.call 23 [18,19]),Zm 1 20] (.seq (Zs [Zm 21 1,Zd 22 .lss 21 0] (.cond 22 (Zs [Zn 4 (-1)] .ret) .skip)) (Zs [Zm 23 1,Zm 4 23] .ret))))))))
def m30:aU A1 30 2 A30 V85=true:=by kernel_rfl
def ZP:aq:=(.cond 64 (Zs [Zh 4 false] .ret) .skip)
def YG:aq:=(.cond 99 (Zs [Zh 4 false] .ret) .skip)
def Yy:aq:=(.cond 142 (Zs [Zh 4 false] .ret) .skip)
def A12:aq:=(Zs [Zo 2 (.box 3 0),Zh 4 false] (Zs [Zn 5 1048576] (Zs [Zv 20 3 2,Zm 21 5,Zo 22 (.call 24 [20,21]),Zm 5 22] (.seq (Zs [Zm 23 5,Zd 24 .lss 23 0] (.cond 24 (Zs [Zh 4 true] .ret) .skip)) (Zs [Zm 25 1,Zm 26 5,Zo 27 (.call 53 [25,26]),Zm 5 27] (.seq (Zs [Zm 28 5,Zd 29 .lss 28 0] (.cond 29 (Zs [Zh 4 true] .ret) .skip)) (.seqb (.reg [Zv 31 3 2,Zo 32 (.call 26 [31]),Zm 33 1,Zo 34 (.call 55 [33]),Zo 35 (.callM 54 [32,34] [32,1032,2032,34]),Zm 30 35,Ze 36 30 0,Ze 37 30 1,Ze 38 30 2,Zo 7 (.alloc (.agg [.lst .u 1 [],.lst .u 4 [],.lst .u 5 [],.lst .u 5 [],.lst .u 1 []])),Zm 6 36,Zw (.store 5 7 37),Zm 8 38] [.s 6]) [1,2,6,7,8] (Zs [Zv 39 3 2,Zo 40 (.call 26 [39]),Zo 9 (.alloc (.agg [.lst .u 1 [],.lst .u 4 [],.lst .u 5 []])),Zw (.store 3 9 40)] (.seq (.reg [Zm 41 1,Zo 42 (.call 55 [41]),Zm 10 42] [.s 10]) (.seq (.reg [Zv 44 3 9,Zm 45 10,Zo 46 (.call 56 [44,45]),Zm 43 46,Ze 47 43 0,Ze 48 43 1,Ze 49 43 2,Zo 12 (.alloc (.agg [.lst .u 1 [],.lst .u 4 [],.lst .u 5 [],.lst .u 5 [],.lst .u 1 []])),Zm 11 47,Zw (.store 5 12 48),Zm 13 49] [.s 11]) (.seq (.seqr (.reg [Zm 50 11,Zm 51 6,Zo 52 (.call 20 [50,51]),Zo 53 (.un .not 52),Zm 54 53,Zg 55 (.load 5 true 12) 54 false,Zg 56 (.load 5 true 7) 54 false,Zg 57 (.call 17 [55,56]) 54 false,Zg 58 (.un .not 57) 54 false,Zo 59 (.pick 54 (Zy true) 58),Zm 60 59,Zg 61 (.mv 13) 60 false,Zg 62 (.mv 8) 60 false,Zg 63 (.beq true 61 62) 60 false,Zo 64 (.pick 60 (Zy true) 63)] []) [1,2,6,7,8,9,10,11,12,13,64] [9,10,11,12,40,1040,1046,2040,2046,3046,4046,5046] ZP) (.seq (.seq (.drw [Zv 65 3 9,Zv 66 3 2,Zo 67 (.call 26 [66]),Zo 68 (.call 28 [65,67]),Zo 69 (.un .not 68)] []) (.cond 69 (Zs [Zh 4 false] .ret) .skip)) (.seq (Zs [Zm 70 10,Zm 71 1,Zo 72 (.call 55 [71]),Zo 73 (.call 57 [70,72]),Zo 74 (.un .not 73)] (.cond 74 (Zs [Zh 4 false] .ret) .skip)) (Zs [Zn 14 1] (.seq (.regh [Zv 75 3 9,Zm 76 14] (.har 77 29 [75,76] [40,1040,2040]) [Zm 14 77] []) (.seq (.regh [Zm 78 10,Zm 79 14] (.har 80 58 [78,79] [10]) [Zm 14 80] []) (.seq (.seqr (.reg [Zm 81 14,Zd 82 .lss 81 0,Zm 83 82,Zg 84 (.mv 11) 83 false,Zg 85 (.mv 6) 83 false,Zg 86 (.call 20 [84,85]) 83 false,Zg 87 (.un .not 86) 83 false,Zo 88 (.pick 83 (Zy true) 87),Zm 89 88,Zg 90 (.load 5 true 12) 89 false,Zg 91 (.load 5 true 7) 89 false,Zg 92 (.call 17 [90,91]) 89 false,Zg 93 (.un .not 92) 89 false,Zo 94 (.pick 89 (Zy true) 93),Zm 95 94,Zg 96 (.mv 13) 95 false,Zg 97 (.mv 8) 95 false,Zg 98 (.beq true 96 97) 95 false,Zo 99 (.pick 95 (Zy true) 98)] []) [1,2,6,7,8,11,12,99] [11,12,1046,2046,3046,4046,5046] YG) (Zs [Zn 15 1] (Zs [Zm 100 11,Zm 101 15,Zo 102 (.callM 22 [100,101] [11]),Zm 15 102] (.seq (.regh [Zv 103 5 12,Zm 104 15] (.har 105 21 [103,104] [1046,2046,3046,4046,5046]) [Zm 15 105] []) (Zs [Zn 16 1] (Zs [Zm 106 11,Zm 107 16,Zo 108 (.call 23 [106,107]),Zm 16 108] (.seq (Zs [Zm 109 16,Zd 110 .lss 109 0] (.cond 110 (Zs [Zh 4 false] .ret) .skip)) (Zs [Zv 111 5 12,Zm 112 16,Zo 113 (.call 30 [111,112]),Zm 16 113] (.seq (Zs [Zm 114 16,Zd 115 .lss 114 0] (.cond 115 (Zs [Zh 4 false] .ret) .skip)) (.seq (Zs [Zm 116 16,Zm 117 15,Zb 118 .neq 116 117] (.cond 118 (Zs [Zh 4 false] .ret) .skip)) (.seq (.reg [Zv 120 3 2,Zo 121 (.call 26 [120]),Zm 122 1,Zo 123 (.call 55 [122]),Zo 124 (.call 56 [121,123]),Zm 119 124,Ze 125 119 0,Ze 126 119 1,Ze 127 119 2,Zo 18 (.alloc (.agg [.lst .u 1 [],.lst .u 4 [],.lst .u 5 [],.lst .u 5 [],.lst .u 1 []])),Zm 17 125,Zw (.store 5 18 126),Zm 19 127] [.s 17]) (.seq (.seqr (.reg [Zm 128 17,Zm 129 6,Zo 130 (.call 20 [128,129]),Zo 131 (.un .not 130),Zm 132 131,Zg 133 (.load 5 true 18) 132 false,Zg 134 (.load 5 true 7) 132 false,Zg 135 (.call 17 [133,134]) 132 false,Zg 136 (.un .not 135) 132 false,Zo 137 (.pick 132 (Zy true) 136),Zm 138 137,Zg 139 (.mv 19) 138 false,Zg 140 (.mv 8) 138 false,Zg 141 (.beq true 139 140) 138 false,Zo 142 (.pick 138 (Zy true) 141)] []) [11,12,15,142] [11,12,1046,2046,3046,4046,5046] Yy) (Zs [Zn 16 1] (Zs [Zm 143 11,Zm 144 16,Zo 145 (.call 23 [143,144]),Zm 16 145] (.seq (Zs [Zm 146 16,Zd 147 .lss 146 0] (.cond 147 (Zs [Zh 4 false] .ret) .skip)) (Zs [Zv 148 5 12,Zm 149 16,Zo 150 (.call 30 [148,149]),Zm 16 150] (.seq (Zs [Zm 151 16,Zd 152 .lss 151 0] (.cond 152 (Zs [Zh 4 false] .ret) .skip)) (.seq (Zs [Zm 153 16,Zm 154 15,Zb 155 .neq 153 154] (.cond 155 (Zs [Zh 4 false] .ret) .skip)) (Zs [Zh 4 true] .ret)))))))))))))))))))))))))))))))))))
def m12:aU A1 12 2 A12 V85=true:=by kernel_rfl
end Vs

