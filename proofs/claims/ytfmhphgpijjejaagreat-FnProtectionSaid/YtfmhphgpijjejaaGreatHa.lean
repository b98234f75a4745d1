/-
  Part of the proof that FnProtection returns true at every input.
-/
import Derived.Test.YtfmhphgpijjejaaGreatWe
import Derived.Test.YtfmhphgpijjejaaGreatChecked
import Derived.KernelRfl
import Derived.WalkKit
import Derived.Lib.Walk
import Derived.Lib.SliceRun
import Derived.Lib.JoinLaws
import Derived.Lib.AppendZeros
import Derived.Lib.Overlaps
import Derived.Laws.Externs
import Derived.Laws.IdiomCopy
import Derived.Shelf.RegionOpenPlain
import Derived.Lib.AppendZerosOnto
import Derived.Laws.NewBlocks
import Derived.Deep.AppendSrc
import Derived.Deep.MidRow
import Derived.Shelf.SlSortCmp.NoneTotal
set_option linter.defProp false
set_option linter.unusedSimpArgs false
set_option linter.unusedVariables false
open Go.IntKind renaming wrap -> A0, bits -> A3, wrap_i64 -> B3, i64 -> F7
open Go.Proofs.Tryz renaming prog -> A1, checked -> A8, func87 -> B1, ntmps87 -> B4, underlying114 -> B8, underlying202 -> B9, underlying116 -> C0, underlying260 -> C1, underlying261 -> C2, underlying272 -> C3, underlying276 -> C4, underlying281 -> C5, underlying162 -> C6, zeroValue114 -> C8, zeroValue202 -> C9, zeroValue116 -> D0, underlying61 -> D3, zeroValue260 -> D4, zeroValue261 -> D5, zeroValue272 -> D6, zeroValue276 -> D7, zeroValue281 -> D8, zeroValue162 -> D9, underlying0 -> E9, underlying3 -> F0, underlying4 -> F3, underlying5 -> F4, underlying9 -> F5, zeroValue61 -> F6, zeroValue0 -> F8, zeroValue3 -> F9, zeroValue4 -> G0, zeroValue5 -> G1, zeroValue9 -> G2, sizeOf114 -> G4, sizeOf202 -> G5, sizeOf116 -> G6, sizeOf260 -> G7, sizeOf261 -> G8, sizeOf272 -> G9, sizeOf276 -> H0, sizeOf281 -> H1, sizeOf162 -> H2, isAgg114 -> H3, isAgg202 -> H4, isAgg116 -> H5, sizeOf61 -> H6, isAgg260 -> H7, isAgg261 -> H8, isAgg272 -> H9, isAgg276 -> I0, isAgg281 -> I1, isAgg162 -> I2, func232 -> I3, func258 -> I4, func259 -> I5, func203 -> I6, func268 -> I7, func269 -> I8, sizeOf0 -> I9, sizeOf3 -> J0, sizeOf4 -> J1, sizeOf5 -> J2, sizeOf9 -> J3, isAgg61 -> J4, func265 -> J5, isAgg0 -> J6, isAgg3 -> J7, isAgg4 -> J8, isAgg5 -> J9, isAgg9 -> K0
open Int renaming toNat -> A2, fdiv -> A5, tmod -> A9, tdiv -> G3
open Nat renaming add_assoc -> A6, min_def -> B5, min -> C7
open Option renaming map_eq_some_iff -> A7
open List renaming replicate -> B0, getElem?_eq_getElem -> B2, mem_of_mem_drop -> B6, getElem?_drop -> B7, length_drop -> E0, length_take -> E8
namespace Vs
open Go
def eqm{α:Type}{g h:α->AV}{k:AV->AV}(e:∀x,k (g x)=h x)(xs:List α):(xs.map g).map k=xs.map h:=by simp[e]
def eqc{α:Type}{g h:α->AV}{k:AV->AV}(e:∀x,k (g x)=h x):k∘g=h:=funext e
structure aH where
 A:Int
 B:Int
 N:Int
 F:Int
 deriving DecidableEq
def aC(f:Fl)(x:aH):AV:=.agg [.i x.A,.i x.B,.i x.N,.i x.F]
theorem gG(f:Fl)(x:aH):(aC f x).nrm=aC .o x:=by simp[aC,cB,eX,eZ,cB]
def tu(f:Fl):=eqm (gG f)
theorem fV(f:Fl)(x:aH):(aC f x).als=aC f.als x:=by simp[aC,dU,eW,eV,cB]
def te(f:Fl):=eqm (fV f)
def tF(f:Fl):=eqc (fV f)
theorem fU(f:Fl)(x:aH):(aC f x).fix=aC f.fix x:=by simp[aC,eB,eE,eF,cB]
def lV(f:Fl):=eqm (fU f)
def oY(x:aH):(aC .o x).fz=true:=by simp[aC,AV.i,AV.b,AV.z,eG,ct,cX,cw,bW,dj,dd,db,df,cx,de,cr,eD,cu,da,cv,bX,dh,di,cZ]
def fQ:=gq oY
def pb(x:aH):(aC .u x).ouB=true:=by simp[aC,AV.i,AV.b,AV.z,eG,ct,cX,cw,bW,dj,dd,db,df,cx,de,cr,eD,cu,da,cv,bX,dh,di,cZ]
def fT:=gv pb
structure af where
 N:List ByteArray
 F:List aH
def ar(f:Fl)(x:af):AV:=.agg [.lst f 1 (x.N.map AV.z),.lst f 4 (x.F.map (aC f))]
def kN(f:Fl)(x:af):(ar f x).nrm=ar .o x:=by simp[ar,cB,eX,eZ,gG,eS,oz]
def pq(f:Fl):=eqm (kN f)
def gT(f:Fl)(x:af):(ar f x).als=ar f.als x:=by simp[ar,dU,eW,eV,fV,eU,nX]
def pJ(f:Fl):=eqm (gT f)
def pu(f:Fl):=eqc (gT f)
def gS(f:Fl)(x:af):(ar f x).fix=ar f.fix x:=by simp[ar,eB,eE,eF,fU,eu,lw]
def jW(f:Fl):=eqm (gS f)
def lQ(x:af):(ar .o x).fz=true:=by simp[ar,AV.i,AV.b,AV.z,eG,ct,cX,cw,bW,dj,dd,db,df,cx,de,cr,eD,cu,da,cv,bX,dh,di,cZ,fQ,fT]
def rJ:=gq lQ
def lT(x:af):(ar .u x).ouB=true:=by simp[ar,AV.i,AV.b,AV.z,eG,ct,cX,cw,bW,dj,dd,db,df,cx,de,cr,eD,cu,da,cv,bX,dh,di,cZ,fQ,fT]
def rP:=gv lT
structure aA where
 N:Int
 F:Int
 deriving DecidableEq
def aJ(f:Fl)(x:aA):AV:=.agg [.i x.N,.i x.F]
def lJ(f:Fl)(x:aA):(aJ f x).nrm=aJ .o x:=by simp[aJ,cB,eX,eZ,cB]
def rf(f:Fl):=eqm (lJ f)
def iV(f:Fl)(x:aA):(aJ f x).als=aJ f.als x:=by simp[aJ,dU,eW,eV,cB]
def sx(f:Fl):=eqm (iV f)
def sX(f:Fl):=eqc (iV f)
def iU(f:Fl)(x:aA):(aJ f x).fix=aJ f.fix x:=by simp[aJ,eB,eE,eF,cB]
def kw(f:Fl):=eqm (iU f)
def nL(x:aA):(aJ .o x).fz=true:=by simp[aJ,AV.i,AV.b,AV.z,eG,ct,cX,cw,bW,dj,dd,db,df,cx,de,cr,eD,cu,da,cv,bX,dh,di,cZ]
def tE:=gq nL
def nq(x:aA):(aJ .u x).ouB=true:=by simp[aJ,AV.i,AV.b,AV.z,eG,ct,cX,cw,bW,dj,dd,db,df,cx,de,cr,eD,cu,da,cv,bX,dh,di,cZ]
def tG:=gv nq
structure aj where
 N:Int
 F:List Int
 deriving DecidableEq
def ax(f:Fl)(x:aj):AV:=.agg [.i x.N,.lst f 1 (x.F.map AV.i)]
theorem gF(f:Fl)(x:aj):(ax f x).nrm=ax .o x:=by simp[ax,cB,eX,eZ,eS]
def ti(f:Fl):=eqm (gF f)
theorem gH(f:Fl)(x:aj):(ax f x).als=ax f.als x:=by simp[ax,dU,eW,eV,eU]
def tV(f:Fl):=eqm (gH f)
def tI(f:Fl):=eqc (gH f)
theorem gM(f:Fl)(x:aj):(ax f x).fix=ax f.fix x:=by simp[ax,eB,eE,eF,eu]
def lU(f:Fl):=eqm (gM f)
def oP(x:aj):(ax .o x).fz=true:=by simp[ax,AV.i,AV.b,AV.z,eG,ct,cX,cw,bW,dj,dd,db,df,cx,de,cr,eD,cu,da,cv,bX,dh,di,cZ]
def jU:=gq oP
def oL(x:aj):(ax .u x).ouB=true:=by simp[ax,AV.i,AV.b,AV.z,eG,ct,cX,cw,bW,dj,dd,db,df,cx,de,cr,eD,cu,da,cv,bX,dh,di,cZ]
def jJ:=gv oL
structure aD where
 N:Int
 F:Int
 deriving DecidableEq
def bD(f:Fl)(x:aD):AV:=.agg [.i x.N,.i x.F]
def na(f:Fl)(x:aD):(bD f x).nrm=bD .o x:=by simp[bD,cB,eX,eZ,cB]
def tS(f:Fl):=eqm (na f)
def jR(f:Fl)(x:aD):(bD f x).als=bD f.als x:=by simp[bD,dU,eW,eV,cB]
def tR(f:Fl):=eqm (jR f)
def ua(f:Fl):=eqc (jR f)
def jN(f:Fl)(x:aD):(bD f x).fix=bD f.fix x:=by simp[bD,eB,eE,eF,cB]
def lY(f:Fl):=eqm (jN f)
def pf(x:aD):(bD .o x).fz=true:=by simp[bD,AV.i,AV.b,AV.z,eG,ct,cX,cw,bW,dj,dd,db,df,cx,de,cr,eD,cu,da,cv,bX,dh,di,cZ]
def xd:=gq pf
def pg(x:aD):(bD .u x).ouB=true:=by simp[bD,AV.i,AV.b,AV.z,eG,ct,cX,cw,bW,dj,dd,db,df,cx,de,cr,eD,cu,da,cv,bX,dh,di,cZ]
def wD:=gv pg
structure ae where
 Id:Int
 W:Int
 N:aj
 P:aD
 F:aj
 L:aD
 deriving DecidableEq
def ai(f:Fl)(x:ae):AV:=.agg [.i x.Id,.i x.W,.i x.N.N,.lst f 1 (x.N.F.map AV.i),.i x.P.N,.i x.P.F,.i x.F.N,.lst f 1 (x.F.F.map AV.i),.i x.L.N,.i x.L.F]
def kH(f:Fl)(x:ae):(ai f x).nrm=ai .o x:=by simp[ai,cB,eX,eZ,eS]
def pG(f:Fl):=eqm (kH f)
def im(f:Fl)(x:ae):(ai f x).als=ai f.als x:=by simp[ai,dU,eW,eV,eU]
def pz(f:Fl):=eqm (im f)
def pA(f:Fl):=eqc (im f)
def ie(f:Fl)(x:ae):(ai f x).fix=ai f.fix x:=by simp[ai,eB,eE,eF,eu]
def jX(f:Fl):=eqm (ie f)
def lI(x:ae):(ai .o x).fz=true:=by simp[ai,AV.i,AV.b,AV.z,eG,ct,cX,cw,bW,dj,dd,db,df,cx,de,cr,eD,cu,da,cv,bX,dh,di,cZ]
def rG:=gq lI
def lK(x:ae):(ai .u x).ouB=true:=by simp[ai,AV.i,AV.b,AV.z,eG,ct,cX,cw,bW,dj,dd,db,df,cx,de,cr,eD,cu,da,cv,bX,dh,di,cZ]
def sg:=gv lK
structure aO where
 N:Int
 L:Int
 F:Int
 W:Int
 deriving DecidableEq
def aR(f:Fl)(x:aO):AV:=.agg [.i x.N,.i x.L,.i x.F,.i x.W]
def lW(f:Fl)(x:aO):(aR f x).nrm=aR .o x:=by simp[aR,cB,eX,eZ,cB]
def sY(f:Fl):=eqm (lW f)
def iP(f:Fl)(x:aO):(aR f x).als=aR f.als x:=by simp[aR,dU,eW,eV,cB]
def rM(f:Fl):=eqm (iP f)
def se(f:Fl):=eqc (iP f)
def iY(f:Fl)(x:aO):(aR f x).fix=aR f.fix x:=by simp[aR,eB,eE,eF,cB]
def kP(f:Fl):=eqm (iY f)
def ni(x:aO):(aR .o x).fz=true:=by simp[aR,AV.i,AV.b,AV.z,eG,ct,cX,cw,bW,dj,dd,db,df,cx,de,cr,eD,cu,da,cv,bX,dh,di,cZ]
def tj:=gq ni
def mB(x:aO):(aR .u x).ouB=true:=by simp[aR,AV.i,AV.b,AV.z,eG,ct,cX,cw,bW,dj,dd,db,df,cx,de,cr,eD,cu,da,cv,bX,dh,di,cZ]
def tZ:=gv mB
structure aG where
 N:List Int
 F:Int
 L:Int
 deriving DecidableEq
def bc(f:Fl)(x:aG):AV:=.agg [.lst f 1 (x.N.map AV.u8),.i x.F,.sc (.int .u64 x.L)]
def mV(f:Fl)(x:aG):(bc f x).nrm=bc .o x:=by simp[bc,cB,eX,eZ,eS]
def tX(f:Fl):=eqm (mV f)
def jT(f:Fl)(x:aG):(bc f x).als=bc f.als x:=by simp[bc,dU,eW,eV,eU]
def tM(f:Fl):=eqm (jT f)
def tv(f:Fl):=eqc (jT f)
def jA(f:Fl)(x:aG):(bc f x).fix=bc f.fix x:=by simp[bc,eB,eE,eF,eu]
def lO(f:Fl):=eqm (jA f)
def pi(x:aG):(bc .o x).fz=true:=by simp[bc,AV.i,AV.b,AV.z,eG,ct,cX,cw,bW,dj,dd,db,df,cx,de,cr,eD,cu,da,cv,bX,dh,di,cZ]
def wP:=gq pi
def oQ(x:aG):(bc .u x).ouB=true:=by simp[bc,AV.i,AV.b,AV.z,eG,ct,cX,cw,bW,dj,dd,db,df,cx,de,cr,eD,cu,da,cv,bX,dh,di,cZ]
def vU:=gv oQ
structure gQ where
 n:af
 N:Int
 F:List aj
def ch(f:Fl)(x:gQ):AV:=.agg [.lst f 1 (x.n.N.map AV.z),.lst f 4 (x.n.F.map (aC f)),.i x.N,.lst f 2 (x.F.map (ax f))]
def jY(f:Fl)(x:gQ):(ch f x).nrm=ch .o x:=by simp[ch,cB,eX,eZ,gG,gF,eS,oz]
def ov(f:Fl):=eqm (jY f)
def gp(f:Fl)(x:gQ):(ch f x).als=ch f.als x:=by simp[ch,dU,eW,eV,fV,gH,eU,nX]
def og(f:Fl):=eqm (gp f)
def oG(f:Fl):=eqc (gp f)
def gm(f:Fl)(x:gQ):(ch f x).fix=ch f.fix x:=by simp[ch,eB,eE,eF,fU,gM,eu,lw]
def jb(f:Fl):=eqm (gm f)
def kf(x:gQ):(ch .o x).fz=true:=by simp[ch,AV.i,AV.b,AV.z,eG,ct,cX,cw,bW,dj,dd,db,df,cx,de,cr,eD,cu,da,cv,bX,dh,di,cZ,fQ,fT,jU,jJ]
def pB:=gq kf
def kK(x:gQ):(ch .u x).ouB=true:=by simp[ch,AV.i,AV.b,AV.z,eG,ct,cX,cw,bW,dj,dd,db,df,cx,de,cr,eD,cu,da,cv,bX,dh,di,cZ,fQ,fT,jU,jJ]
def pE:=gv kK
def hZ(f:Fl)(xs:List Int):AV:=.lst f 1 (xs.map AV.i)
def AE(f:Fl)(x:List Int):(hZ f x).nrm=hZ .o x:=by simp[hZ,cB,eX,eZ,eS]
def HI(f:Fl):=eqm (AE f)
def rd(f:Fl)(x:List Int):(hZ f x).als=hZ f.als x:=by simp[hZ,dU,eW,eV,eU]
def JL(f:Fl):=eqm (rd f)
def Hj(f:Fl):=eqc (rd f)
def rn(f:Fl)(x:List Int):(hZ f x).fix=hZ f.fix x:=by simp[hZ,eB,eE,eF,eu]
def vh(f:Fl):=eqm (rn f)
def FK(x:List Int):(hZ .o x).fz=true:=by simp[hZ,AV.i,AV.b,AV.z,eG,ct,cX,cw,bW,dj,dd,db,df,cx,de,cr,eD,cu,da,cv,bX,dh,di,cZ]
def Rs:=gq FK
def FZ(x:List Int):(hZ .u x).ouB=true:=by simp[hZ,AV.i,AV.b,AV.z,eG,ct,cX,cw,bW,dj,dd,db,df,cx,de,cr,eD,cu,da,cv,bX,dh,di,cZ]
def Qo:=gv FZ
structure gu where
 Id:Int
 N:aj
 F:aD
 deriving DecidableEq
def cW(f:Fl)(x:gu):AV:=.agg [.i x.Id,.i x.N.N,.lst f 1 (x.N.F.map AV.i),.i x.F.N,.i x.F.F]
def nk(f:Fl)(x:gu):(cW f x).nrm=cW .o x:=by simp[cW,cB,eX,eZ,eS]
def tH(f:Fl):=eqm (nk f)
def jI(f:Fl)(x:gu):(cW f x).als=cW f.als x:=by simp[cW,dU,eW,eV,eU]
def tD(f:Fl):=eqm (jI f)
def tW(f:Fl):=eqc (jI f)
def jP(f:Fl)(x:gu):(cW f x).fix=cW f.fix x:=by simp[cW,eB,eE,eF,eu]
def lR(f:Fl):=eqm (jP f)
def oX(x:gu):(cW .o x).fz=true:=by simp[cW,AV.i,AV.b,AV.z,eG,ct,cX,cw,bW,dj,dd,db,df,cx,de,cr,eD,cu,da,cv,bX,dh,di,cZ]
def vL:=gq oX
def oH(x:gu):(cW .u x).ouB=true:=by simp[cW,AV.i,AV.b,AV.z,eG,ct,cX,cw,bW,dj,dd,db,df,cx,de,cr,eD,cu,da,cv,bX,dh,di,cZ]
def xj:=gv oH
structure aq where
 F:aj
 N:Int
 deriving DecidableEq
def ay(f:Fl)(x:aq):AV:=.agg [.i x.F.N,.lst f 1 (x.F.F.map AV.i),.i x.N]
def lH(f:Fl)(x:aq):(ay f x).nrm=ay .o x:=by simp[ay,cB,eX,eZ,eS]
def rO(f:Fl):=eqm (lH f)
def iL(f:Fl)(x:aq):(ay f x).als=ay f.als x:=by simp[ay,dU,eW,eV,eU]
def sH(f:Fl):=eqm (iL f)
def rC(f:Fl):=eqc (iL f)
def iK(f:Fl)(x:aq):(ay f x).fix=ay f.fix x:=by simp[ay,eB,eE,eF,eu]
def kz(f:Fl):=eqm (iK f)
def ng(x:aq):(ay .o x).fz=true:=by simp[ay,AV.i,AV.b,AV.z,eG,ct,cX,cw,bW,dj,dd,db,df,cx,de,cr,eD,cu,da,cv,bX,dh,di,cZ]
def tp:=gq ng
def nr(x:aq):(ay .u x).ouB=true:=by simp[ay,AV.i,AV.b,AV.z,eG,ct,cX,cw,bW,dj,dd,db,df,cx,de,cr,eD,cu,da,cv,bX,dh,di,cZ]
def tC:=gv nr
def iE{H:World->Prop}:Tok H ai 10:=⟨(⟨0,0,(⟨0,[]⟩:aj),(⟨0,0⟩:aD),(⟨0,[]⟩:aj),(⟨0,0⟩:aD)⟩:ae),#[.int .i64 0,.int .i64 0,.int .i64 0,.slice none 0 0,.int .i64 0,.int .i64 0,.int .i64 0,.slice none 0 0,.int .i64 0,.int .i64 0],rfl,by simp[Value.oneCell'],fun W S B _=>(ea (v:=.agg #[.int .i64 0,.int .i64 0,.int .i64 0,.slice none 0 0,.int .i64 0,.int .i64 0,.int .i64 0,.slice none 0 0,.int .i64 0,.int .i64 0]) (a:=ai .s (⟨0,0,(⟨0,[]⟩:aj),(⟨0,0⟩:aD),(⟨0,[]⟩:aj),(⟨0,0⟩:aD)⟩:ae)) rfl W S B).1⟩
theorem lX{H:World->Prop}:co (iE (H:=H))=.agg [.i 0,.i 0,.i 0,.sc (.slice none 0 0),.i 0,.i 0,.i 0,.sc (.slice none 0 0),.i 0,.i 0]:=rfl
def tm{H:World->Prop}:(iE (H:=H)).Free:=fun W S B=>(ea (v:=.agg #[.int .i64 0,.int .i64 0,.int .i64 0,.slice none 0 0,.int .i64 0,.int .i64 0,.int .i64 0,.slice none 0 0,.int .i64 0,.int .i64 0]) (a:=ai .u (⟨0,0,(⟨0,[]⟩:aj),(⟨0,0⟩:aD),(⟨0,[]⟩:aj),(⟨0,0⟩:aD)⟩:ae)) rfl W S B).1
def AK(x:ae):(ai .u x).shs=ai .s x:=by simp[ai,AV.shs,mU,yx AV.i AV.i fun _=>rfl]
def TM(a:List Int):Option Bool:=
 some (decide (65536<(a.length:Int)))
def Jj(a:aG):Option (Int×aG):=
 (cond (decide (((a).F)<(((a).N).length:Int))) ((bC ((a).N) ((a).F)).bind fun c=>some (A0 .i64 c)) (some 0):Option Int).bind fun b=>cond (decide ((A0 .i64 (((a).F)+1))<=(((a).N).length:Int))) (some (b,(⟨(a).N,A0 .i64 (((a).F)+1),A0 .u64 ((A0 .u64 ((A0 .u64 (((a).L)*6364136223846793005))+(A0 .u64 b)))+897897)⟩:aG))) (some (A0 .i64 (bits .and .u64 (A5 (A0 .u64 ((A0 .u64 ((A0 .u64 (((a).L)*6364136223846793005))+(A0 .u64 b)))+897897)) (2^(min (A2 40) (A3 .u64)))) 255),(⟨(a).N,A0 .i64 (((a).F)+1),A0 .u64 ((A0 .u64 ((A0 .u64 (((a).L)*6364136223846793005))+(A0 .u64 b)))+897897)⟩:aG)))
def M_b(a:Int)(c:aG):Option (Int×aG):=
 cond (decide (a<=1)) (some (0,c)) ((Jj c).bind fun b=>cond (decide (200<a)) ((Jj b.2).bind fun d=>(grd (a≠0)).bind fun g=>some (A9 (A0 .i64 ((A0 .i64 (b.1*256))+d.1)) a,d.2)) ((grd (a≠0)).bind fun i=>some (A9 b.1 a,b.2)))
def yY(b:Int)(c:aG):Option (Bool×aG):=
 (M_b b c).bind fun a=>some (a.1==0,a.2)
def IK(a:Int)(b:Int):Option Int:=
 cond (decide (a<b)) (some a) (some b)
def Jc(a:Int)(b:Int):Option Int:=
 cond (decide (b<a)) (some a) (some b)
def nF(c:aG)(a:List Int):Option (Int×aG×List Int):=
 (M_b (a.length:Int) c).bind fun b=>(grd (0<=b.1/\b.1<(a.length:Int))).bind fun g=>(a[(A2 b.1)]?).bind fun d=>some (d,b.2,a)
def zS(a:aH)(b:aH):Option Int:=
 cond (a.A !=b.A) (some (A0 .i64 (a.A-b.A))) (cond (a.B !=b.B) (some (A0 .i64 (a.B-b.B))) (cond (a.N !=b.N) (some (A0 .i64 (a.N-b.N))) (some (A0 .i64 (a.F-b.F)))))
def Gd(b:List aH)(c:aH)(a:Int):Option (Int⊕Int):=
 cond (decide (a<(b.length:Int))) ((bC b a).bind fun d=>(zS d c).bind fun g=>cond (decide (g<=0)) (some (.inl (A0 .i64 (a+1)))) (some (.inr a))) (some (.inr a))
def Ij(a:List aH)(c:aH):Option (List aH):=
 (aZ (Gd a c) N0 0).bind fun d=>(slT a d).bind fun b=>(grd (b.length*32<=140737488355328)).bind fun l=>bnd ([c]) fun j=>(grd ((b.length+1)*32<=140737488355328)).bind fun m=>bnd (b++j) fun g=>(slF a d).bind fun i=>(grd ((g.length+i.length)*32<=140737488355328)).bind fun p=>bnd (g++i) fun k=>some k
def Cq(b:Int×aG)(a:Int×List aH×aG):Option ((Int×List aH×aG)⊕(List aH×aG)):=
 cond (decide (a.1<(A0 .i64 (2+b.1)))) ((grd ((A0 .i64 (2+b.1))≠0)).bind fun p=>(cond (a.1==(A9 (A0 .i64 (a.1+1)) (A0 .i64 (2+b.1)))) (some (true,a.2.2)) ((yY 10 a.2.2).bind fun d=>some (d.1,d.2)):Option (Bool×aG)).bind fun c=>cond (c.1) (some (.inl (A0 .i64 (a.1+1),a.2.1,c.2))) ((IK a.1 (A9 (A0 .i64 (a.1+1)) (A0 .i64 (2+b.1)))).bind fun j=>(Jc a.1 (A9 (A0 .i64 (a.1+1)) (A0 .i64 (2+b.1)))).bind fun k=>(M_b 8 c.2).bind fun g=>bnd ([0,0,0,1,2]) fun l=>(nF g.2 l).bind fun i=>(Ij a.2.1 (⟨j,k,A0 .i64 (100*(A0 .i64 (1+g.1))),i.1⟩:aH)).bind fun m=>some (.inl (A0 .i64 (a.1+1),m,i.2.1)))) (some (.inr (a.2.1,a.2.2)))
def BT(d:Int×aG)(a:Int×List aH×aG):Option ((Int×List aH×aG)⊕(List aH×aG)):=
 cond (decide (0<a.1)) ((M_b (A0 .i64 (2+d.1)) a.2.2).bind fun c=>(M_b (A0 .i64 (2+d.1)) c.2).bind fun b=>cond (c.1 !=b.1) ((IK c.1 b.1).bind fun j=>(Jc c.1 b.1).bind fun k=>(M_b 8 b.2).bind fun g=>bnd ([0,0,0,1,2]) fun l=>(nF g.2 l).bind fun i=>(Ij a.2.1 (⟨j,k,A0 .i64 (100*(A0 .i64 (1+g.1))),i.1⟩:aH)).bind fun m=>some (.inl (A0 .i64 (a.1-1),m,i.2.1))) (some (.inl (A0 .i64 (a.1-1),a.2.1,b.2)))) (some (.inr (a.2.1,a.2.2)))
def He(g:aG):Option (Nat×Nat×List ByteArray×List aH×aG):=
 (M_b 5 g).bind fun a=>bnd ([(⟨#[97]⟩:ByteArray),(⟨#[98]⟩:ByteArray),(⟨#[99]⟩:ByteArray),(⟨#[100]⟩:ByteArray),(⟨#[101]⟩:ByteArray),(⟨#[102]⟩:ByteArray)]) fun i=>(grd (True/\0<=(A0 .i64 (2+a.1))/\True/\A2 (A0 .i64 (2+a.1))<=6)).bind fun j=>(aZ (Cq a) N0 (0,[],a.2)).bind fun b=>(M_b 4 b.2).bind fun c=>(aZ (BT a) N0 (c.1,b.1,c.2)).bind fun d=>some (0,(A2 (A0 .i64 (2+a.1))),i,d.1,d.2)
def NW(b:aG):Option (Nat×Nat×List ByteArray×List aH×aG):=
 (He b).bind fun a=>cond ((a.2.2.2.1.length:Int)==0) (bnd ([(⟨0,1,100,0⟩:aH)]) fun c=>(grd ((a.2.2.2.1.length+1)*32<=140737488355328)).bind fun g=>bnd (a.2.2.2.1++c) fun d=>some (a.1,a.2.1,a.2.2.1,d,a.2.2.2.2)) (some (a.1,a.2.1,a.2.2.1,a.2.2.2.1,a.2.2.2.2))
def M_g(a:Int)(b:Int)(c:Int):Option Bool:=
 cond (decide (b<=a)) (some (decide (a<=c))) (some false)
def Ml(a:Int):Option Bool:=
 cond (decide (97<=a)) (cond (decide (a<=122)) (some true) (cond (decide (48<=a)) (some (decide (a<=57))) (some false))) (cond (decide (48<=a)) (some (decide (a<=57))) (some false))
def M_a(b:ByteArray)(a:Int):Option (Int⊕(Unit⊕Bool)):=
 cond (decide (a<(b.size:Int))) ((wA b a).bind fun c=>(Ml (c.toNat:Int)).bind fun d=>cond (!d) (some (.inr (.inr false))) (some (.inl (A0 .i64 (a+1))))) (some (.inr (.inl ())))
def Mf(a:ByteArray):Option Bool:=
 ((M_g (a.size:Int) 1 8).bind fun c=>cond (!c) (some true) ((wA a 0).bind fun b=>cond (decide ((b.toNat:Int)<97)) (some true) (some (decide (122<(b.toNat:Int))))):Option Bool).bind fun d=>cond (d) (some false) ((aZ (M_a a) N0 0).bind fun g=>(match g with| .inl j=>some true| .inr i=>some i))
def IL(b:List ByteArray)(c:ByteArray)(a:Int):Option (Int⊕(Unit⊕Int)):=
 cond (decide (a<(b.length:Int))) ((bC b a).bind fun d=>cond (d.toList==c.toList) (some (.inr (.inr a))) (some (.inl (A0 .i64 (a+1))))) (some (.inr (.inl ())))
def Ot(a:List ByteArray)(b:ByteArray):Option Int:=
 (aZ (IL a b) N0 0).bind fun c=>(match c with| .inl g=>some (-1)| .inr d=>some d)
def LA(a:aH)(b:Int):Option Bool:=
 (M_g a.A 0 (A0 .i64 (b-1))).bind fun c=>cond (c) ((M_g a.B (A0 .i64 (a.A+1)) (A0 .i64 (b-1))).bind fun d=>cond (d) ((M_g a.N 1 5000).bind fun g=>cond (g) ((M_g a.F 0 9).bind fun i=>some i) (some false)) (some false)) (some false)
def M_s(b:af)(a:Int):Option (Int⊕(Unit⊕Bool)):=
 cond (decide (a<(b.N.length:Int))) (((bC b.N a).bind fun c=>(Mf c).bind fun d=>cond (!d) (some true) ((Ot b.N c).bind fun g=>some (g !=a)):Option Bool).bind fun i=>cond (i) (some (.inr (.inr false))) (some (.inl (A0 .i64 (a+1))))) (some (.inr (.inl ())))
def Kj(b:af)(a:Int):Option (Int⊕(Unit⊕Bool)):=
 cond (decide (a<(b.F.length:Int))) (((bC b.F a).bind fun c=>(LA c (b.N.length:Int)).bind fun d=>cond (!d) (some true) (cond (decide (0<a)) ((bC b.F (A0 .i64 (a-1))).bind fun g=>(zS g c).bind fun i=>some (decide (0<i))) (some false)):Option Bool).bind fun j=>cond (j) (some (.inr (.inr false))) (some (.inl (A0 .i64 (a+1))))) (some (.inr (.inl ())))
def CO(a:af):Option Bool:=
 ((M_g (a.N.length:Int) 2 8).bind fun b=>cond (!b) (some true) (some (decide (14<(a.F.length:Int)))):Option Bool).bind fun c=>cond (c) (some false) ((aZ (M_s a) N0 0).bind fun d=>(match d with| .inl k=>(aZ (Kj a) N0 0).bind fun g=>(match g with| .inl l=>some true| .inr i=>some i)| .inr j=>some j))
def wG(c:af)(d:Int)(b:Int):Option Int:=
 (bC c.F d).bind fun a=>cond (b==a.A) (some a.B) (cond (b==a.B) (some a.A) (some (-1)))
def HZ(b:List Int)(c:Int)(a:Int):Option (Int⊕(Unit⊕Bool)):=
 cond (decide (a<(b.length:Int))) ((bC b a).bind fun d=>cond (d==c) (some (.inr (.inr true))) (some (.inl (A0 .i64 (a+1))))) (some (.inr (.inl ())))
def qx(a:List Int)(b:Int):Option Bool:=
 (aZ (HZ a b) N0 0).bind fun c=>(match c with| .inl g=>some false| .inr d=>some d)
def Hr(c:af)(d:aj)(a:Int×List Int):Option ((Int×List Int)⊕((List Int)⊕(List Int×Bool))):=
 cond (decide (a.1<(d.F.length:Int))) ((bC d.F a.1).bind fun g=>(M_g g 0 (A0 .i64 ((c.F.length:Int)-1))).bind fun i=>cond (!i) (some (.inr (.inr (a.2,false)))) ((grd (0<=(A0 .i64 ((a.2.length:Int)-1))/\(A0 .i64 ((a.2.length:Int)-1))<(a.2.length:Int))).bind fun q=>(a.2[(A2 (A0 .i64 ((a.2.length:Int)-1)))]?).bind fun j=>(wG c g j).bind fun b=>(cond (decide (b<0)) (some true) ((qx a.2 b).bind fun k=>some k):Option Bool).bind fun l=>cond (l) (some (.inr (.inr (a.2,false)))) (bnd ([b]) fun m=>(grd ((a.2.length+1)*8<=140737488355328)).bind fun s=>bnd (a.2++m) fun p=>some (.inl (A0 .i64 (a.1+1),p))))) (some (.inr (.inl a.2)))
def HW(b:af)(a:aj):Option (List Int×Bool):=
 bnd ([a.N]) fun c=>((M_g a.N 0 (A0 .i64 ((b.N.length:Int)-1))).bind fun d=>cond (!d) (some true) (some ((a.F.length:Int)==0)):Option Bool).bind fun g=>cond (g) (some (c,false)) ((aZ (Hr b a) N0 (0,c)).bind fun i=>(match i with| .inl j=>some (j,true)| .inr k=>some k))
def Cv(a:af)(b:aj):Option Bool:=
 (CO a).bind fun c=>cond (!c) (some false) ((HW a b).bind fun d=>some d.2)
def Jh(a:aD):Option Bool:=
 (M_g a.N 0 23).bind fun b=>cond (b) ((M_g a.F 1 (A0 .i64 (24-a.N))).bind fun c=>some c) (some false)
def WK(a:af)(b:aj):Option (List Int):=
 (HW a b).bind fun c=>some c.1
def HT(b:af)(c:aj):Option Int:=
 (WK b c).bind fun a=>(grd (0<=(A0 .i64 ((a.length:Int)-1))/\(A0 .i64 ((a.length:Int)-1))<(a.length:Int))).bind fun g=>(a[(A2 (A0 .i64 ((a.length:Int)-1)))]?).bind fun d=>some d
def M_i(b:af)(c:Int)(a:Int×List Int):Option ((Int×List Int)⊕(List Int)):=
 cond (decide (a.1<(b.F.length:Int))) ((bC b.F a.1).bind fun d=>(bC b.F c).bind fun g=>cond (d.F==g.F) (bnd ([a.1]) fun i=>(grd ((a.2.length+1)*8<=140737488355328)).bind fun k=>bnd (a.2++i) fun j=>some (.inl (A0 .i64 (a.1+1),j))) (some (.inl (A0 .i64 (a.1+1),a.2)))) (some (.inr a.2))
def Bf(b:af)(a:Int):Option (List Int):=
 (bC b.F a).bind fun c=>cond (c.F==0) (bnd ([a]) fun d=>some d) ((aZ (M_i b a) N0 (0,[])).bind fun g=>some g)
def M_t(b:aj)(c:List Int)(a:Int):Option (Int⊕(Unit⊕Bool)):=
 cond (decide (a<(b.F.length:Int))) ((bC b.F a).bind fun d=>(qx c d).bind fun g=>cond (g) (some (.inr (.inr false))) (some (.inl (A0 .i64 (a+1))))) (some (.inr (.inl ())))
def Kn(c:af)(b:aj)(d:aj)(a:Int):Option (Int⊕(Unit⊕Bool)):=
 cond (decide (a<(b.F.length:Int))) (((bC b.F a).bind fun g=>(Bf c g).bind fun i=>(aZ (M_t d i) N0 0).bind fun j=>(match j with| .inl p=>some (.inl ())| .inr k=>some (.inr k)):Option (Unit⊕Bool)).bind fun l=>(match l with| .inl q=>some (.inl (A0 .i64 (a+1)))| .inr m=>some (.inr (.inr m)))) (some (.inr (.inl ())))
def yk(a:af)(b:aj)(c:aj):Option Bool:=
 (aZ (Kn a b c) N0 0).bind fun d=>(match d with| .inl i=>some true| .inr g=>some g)
def Qb(b:af)(a:ae):Option Bool:=
 ((M_g a.Id 1 999).bind fun c=>cond (!c) (some true) ((M_g a.W 0 2).bind fun d=>cond (!d) (some true) ((Cv b a.N).bind fun g=>cond (!g) (some true) ((Jh a.P).bind fun i=>some (!i)))):Option Bool).bind fun j=>cond (j) (some false) (cond (a.W==0) ((cond (a.F.N==0) (cond ((a.F.F.length:Int)==0) (some (a.L.N==0&&a.L.F==0)) (some false)) (some false):Option Bool).bind fun k=>some k) ((Cv b a.F).bind fun l=>cond (l) ((Jh a.L).bind fun m=>cond (m) (cond (a.F.N==a.N.N) ((HT b a.F).bind fun p=>(HT b a.N).bind fun q=>cond (p==q) ((yk b a.N a.F).bind fun s=>some s) (some false)) (some false)) (some false)) (some false)))
def Hz(b:aj)(c:List Int)(a:Int):Option (Int⊕(Unit⊕Bool)):=
 cond (decide (a<(b.F.length:Int))) ((bC b.F a).bind fun d=>(qx c d).bind fun g=>cond (g) (some (.inr (.inr true))) (some (.inl (A0 .i64 (a+1))))) (some (.inr (.inl ())))
def OE(a:aj)(b:List Int):Option Bool:=
 (aZ (Hz a b) N0 0).bind fun c=>(match c with| .inl g=>some false| .inr d=>some d)
def GW(a:aD):Option Int:=
 (grd (0<=(A0 .u64 a.F))).bind fun b=>(grd (0<=(A0 .u64 a.N))).bind fun c=>some (A0 .i64 ((A0 .i64 ((A0 .i64 (1*2^(min (A2 (A0 .u64 a.F)) (A3 .i64))))-1))*2^(min (A2 (A0 .u64 a.N)) (A3 .i64))))
def yT(c:aj)(a:aD)(d:aj)(b:aD):Option Bool:=
 (OE c d.F).bind fun g=>cond (g) (cond (decide (0<a.F)) (cond (decide (0<b.F)) ((GW a).bind fun i=>(GW b).bind fun j=>some ((bits .and .i64 i j) !=0)) (some false)) (some false)) (some false)
def IU(c:af)(a:ae)(b:ae):Option Bool:=
 ((yT a.N a.P b.N b.P).bind fun d=>cond (d) (some true) ((yT a.N a.P b.F b.L).bind fun g=>cond (g) (some true) ((yT a.F a.L b.N b.P).bind fun i=>some i)):Option Bool).bind fun j=>cond (j) (some false) ((cond (a.W==2) (cond (b.W==2) ((yk c a.N b.N).bind fun k=>some k) (some false)) (some false):Option Bool).bind fun l=>cond (l) (some true) ((yT a.F a.L b.F b.L).bind fun m=>some (!m)))
def BK(d:af)(b:List ae)(c:Int)(a:Int):Option (Int⊕(Unit⊕Bool)):=
 cond (decide (a<c)) ((bC b a).bind fun g=>(bC b c).bind fun i=>(IU d g i).bind fun j=>cond (!j) (some (.inr (.inr false))) (some (.inl (A0 .i64 (a+1))))) (some (.inr (.inl ())))
def GL(c:af)(b:List ae)(a:Int):Option (Int⊕(Unit⊕Bool)):=
 cond (decide (a<(b.length:Int))) ((((bC b a).bind fun d=>(Qb c d).bind fun g=>cond (!g) (some true) (cond (decide (0<a)) ((bC b (A0 .i64 (a-1))).bind fun i=>some (decide (d.Id<=i.Id))) (some false)):Option Bool).bind fun j=>cond (j) (some (.inr false)) ((aZ (BK c b a) N0 0).bind fun k=>(match k with| .inl q=>some (.inl ())| .inr l=>some (.inr l))):Option (Unit⊕Bool)).bind fun m=>(match m with| .inl s=>some (.inl (A0 .i64 (a+1)))| .inr p=>some (.inr (.inr p)))) (some (.inr (.inl ())))
def Nb(a:af)(b:List ae):Option Bool:=
 ((CO a).bind fun c=>cond (!c) (some true) (some (decide (8<(b.length:Int)))):Option Bool).bind fun d=>cond (d) (some false) ((aZ (GL a b) N0 0).bind fun g=>(match g with| .inl j=>some true| .inr i=>some i))
def Gc(c:List aA)(a:Int):Option (Int⊕(Unit⊕Bool)):=
 (cond (decide (a<(c.length:Int))) (some (decide (a<=6))) (some false):Option Bool).bind fun g=>cond (g) (((bC c a).bind fun b=>(M_g b.N 1 20000).bind fun i=>cond (!i) (some true) ((M_g b.F 1 1000).bind fun j=>cond (!j) (some true) (cond (decide (0<a)) ((bC c (A0 .i64 (a-1))).bind fun d=>cond (decide (d.N<=b.N)) (some true) (some (decide (b.F<=d.F)))) (some false))):Option Bool).bind fun k=>cond (k) (some (.inr (.inr false))) (some (.inl (A0 .i64 (a+1))))) (some (.inr (.inl ())))
def NY(a:List aA):Option Bool:=
 (aZ (Gc a) N0 0).bind fun b=>(match b with| .inl g=>(M_g (a.length:Int) 1 6).bind fun c=>some c| .inr d=>some d)
def Ny(b:af)(a:aO):Option Bool:=
 (M_g a.N 0 (A0 .i64 ((b.N.length:Int)-1))).bind fun c=>cond (c) ((M_g a.L 0 (A0 .i64 ((b.N.length:Int)-1))).bind fun d=>cond (d) (cond (a.N !=a.L) ((M_g a.F 1 1000).bind fun g=>cond (g) ((M_g a.W 0 2).bind fun i=>some i) (some false)) (some false)) (some false)) (some false)
def M_e(c:af)(b:aj)(a:Int×Int):Option ((Int×Int)⊕Int):=
 cond (decide (a.2<(b.F.length:Int))) ((bC b.F a.2).bind fun d=>(bC c.F d).bind fun g=>some (.inl (A0 .i64 (a.1+g.N),A0 .i64 (a.2+1)))) (some (.inr a.1))
def py(a:af)(b:aj):Option Int:=
 (aZ (M_e a b) N0 (0,0)).bind fun c=>some c
def zF(a:Int):Option Int:=
 cond (decide (a<0)) (some (-1)) (cond (decide (0<a)) (some 1) (some 0))
def IW(b:aj)(g:aj)(a:Int):Option (Int⊕(Unit⊕Int)):=
 cond (decide (a<(b.F.length:Int))) ((bC b.F a).bind fun c=>(bC g.F a).bind fun d=>cond (c !=d) ((zF (A0 .i64 (c-d))).bind fun i=>some (.inr (.inr i))) (some (.inl (A0 .i64 (a+1))))) (some (.inr (.inl ())))
def Iz(c:af)(a:aj)(b:aj):Option Int:=
 (py c a).bind fun d=>(py c b).bind fun g=>cond ((A0 .i64 (d-g)) !=0) ((zF (A0 .i64 (d-g))).bind fun i=>some i) (cond ((A0 .i64 ((a.F.length:Int)-(b.F.length:Int))) !=0) ((zF (A0 .i64 ((a.F.length:Int)-(b.F.length:Int)))).bind fun j=>some j) ((aZ (IW a b) N0 0).bind fun k=>(match k with| .inl p=>(zF (A0 .i64 (a.N-b.N))).bind fun l=>some l| .inr m=>some m)))
def pw(a:List Int):Option (List Int):=
 (grd (a.length*8<=140737488355328)).bind fun b=>some a
def QI(b:List aA)(c:Int)(a:Int×Int):Option ((Int×Int)⊕Int):=
 cond (decide (a.2<(b.length:Int))) ((bC b a.2).bind fun d=>cond (decide (c<=d.N)) (some (.inl (a.2,A0 .i64 (a.2+1)))) (some (.inl (a.1,A0 .i64 (a.2+1))))) (some (.inr a.1))
def Lu(a:List aA)(b:Int):Option Int:=
 (aZ (QI a b) N0 ((-1),0)).bind fun c=>some c
def Br(b:List aA)(g:Int)(c:Int):Option Int:=
 (Lu b g).bind fun d=>cond (decide (d<0)) (some 0) ((bC b d).bind fun a=>(grd (a.F≠0)).bind fun i=>cond (decide (24<(A0 .i64 (G3 (A0 .i64 ((A0 .i64 (c+a.F))-1)) a.F)))) (some 0) (some (A0 .i64 (G3 (A0 .i64 ((A0 .i64 (c+a.F))-1)) a.F))))
def Sf(b:List aj)(c:List Int)(a:Int×Int):Option ((Int×Int)⊕Int):=
 cond (decide (a.2<(b.length:Int))) ((cond (decide (a.1<0)) (some true) ((bC c a.2).bind fun d=>(bC b a.2).bind fun g=>(bC c a.1).bind fun i=>(bC b a.1).bind fun j=>some (decide ((A0 .i64 (d*(g.F.length:Int)))<(A0 .i64 (i*(j.F.length:Int)))))):Option Bool).bind fun k=>cond (k) (some (.inl (a.2,A0 .i64 (a.2+1)))) (some (.inl (a.1,A0 .i64 (a.2+1))))) (some (.inr a.1))
def KK(a:List aj)(b:List Int):Option Int:=
 (aZ (Sf a b) N0 ((-1),0)).bind fun c=>some c
def Ht(k:af)(j:List aj)(l:List Int)(d:Int×Int×Int×Int)(a:Int×Int×Int×Int):Option ((Int×Int×Int×Int)⊕(Int×Int×Int)):=
 cond (decide (a.2.2.2<(j.length:Int))) ((bC l d.2.2.2).bind fun g=>(bC j d.2.2.2).bind fun b=>(bC l a.2.2.2).bind fun i=>(bC j a.2.2.2).bind fun c=>(cond (d.2.2.2==a.2.2.2) (some true) (cond (decide ((A0 .i64 (i*(c.F.length:Int)))<(A0 .i64 (g*(b.F.length:Int))))) (some true) (cond ((A0 .i64 (g*(b.F.length:Int)))==(A0 .i64 (i*(c.F.length:Int)))) (cond (decide (a.2.2.2<d.2.2.2)) (some true) ((yk k b c).bind fun m=>some (!m))) ((yk k b c).bind fun p=>some (!p)))):Option Bool).bind fun q=>cond (q) (some (.inl (a.1,a.2.1,a.2.2.1,A0 .i64 (a.2.2.2+1)))) ((cond (decide (a.1<0)) (some true) (some (decide ((A0 .i64 ((A0 .i64 (g*(b.F.length:Int)))+(A0 .i64 (i*(c.F.length:Int)))))<a.2.2.1))):Option Bool).bind fun s=>cond (s) (some (.inl (d.2.2.2,a.2.2.2,A0 .i64 ((A0 .i64 (g*(b.F.length:Int)))+(A0 .i64 (i*(c.F.length:Int)))),A0 .i64 (a.2.2.2+1)))) (some (.inl (a.1,a.2.1,a.2.2.1,A0 .i64 (a.2.2.2+1)))))) (some (.inr (a.1,a.2.1,a.2.2.1)))
def Mh(g:af)(d:List aj)(i:List Int)(a:Int×Int×Int×Int):Option ((Int×Int×Int×Int)⊕(Int×Int)):=
 cond (decide (a.2.2.2<(d.length:Int))) (((aZ (Ht g d i a) N0 (a.1,a.2.1,a.2.2.1,0)).bind fun b=>some (b.1,b.2.1,b.2.2):Option (Int×Int×Int)).bind fun c=>some (.inl (c.1,c.2.1,c.2.2,A0 .i64 (a.2.2.2+1)))) (some (.inr (a.1,a.2.1)))
def KU(b:af)(c:List aj)(d:List Int):Option (Int×Int):=
 (aZ (Mh b c d) N0 ((-1),(-1),0,0)).bind fun a=>some (a.1,a.2)
def Kq(c:af)(b:List ae)(d:ae)(a:Int):Option (Int⊕(Unit⊕Bool)):=
 cond (decide (a<(b.length:Int))) ((bC b a).bind fun g=>(IU c g d).bind fun i=>cond (!i) (some (.inr (.inr false))) (some (.inl (A0 .i64 (a+1))))) (some (.inr (.inl ())))
def tP(a:af)(b:List ae)(c:ae):Option Bool:=
 (aZ (Kq a b c) N0 0).bind fun d=>(match d with| .inl i=>some true| .inr g=>some g)
def aao(c:aj)(d:List ByteArray)(g:List aH)(b:List aj)(a:Int):Option (Int⊕Int):=
 cond (decide (0<a)) ((grd (0<=(A0 .i64 (a-1))/\(A0 .i64 (a-1))<(b.length:Int))).bind fun k=>(b[(A2 (A0 .i64 (a-1)))]?).bind fun i=>(Iz (⟨d,g⟩:af) c i).bind fun j=>cond (decide (j<0)) (some (.inl (A0 .i64 (a-1)))) (some (.inr a))) (some (.inr a))
def afk(d:aj)(g:List ByteArray)(i:List aH)(l:Int)(a:List aj):Option (List ByteArray×List aH×Int×List aj×List aj):=
 (aZ (aao d g i a) N0 (a.length:Int)).bind fun b=>(grd (True/\0<=b/\True/\A2 b<=a.length)).bind fun q=>bnd (cY a 0 (A2 b)) fun c=>(grd (c.length*32<=140737488355328)).bind fun s=>bnd ([d]) fun m=>(grd ((c.length+1)*32<=140737488355328)).bind fun t=>bnd (c++m) fun j=>(grd (0<=b/\True/\A2 b<=a.length/\True)).bind fun u=>bnd (cY a (A2 b) (a.length-(A2 b))) fun k=>(grd ((j.length+k.length)*32<=140737488355328)).bind fun v=>bnd (j++k) fun p=>some (g,i,l,p,a)
def JM(c:aj)(d:List ByteArray)(g:List aH)(b:List aj)(a:Int):Option (Int⊕Int):=
 cond (decide (0<a)) ((grd (0<=(A0 .i64 (a-1))/\(A0 .i64 (a-1))<(b.length:Int))).bind fun k=>(b[(A2 (A0 .i64 (a-1)))]?).bind fun i=>(Iz (⟨d,g⟩:af) c i).bind fun j=>cond (decide (j<0)) (some (.inl (A0 .i64 (a-1)))) (some (.inr a))) (some (.inr a))
def PF(d:aj)(g:List ByteArray)(i:List aH)(l:Int)(a:List aj):Option (List ByteArray×List aH×Int×List aj×List aj):=
 (aZ (JM d g i a) N0 (a.length:Int)).bind fun b=>(grd (True/\0<=b/\True/\A2 b<=a.length)).bind fun q=>bnd (cY a 0 (A2 b)) fun c=>(grd (c.length*32<=140737488355328)).bind fun s=>bnd ([d]) fun m=>(grd ((c.length+1)*32<=140737488355328)).bind fun t=>bnd (c++m) fun j=>(grd (0<=b/\True/\A2 b<=a.length/\True)).bind fun u=>bnd (cY a (A2 b) (a.length-(A2 b))) fun k=>(grd ((j.length+k.length)*32<=140737488355328)).bind fun v=>bnd (j++k) fun p=>some (g,i,l,p,a)
def KC(j:Int)(k:List Int)(d:List Int)(l:Int->List ByteArray->List aH->Int->List aj->List Int->List Int->Option (List ByteArray×List aH×Int×List aj×List Int))(m:Int)(a:Int×List ByteArray×List aH×Int×List aj):Option ((Int×List ByteArray×List aH×Int×List aj)⊕(List ByteArray×List aH×Int×List aj)):=
 (cond (decide (a.1<(a.2.2.1.length:Int))) (some (decide ((a.2.2.2.2.length:Int)<=200))) (some false):Option Bool).bind fun p=>cond (p) ((wG (⟨a.2.1,a.2.2.1⟩:af) a.1 m).bind fun c=>(cond (decide (0<=c)) ((qx d c).bind fun q=>some (!q)) (some false):Option Bool).bind fun s=>cond (s) ((pw k).bind fun g=>bnd ([a.1]) fun t=>(grd ((g.length+1)*8<=140737488355328)).bind fun x=>bnd (g++t) fun u=>(pw d).bind fun i=>bnd ([c]) fun v=>(grd ((i.length+1)*8<=140737488355328)).bind fun y=>bnd (i++v) fun w=>(l j a.2.1 a.2.2.1 a.2.2.2.1 a.2.2.2.2 u w).bind fun b=>some (.inl (A0 .i64 (a.1+1),b.1,b.2.1,b.2.2.1,b.2.2.2.1))) (some (.inl (A0 .i64 (a.1+1),a.2.1,a.2.2.1,a.2.2.2.1,a.2.2.2.2)))) (some (.inr (a.2.1,a.2.2.1,a.2.2.2.1,a.2.2.2.2)))
def GS(p:Int->List ByteArray->List aH->Int->List aj->List Int->List Int->Option (List ByteArray×List aH×Int×List aj×List Int))(g:Int)(i:List ByteArray)(j:List aH)(d:Int)(k:List aj)(l:List Int)(a:List Int):Option (List ByteArray×List aH×Int×List aj×List Int):=
 (grd (0<=(A0 .i64 ((a.length:Int)-1))/\(A0 .i64 ((a.length:Int)-1))<(a.length:Int))).bind fun q=>(a[(A2 (A0 .i64 ((a.length:Int)-1)))]?).bind fun m=>cond (m==d) ((PF (⟨g,l⟩:aj) i j d k).bind fun b=>some (b.1,b.2.1,b.2.2.1,b.2.2.2.1,a)) ((aZ (KC g l a p m) N0 (0,i,j,d,k)).bind fun c=>some (c.1,c.2.1,c.2.2.1,c.2.2.2,a))
def CN:Nat->Int->List ByteArray->List aH->Int->List aj->List Int->List Int->Option (List ByteArray×List aH×Int×List aj×List Int)
 |0,_,_,_,_,_,_,_=>none
 |n+1,a,b,c,d,g,i,j=>GS (CN n) a b c d g i j
def aes(j:Int)(d:List Int)(k:Int)(a:Int×List ByteArray×List aH×Int×List aj):Option ((Int×List ByteArray×List aH×Int×List aj)⊕(List ByteArray×List aH×Int×List aj)):=
 (cond (decide (a.1<(a.2.2.1.length:Int))) (some (decide ((a.2.2.2.2.length:Int)<=200))) (some false):Option Bool).bind fun l=>cond (l) ((wG (⟨a.2.1,a.2.2.1⟩:af) a.1 k).bind fun c=>(cond (decide (0<=c)) ((qx d c).bind fun m=>some (!m)) (some false):Option Bool).bind fun p=>cond (p) ((pw ([])).bind fun g=>bnd ([a.1]) fun q=>(grd ((g.length+1)*8<=140737488355328)).bind fun v=>bnd (g++q) fun s=>(pw d).bind fun i=>bnd ([c]) fun t=>(grd ((i.length+1)*8<=140737488355328)).bind fun w=>bnd (i++t) fun u=>(CN N0 j a.2.1 a.2.2.1 a.2.2.2.1 a.2.2.2.2 s u).bind fun b=>some (.inl (A0 .i64 (a.1+1),b.1,b.2.1,b.2.2.1,b.2.2.2.1))) (some (.inl (A0 .i64 (a.1+1),a.2.1,a.2.2.1,a.2.2.2.1,a.2.2.2.2)))) (some (.inr (a.2.1,a.2.2.1,a.2.2.2.1,a.2.2.2.2)))
def UC(g:Int)(i:List ByteArray)(j:List aH)(d:Int)(a:List Int):Option (List ByteArray×List aH×Int×List aj×List Int):=
 (grd (0<=(A0 .i64 ((a.length:Int)-1))/\(A0 .i64 ((a.length:Int)-1))<(a.length:Int))).bind fun l=>(a[(A2 (A0 .i64 ((a.length:Int)-1)))]?).bind fun k=>cond (k==d) ((afk (⟨g,[]⟩:aj) i j d ([])).bind fun b=>some (b.1,b.2.1,b.2.2.1,b.2.2.2.1,a)) ((aZ (aes g a k) N0 (0,i,j,d,[])).bind fun c=>some (c.1,c.2.1,c.2.2.1,c.2.2.2,a))
def HF(b:af)(c:Int)(d:Int):Option (Bool×List aj):=
 bnd ([c]) fun g=>(UC c ((b).N) ((b).F) d g).bind fun a=>cond (decide (200<(a.2.2.2.1.length:Int))) (some (false,[])) ((grd (a.2.2.2.1.length*32<=140737488355328)).bind fun i=>some (true,a.2.2.2.1))
def HE(g:af)(i:Nat)(j:Nat)(k:aO)(l:List aA)(b:Bool×List aj)(a:Int×List aj×List Int):Option ((Int×List aj×List Int)⊕(List aj×List Int)):=
 cond (decide (a.1<(b.2.length:Int))) ((grd (0<=a.1/\a.1<(b.2.length:Int))).bind fun v=>(b.2[(A2 a.1)]?).bind fun c=>(py g c).bind fun m=>bnd (cY l i j) fun p=>(Br p m ((k).F)).bind fun d=>cond (decide (0<d)) (bnd ([c]) fun q=>(grd ((a.2.1.length+1)*32<=140737488355328)).bind fun w=>bnd (a.2.1++q) fun s=>bnd ([d]) fun t=>(grd ((a.2.2.length+1)*8<=140737488355328)).bind fun x=>bnd (a.2.2++t) fun u=>some (.inl (A0 .i64 (a.1+1),s,u))) (some (.inl (A0 .i64 (a.1+1),a.2.1,a.2.2)))) (some (.inr (a.2.1,a.2.2)))
def TG(c:af)(i:Nat)(j:Nat)(a:aO)(b:List aA):Option (Bool×List aj×List Int×List aA):=
 (HF c ((a).N) ((a).L)).bind fun d=>cond (!d.1) (some (false,[],[],b)) ((aZ (HE c i j a b d) N0 (0,[],[])).bind fun g=>some (true,g.1,g.2,b))
def Gx(b:af)(d:Nat)(g:Nat)(i:aO)(c:List aA):Option (Bool×List aj×List Int×List aA):=
 ((CO b).bind fun j=>cond (!j) (some true) (bnd (cY c d g) fun k=>(NY k).bind fun l=>cond (!l) (some true) ((Ny b i).bind fun m=>some (!m))):Option Bool).bind fun p=>cond (p) (some (false,[],[],c)) ((TG b d g i c).bind fun a=>some (a.1,a.2.1,a.2.2.1,a.2.2.2))
def NO(c:af)(d:Nat)(g:Nat)(i:aO)(j:List aA):Option (aj×aj×Bool×List aA):=
 (Gx c d g i j).bind fun a=>cond (!a.1) (some ((⟨0,[]⟩:aj),(⟨0,[]⟩:aj),false,a.2.2.2)) ((KU c a.2.1 a.2.2.1).bind fun b=>cond (decide (b.1<0)) (some ((⟨0,[]⟩:aj),(⟨0,[]⟩:aj),false,a.2.2.2)) ((grd (0<=b.1/\b.1<(a.2.1.length:Int))).bind fun m=>(a.2.1[(A2 b.1)]?).bind fun k=>(grd (0<=b.2/\b.2<(a.2.1.length:Int))).bind fun p=>(a.2.1[(A2 b.2)]?).bind fun l=>some (k,l,true,a.2.2.2)))
def Sy(a:aj):Option aj:=
 (pw a.F).bind fun b=>some (⟨a.N,b⟩:aj)
def zp(a:ae):Option ae:=
 (Sy a.N).bind fun b=>(Sy (⟨a.F.N,a.F.F⟩:aj)).bind fun c=>some (⟨a.Id,a.W,(⟨b.N,b.F⟩:aj),(⟨a.P.N,a.P.F⟩:aD),(⟨c.N,c.F⟩:aj),(⟨a.L.N,a.L.F⟩:aD)⟩:ae)
def Ap(c:List ae)(d:ae)(b:Int×List ae):Option ((Int×List ae)⊕(Int×List ae)):=
 (cond (decide (b.1<(c.length:Int))) ((bC c b.1).bind fun g=>some (decide (g.Id<d.Id))) (some false):Option Bool).bind fun i=>cond (i) ((bC c b.1).bind fun j=>(zp j).bind fun a=>bnd ([(⟨a.Id,a.W,(⟨a.N.N,a.N.F⟩:aj),(⟨a.P.N,a.P.F⟩:aD),(⟨a.F.N,a.F.F⟩:aj),(⟨a.L.N,a.L.F⟩:aD)⟩:ae)]) fun k=>(grd ((b.2.length+1)*112<=140737488355328)).bind fun m=>bnd (b.2++k) fun l=>some (.inl (A0 .i64 (b.1+1),l))) (some (.inr (b.1,b.2)))
def Be(c:List ae)(b:Int×List ae):Option ((Int×List ae)⊕(List ae)):=
 cond (decide (b.1<(c.length:Int))) ((bC c b.1).bind fun d=>(zp d).bind fun a=>bnd ([(⟨a.Id,a.W,(⟨a.N.N,a.N.F⟩:aj),(⟨a.P.N,a.P.F⟩:aD),(⟨a.F.N,a.F.F⟩:aj),(⟨a.L.N,a.L.F⟩:aD)⟩:ae)]) fun g=>(grd ((b.2.length+1)*112<=140737488355328)).bind fun j=>bnd (b.2++g) fun i=>some (.inl (A0 .i64 (b.1+1),i))) (some (.inr b.2))
def GB(c:List ae)(d:ae):Option (List ae):=
 (aZ (Ap c d) N0 (0,[])).bind fun b=>(zp d).bind fun a=>bnd ([(⟨a.Id,a.W,(⟨a.N.N,a.N.F⟩:aj),(⟨a.P.N,a.P.F⟩:aD),(⟨a.F.N,a.F.F⟩:aj),(⟨a.L.N,a.L.F⟩:aD)⟩:ae)]) fun g=>(grd ((b.2.length+1)*112<=140737488355328)).bind fun k=>bnd (b.2++g) fun i=>(aZ (Be c) N0 (b.1,i)).bind fun j=>some j
def Ax(c:af)(m:aG):Option (aO×aG):=
 (M_b (((c).N).length:Int) m).bind fun a=>(M_b (A0 .i64 ((((c).N).length:Int)-1)) a.2).bind fun d=>(grd ((((c).N).length:Int)≠0)).bind fun t=>bnd ([10,20,40,50,90,120]) fun p=>(nF d.2 p).bind fun g=>(M_b 3 g.2.1).bind fun i=>(M_b 48 i.2).bind fun b=>cond (b.1==0) ((M_b 10 b.2).bind fun j=>some ((⟨a.1,A0 .i64 (j.1-1),g.1,i.1⟩:aO),j.2)) (cond (b.1==1) (bnd ([0,1,1000,1001]) fun q=>(nF b.2 q).bind fun k=>some ((⟨a.1,A9 (A0 .i64 ((A0 .i64 (a.1+1))+d.1)) (((c).N).length:Int),k.1,i.1⟩:aO),k.2.1)) (cond (b.1==2) (bnd ([(-1),3]) fun s=>(nF b.2 s).bind fun l=>some ((⟨a.1,A9 (A0 .i64 ((A0 .i64 (a.1+1))+d.1)) (((c).N).length:Int),g.1,l.1⟩:aO),l.2.1)) (some ((⟨a.1,A9 (A0 .i64 ((A0 .i64 (a.1+1))+d.1)) (((c).N).length:Int),g.1,i.1⟩:aO),b.2))))
def KD(c:af)(d:Nat)(g:Nat)(i:aO)(j:List aA):Option (aj×Int×Bool×List aA):=
 (Gx c d g i j).bind fun a=>(KK a.2.1 a.2.2.1).bind fun b=>(cond (!a.1) (some true) (some (decide (b<0))):Option Bool).bind fun k=>cond (k) (some ((⟨0,[]⟩:aj),0,false,a.2.2.2)) ((grd (0<=b/\b<(a.2.1.length:Int))).bind fun p=>(a.2.1[(A2 b)]?).bind fun l=>(grd (0<=b/\b<(a.2.2.1.length:Int))).bind fun q=>(a.2.2.1[(A2 b)]?).bind fun m=>some (l,m,true,a.2.2.2))
def M_q(d:af)(g:Nat)(i:Nat)(j:ae)(b:Int)(c:List ae)(a:Int×ae):Option ((Int×ae)⊕(ae⊕(ae×Bool×List ae))):=
 cond (decide (24<(A0 .i64 (a.1+b)))) (some (.inr (.inr (j,false,c)))) (bnd (cY c g i) fun k=>(tP d k (⟨(a.2).Id,(a.2).W,(⟨((a.2).N).N,((a.2).N).F⟩:aj),(⟨a.1,b⟩:aD),(⟨((a.2).F).N,((a.2).F).F⟩:aj),(⟨((a.2).L).N,((a.2).L).F⟩:aD)⟩:ae)).bind fun l=>cond (l) (some (.inr (.inl (⟨(a.2).Id,(a.2).W,(⟨((a.2).N).N,((a.2).N).F⟩:aj),(⟨a.1,b⟩:aD),(⟨((a.2).F).N,((a.2).F).F⟩:aj),(⟨((a.2).L).N,((a.2).L).F⟩:aD)⟩:ae)))) (some (.inl (A0 .i64 (a.1+1),(⟨(a.2).Id,(a.2).W,(⟨((a.2).N).N,((a.2).N).F⟩:aj),(⟨a.1,b⟩:aD),(⟨((a.2).F).N,((a.2).F).F⟩:aj),(⟨((a.2).L).N,((a.2).L).F⟩:aD)⟩:ae)))))
def M_r(d:af)(g:Nat)(i:Nat)(b:Int)(c:List ae)(a:Int×ae):Option ((Int×ae)⊕(ae⊕(ae×Bool×List ae))):=
 cond (decide ((A0 .i64 (a.1+b))<=24)) (bnd (cY c g i) fun j=>(tP d j (⟨(a.2).Id,(a.2).W,(⟨((a.2).N).N,((a.2).N).F⟩:aj),(⟨((a.2).P).N,((a.2).P).F⟩:aD),(⟨((a.2).F).N,((a.2).F).F⟩:aj),(⟨a.1,b⟩:aD)⟩:ae)).bind fun k=>cond (k) (some (.inr (.inr ((⟨(a.2).Id,(a.2).W,(⟨((a.2).N).N,((a.2).N).F⟩:aj),(⟨((a.2).P).N,((a.2).P).F⟩:aD),(⟨((a.2).F).N,((a.2).F).F⟩:aj),(⟨a.1,b⟩:aD)⟩:ae),true,c)))) (some (.inl (A0 .i64 (a.1+1),(⟨(a.2).Id,(a.2).W,(⟨((a.2).N).N,((a.2).N).F⟩:aj),(⟨((a.2).P).N,((a.2).P).F⟩:aD),(⟨((a.2).F).N,((a.2).F).F⟩:aj),(⟨a.1,b⟩:aD)⟩:ae))))) (some (.inr (.inl a.2)))
def yI(d:af)(g:Nat)(i:Nat)(a:ae)(j:Int)(k:Int)(b:List ae):Option (ae×Bool×List ae):=
 (aZ (M_q d g i a j b) N0 (0,(⟨0,0,(⟨((a).N).N,((a).N).F⟩:aj),(⟨0,0⟩:aD),(⟨0,[]⟩:aj),(⟨0,0⟩:aD)⟩:ae))).bind fun l=>(match l with| .inl c=>cond (((a).W)==0) (some ((⟨(a).Id,(a).W,(⟨((a).N).N,((a).N).F⟩:aj),(⟨((c).P).N,((c).P).F⟩:aD),(⟨((a).F).N,((a).F).F⟩:aj),(⟨((a).L).N,((a).L).F⟩:aD)⟩:ae),true,b)) ((aZ (M_r d g i k b) N0 (0,(⟨(a).Id,(a).W,(⟨((a).N).N,((a).N).F⟩:aj),(⟨((c).P).N,((c).P).F⟩:aD),(⟨((a).F).N,((a).F).F⟩:aj),(⟨((a).L).N,((a).L).F⟩:aD)⟩:ae))).bind fun m=>(match m with| .inl p=>some (p,false,b)| .inr q=>some q))| .inr s=>some s)
def M_d(c:Nat)(b:Nat)(d:List ae)(a:Int×ae):Option ((Int×ae)⊕ae):=
 (cond (decide (a.1<(b:Int))) ((grd (0<=a.1/\a.1<(b:Int))).bind fun j=>(d[(c+(A2 a.1))]?).bind fun g=>some (g.Id==((a.2).Id))) (some false):Option Bool).bind fun i=>cond (i) (some (.inl (A0 .i64 (a.1+1),(⟨A0 .i64 (((a.2).Id)+1),(a.2).W,(⟨((a.2).N).N,((a.2).N).F⟩:aj),(⟨((a.2).P).N,((a.2).P).F⟩:aD),(⟨((a.2).F).N,((a.2).F).F⟩:aj),(⟨((a.2).L).N,((a.2).L).F⟩:aD)⟩:ae)))) (some (.inr a.2))
def AR(d:af)(l:Nat)(m:Nat)(p:Nat)(i:Nat)(c:aO)(s:List aA)(j:List ae):Option (Int×Bool×List ae×List aA×List ae):=
 (bnd (cY j p i) fun t=>(Nb d t).bind fun u=>cond (!u) (some true) (some ((i:Int)==8)):Option Bool).bind fun v=>cond (v) (some (0,false,[],s,j)) ((aZ (M_d p i j) N0 (0,(⟨1,(c).W,(⟨0,[]⟩:aj),(⟨0,0⟩:aD),(⟨0,[]⟩:aj),(⟨0,0⟩:aD)⟩:ae))).bind fun b=>(KD d l m c s).bind fun q=>(cond (((c).W) !=0) ((NO d l m c q.2.2.2).bind fun k=>some (k.2.2.1,(⟨(b).Id,(b).W,(⟨((b).N).N,((b).N).F⟩:aj),(⟨((b).P).N,((b).P).F⟩:aD),(⟨(k.2.1).N,(k.2.1).F⟩:aj),(⟨((b).L).N,((b).L).F⟩:aD)⟩:ae),k.1,k.2.2.2)) (some (q.2.2.1,b,q.1,q.2.2.2)):Option (Bool×ae×aj×List aA)).bind fun a=>cond (!a.1) (some (0,false,[],a.2.2.2,j)) ((cond (((c).W) !=0) ((py d a.2.1.F).bind fun w=>bnd (cY a.2.2.2 l m) fun x=>(Br x w ((c).F)).bind fun y=>some y) (some 0):Option Int).bind fun z=>(py d a.2.2.1).bind fun a1=>bnd (cY a.2.2.2 l m) fun b1=>(Br b1 a1 ((c).F)).bind fun c1=>(yI d p i (⟨(a.2.1).Id,(a.2.1).W,(⟨(a.2.2.1).N,(a.2.2.1).F⟩:aj),(⟨((a.2.1).P).N,((a.2.1).P).F⟩:aD),(⟨((a.2.1).F).N,((a.2.1).F).F⟩:aj),(⟨((a.2.1).L).N,((a.2.1).L).F⟩:aD)⟩:ae) c1 z j).bind fun g=>cond (!g.2.1) (some (0,false,[],a.2.2.2,g.2.2)) (bnd (cY g.2.2 p i) fun d1=>(GB d1 g.1).bind fun g1=>some ((g.1).Id,true,g1,a.2.2.2,g.2.2))))
def Rk(d:Nat×Nat×List ByteArray×List aH×aG)(g:List ByteArray)(a:Nat×Nat×Int×List ae×List aA×aG):Option ((Nat×Nat×Int×List ae×List aA×aG)⊕(Nat×List ae×aG)):=
 cond (decide (0<a.2.2.1)) ((Ax (⟨g,d.2.2.2.1⟩:af) a.2.2.2.2.2).bind fun c=>(AR (⟨g,d.2.2.2.1⟩:af) 0 a.2.1 0 a.1 c.1 a.2.2.2.2.1 a.2.2.2.1).bind fun b=>cond (b.2.1) (some (.inl (b.2.2.1.length,a.2.1,A0 .i64 (a.2.2.1-1),b.2.2.1,b.2.2.2.1,c.2))) (some (.inl (a.1,a.2.1,A0 .i64 (a.2.2.1-1),b.2.2.2.2,b.2.2.2.1,c.2)))) (some (.inr (a.1,a.2.2.2.1,a.2.2.2.2.2)))
def Sb(g:aG):Option (af×Nat×Nat×List ae×aG):=
 (NW g).bind fun a=>bnd (cY a.2.2.1 a.1 a.2.1) fun c=>bnd ([(⟨3000,10⟩:aA),(⟨900,20⟩:aA)]) fun i=>(M_b 6 a.2.2.2.2).bind fun d=>(aZ (Rk a c) N0 (0,2,d.1,[],i,d.2)).bind fun b=>some ((⟨c,a.2.2.2.1⟩:af),0,b.1,b.2.1,b.2.2)
def Kf(c:af)(b:Int×List Int×List Int×aG)(a:Int×List Int):Option ((Int×List Int)⊕(List Int)):=
 cond (decide (a.1<(((c).F).length:Int))) ((grd (0<=(A0 .i64 ((b.2.1.length:Int)-1))/\(A0 .i64 ((b.2.1.length:Int)-1))<(b.2.1.length:Int))).bind fun m=>(b.2.1[(A2 (A0 .i64 ((b.2.1.length:Int)-1)))]?).bind fun g=>(wG c a.1 g).bind fun d=>(cond (decide (0<=d)) ((qx b.2.1 d).bind fun i=>some (!i)) (some false):Option Bool).bind fun j=>cond (j) (bnd ([a.1]) fun k=>(grd ((a.2.length+1)*8<=140737488355328)).bind fun p=>bnd (a.2++k) fun l=>some (.inl (A0 .i64 (a.1+1),l))) (some (.inl (A0 .i64 (a.1+1),a.2)))) (some (.inr a.2))
def RL(d:af)(a:Int×List Int×List Int×aG):Option ((Int×List Int×List Int×aG)⊕(List Int×aG)):=
 cond (decide (0<a.1)) ((aZ (Kf d a) N0 (0,[])).bind fun b=>cond ((b.length:Int)==0) (some (.inr (a.2.2.1,a.2.2.2))) ((M_b (b.length:Int) a.2.2.2).bind fun c=>(grd (0<=c.1/\c.1<(b.length:Int))).bind fun q=>(b[(A2 c.1)]?).bind fun g=>bnd ([g]) fun i=>(grd ((a.2.2.1.length+1)*8<=140737488355328)).bind fun s=>bnd (a.2.2.1++i) fun j=>(grd (0<=(A0 .i64 ((a.2.1.length:Int)-1))/\(A0 .i64 ((a.2.1.length:Int)-1))<(a.2.1.length:Int))).bind fun t=>(a.2.1[(A2 (A0 .i64 ((a.2.1.length:Int)-1)))]?).bind fun k=>(wG d g k).bind fun l=>bnd ([l]) fun m=>(grd ((a.2.1.length+1)*8<=140737488355328)).bind fun u=>bnd (a.2.1++m) fun p=>some (.inl (A0 .i64 (a.1-1),p,j,c.2)))) (some (.inr (a.2.2.1,a.2.2.2)))
def Ly(b:af)(g:aG):Option (Int×List Int×aG):=
 (M_b (((b).N).length:Int) g).bind fun a=>bnd ([a.1]) fun i=>(M_b 4 a.2).bind fun c=>(aZ (RL b) N0 (A0 .i64 (1+c.1),i,[],c.2)).bind fun d=>some (a.1,d.1,d.2)
def Ho(g:af)(i:aG):Option (Int×List Int×aG):=
 (Ly g i).bind fun a=>(M_b 16 a.2.2).bind fun b=>cond (b.1==0) ((M_b 8 b.2).bind fun c=>some (A0 .i64 (c.1-1),a.2.1,c.2)) (cond (b.1==1) ((M_b 8 b.2).bind fun d=>bnd ([A0 .i64 (d.1-1)]) fun j=>(grd ((a.2.1.length+1)*8<=140737488355328)).bind fun q=>bnd (a.2.1++j) fun k=>some (a.1,k,d.2)) (cond (b.1==2) (some (a.1,[],b.2)) (cond (b.1==3) (cond (decide (1<(a.2.1.length:Int))) ((grd (0<=(A0 .i64 ((a.2.1.length:Int)-1))/\(A0 .i64 ((a.2.1.length:Int)-1))<(a.2.1.length:Int))).bind fun s=>(a.2.1[(A2 (A0 .i64 ((a.2.1.length:Int)-1)))]?).bind fun l=>bnd ([l]) fun m=>(grd ((a.2.1.length+1)*8<=140737488355328)).bind fun t=>bnd (a.2.1++m) fun p=>some (a.1,p,b.2)) (some (a.1,a.2.1,b.2))) (some (a.1,a.2.1,b.2)))))
def Gh(i:aG):Option (aD×aG):=
 (yY 12 i).bind fun a=>cond (a.1) ((M_b 26 a.2).bind fun c=>(M_b 27 c.2).bind fun d=>some ((⟨A0 .i64 (c.1-1),A0 .i64 (d.1-1)⟩:aD),d.2)) ((M_b 6 a.2).bind fun b=>(M_b (A0 .i64 ((A0 .i64 (24-(A0 .i64 (1+b.1))))+1)) b.2).bind fun g=>some ((⟨g.1,A0 .i64 (1+b.1)⟩:aD),g.2))
def PT(c:aG)(a:List ByteArray):Option (ByteArray×aG×List ByteArray):=
 (M_b (a.length:Int) c).bind fun b=>(grd (0<=b.1/\b.1<(a.length:Int))).bind fun g=>(a[(A2 b.1)]?).bind fun d=>some (d,b.2,a)
def JX(a:List aH×aG):Option ((List aH×aG)⊕(List aH×aG)):=
 (M_b 2 a.2).bind fun b=>cond (decide ((a.1.length:Int)<(A0 .i64 (14+b.1)))) ((grd (0<=(A0 .i64 ((a.1.length:Int)-1))/\(A0 .i64 ((a.1.length:Int)-1))<(a.1.length:Int))).bind fun i=>(a.1[(A2 (A0 .i64 ((a.1.length:Int)-1)))]?).bind fun c=>bnd ([c]) fun d=>(grd ((a.1.length+1)*32<=140737488355328)).bind fun j=>bnd (a.1++d) fun g=>some (.inl (g,b.2))) (some (.inr (a.1,b.2)))
def Pq(q:aG):Option (Nat×Nat×List ByteArray×List aH×aG):=
 (He q).bind fun a=>cond ((a.2.2.2.1.length:Int)==0) (some (a.1,a.2.1,a.2.2.1,a.2.2.2.1,a.2.2.2.2)) ((M_b (a.2.2.2.1.length:Int) a.2.2.2.2).bind fun d=>(grd (0<=d.1/\d.1<(a.2.2.2.1.length:Int))).bind fun i1=>(a.2.2.2.1[(A2 d.1)]?).bind fun c=>((M_b 24 d.2).bind fun b=>cond (b.1==0) (bnd ([(⟨#[98]⟩:ByteArray),(⟨#[]⟩:ByteArray),(⟨#[65]⟩:ByteArray),(⟨#[97,98,99,100,101,102,103,104]⟩:ByteArray),(⟨#[97,98,99,100,101,102,103,104,105]⟩:ByteArray),(⟨#[120,49]⟩:ByteArray)]) fun s=>(PT b.2 s).bind fun i=>(grd (0<=0/\0<(a.2.1:Int))).bind fun j1=>(a.2.2.1[(a.1+(A2 0))]?).bind fun k1=>bnd (a.2.2.1.set (a.1+(A2 0)) i.1) fun t=>some (.inl (a.1,a.2.1,c,t,a.2.2.2.1,i.2.1))) (cond (b.1==1) ((M_b 8 b.2).bind fun j=>some (.inl (a.1,a.2.1,(⟨A0 .i64 (j.1-1),c.B,c.N,c.F⟩:aH),a.2.2.1,a.2.2.2.1,j.2))) (cond (b.1==2) ((M_b 10 b.2).bind fun k=>some (.inl (a.1,a.2.1,(⟨c.A,A0 .i64 (k.1-1),c.N,c.F⟩:aH),a.2.2.1,a.2.2.2.1,k.2))) (cond (b.1==3) (bnd ([0,1,5000,5001]) fun u=>(nF b.2 u).bind fun l=>some (.inl (a.1,a.2.1,(⟨c.A,c.B,l.1,c.F⟩:aH),a.2.2.1,a.2.2.2.1,l.2.1))) (cond (b.1==4) (bnd ([(-1),9,10]) fun v=>(nF b.2 v).bind fun m=>some (.inl (a.1,a.2.1,(⟨c.A,c.B,c.N,m.1⟩:aH),a.2.2.1,a.2.2.2.1,m.2.1))) (cond (b.1==5) ((grd (0<=0/\0<(a.2.2.2.1.length:Int))).bind fun l1=>(a.2.2.2.1[(A2 0)]?).bind fun w=>bnd ([w]) fun x=>(grd ((a.2.2.2.1.length+1)*32<=140737488355328)).bind fun m1=>bnd (a.2.2.2.1++x) fun y=>some (.inl (a.1,a.2.1,c,a.2.2.1,y,b.2))) (cond (b.1==6) ((aZ (JX) N0 (a.2.2.2.1,b.2)).bind fun p=>some (.inr (a.1,a.2.1,a.2.2.1,p.1,p.2))) (cond (b.1==7) (bnd ([(⟨#[112]⟩:ByteArray),(⟨#[113]⟩:ByteArray),(⟨#[114]⟩:ByteArray),(⟨#[115]⟩:ByteArray)]) fun z=>bnd (cY a.2.2.1 a.1 a.2.1) fun a1=>(grd ((a.2.1+4)*16<=140737488355328)).bind fun p1=>bnd (a1++z) fun b1=>some (.inl (0,(a.2.1+4),c,b1,a.2.2.2.1,b.2))) (some (.inl (a.1,a.2.1,c,a.2.2.1,a.2.2.2.1,b.2)))))))))):Option ((Nat×Nat×aH×List ByteArray×List aH×aG)⊕(Nat×Nat×List ByteArray×List aH×aG))).bind fun c1=>(match c1 with| .inl g=>(grd (0<=d.1/\d.1<(g.2.2.2.2.1.length:Int))).bind fun q1=>(g.2.2.2.2.1[(A2 d.1)]?).bind fun s1=>bnd (g.2.2.2.2.1.set (A2 d.1) g.2.2.1) fun d1=>some (g.1,g.2.1,g.2.2.2.1,d1,g.2.2.2.2.2)| .inr g1=>some g1))
def MP(s:aG):Option (af×Nat×Nat×List ae×aG):=
 (Sb s).bind fun b=>cond ((b.2.2.1:Int)==0) (some (b.1,b.2.1,b.2.2.1,b.2.2.2.1,b.2.2.2.2)) ((M_b (b.2.2.1:Int) b.2.2.2.2).bind fun g=>(grd (0<=g.1/\g.1<(b.2.2.1:Int))).bind fun z=>(b.2.2.2.1[(b.2.1+(A2 g.1))]?).bind fun a=>((M_b 24 g.2).bind fun c=>cond (c.1==0) (bnd ([0,999,1000,500,1]) fun t=>(nF c.2 t).bind fun p=>some (b.2.1,b.2.2.1,b.1,b.2.2.2.1,(⟨p.1,a.W,(⟨a.N.N,a.N.F⟩:aj),(⟨a.P.N,a.P.F⟩:aD),(⟨a.F.N,a.F.F⟩:aj),(⟨a.L.N,a.L.F⟩:aD)⟩:ae),p.2.1)) (cond (c.1==1) ((M_b 5 c.2).bind fun q=>some (b.2.1,b.2.2.1,b.1,b.2.2.2.1,(⟨a.Id,A0 .i64 (q.1-1),(⟨a.N.N,a.N.F⟩:aj),(⟨a.P.N,a.P.F⟩:aD),(⟨a.F.N,a.F.F⟩:aj),(⟨a.L.N,a.L.F⟩:aD)⟩:ae),q.2)) (cond (c.1==2) ((Ho b.1 c.2).bind fun j=>some (b.2.1,b.2.2.1,b.1,b.2.2.2.1,(⟨a.Id,a.W,(⟨j.1,j.2.1⟩:aj),(⟨a.P.N,a.P.F⟩:aD),(⟨a.F.N,a.F.F⟩:aj),(⟨a.L.N,a.L.F⟩:aD)⟩:ae),j.2.2)) (cond (c.1==3) ((Gh c.2).bind fun k=>some (b.2.1,b.2.2.1,b.1,b.2.2.2.1,(⟨a.Id,a.W,(⟨a.N.N,a.N.F⟩:aj),(⟨(k.1).N,(k.1).F⟩:aD),(⟨a.F.N,a.F.F⟩:aj),(⟨a.L.N,a.L.F⟩:aD)⟩:ae),k.2)) (cond (c.1==4) ((Ho b.1 c.2).bind fun l=>some (b.2.1,b.2.2.1,b.1,b.2.2.2.1,(⟨a.Id,a.W,(⟨a.N.N,a.N.F⟩:aj),(⟨a.P.N,a.P.F⟩:aD),(⟨l.1,l.2.1⟩:aj),(⟨a.L.N,a.L.F⟩:aD)⟩:ae),l.2.2)) (cond (c.1==5) ((Gh c.2).bind fun m=>some (b.2.1,b.2.2.1,b.1,b.2.2.2.1,(⟨a.Id,a.W,(⟨a.N.N,a.N.F⟩:aj),(⟨a.P.N,a.P.F⟩:aD),(⟨a.F.N,a.F.F⟩:aj),(⟨(m.1).N,(m.1).F⟩:aD)⟩:ae),m.2)) (cond (c.1==6) (bnd ([a]) fun u=>bnd (cY b.2.2.2.1 b.2.1 b.2.2.1) fun v=>(grd ((b.2.2.1+1)*112<=140737488355328)).bind fun a1=>bnd (v++u) fun w=>some (0,(b.2.2.1+1),b.1,w,a,c.2)) (cond (c.1==7) ((Pq c.2).bind fun i=>bnd (cY i.2.2.1 i.1 i.2.1) fun x=>some (b.2.1,b.2.2.1,(⟨x,i.2.2.2.1⟩:af),b.2.2.2.1,a,i.2.2.2.2)) (some (b.2.1,b.2.2.1,b.1,b.2.2.2.1,a,c.2))))))))):Option (Nat×Nat×af×List ae×ae×aG)).bind fun d=>(grd (0<=g.1/\g.1<(d.2.1:Int))).bind fun b1=>(d.2.2.2.1[(d.1+(A2 g.1))]?).bind fun c1=>bnd (d.2.2.2.1.set (d.1+(A2 g.1)) d.2.2.2.2.1) fun y=>some (d.2.2.1,d.1,d.2.1,y,d.2.2.2.2.2))
def Ju(a:Nat×Nat×Int×List aA×aG):Option ((Nat×Nat×Int×List aA×aG)⊕(Nat×Nat×List aA×aG)):=
 (M_b 2 a.2.2.2.2).bind fun b=>cond (decide ((a.2.1:Int)<(A0 .i64 (6+b.1)))) (bnd ([(⟨A0 .i64 (200-(A0 .i64 (10*a.2.2.1))),A0 .i64 (90+a.2.2.1)⟩:aA)]) fun c=>bnd (cY a.2.2.2.1 a.1 a.2.1) fun d=>(grd ((a.2.1+1)*16<=140737488355328)).bind fun i=>bnd (d++c) fun g=>some (.inl (0,(a.2.1+1),A0 .i64 (a.2.2.1+1),g,b.2))) (some (.inr (a.1,a.2.1,a.2.2.2.1,b.2)))
def KF(q:aG):Option (Nat×Nat×List aA×aG):=
 bnd ([(⟨3000,10⟩:aA),(⟨1200,20⟩:aA),(⟨600,40⟩:aA),(⟨250,80⟩:aA)]) fun j=>(M_b 4 q).bind fun c=>(grd (True/\0<=(A0 .i64 (1+c.1))/\True/\A2 (A0 .i64 (1+c.1))<=4)).bind fun x=>((yY 3 c.2).bind fun g=>cond (g.1) (cond (decide (1<(((A2 (A0 .i64 (1+c.1))):Nat):Int))) ((grd (0<=1/\True/\A2 1<=(A2 (A0 .i64 (1+c.1)))/\True)).bind fun y=>some ((A2 1),((A2 (A0 .i64 (1+c.1)))-(A2 1)),g.2)) (some (0,(A2 (A0 .i64 (1+c.1))),g.2))) (some (0,(A2 (A0 .i64 (1+c.1))),g.2)):Option (Nat×Nat×aG)).bind fun a=>(M_b (a.2.1:Int) a.2.2).bind fun d=>(grd (0<=d.1/\d.1<(a.2.1:Int))).bind fun z=>(j[(a.1+(A2 d.1))]?).bind fun k=>((M_b 24 d.2).bind fun b=>cond (b.1==0) (bnd ([0,20000,20001,250]) fun s=>(nF b.2 s).bind fun l=>some (.inl ((⟨l.1,k.F⟩:aA),l.2.1))) (cond (b.1==1) (bnd ([0,1000,1001,10]) fun t=>(nF b.2 t).bind fun m=>some (.inl ((⟨k.N,m.1⟩:aA),m.2.1))) (cond (b.1==2) (some (.inr (0,0,[],b.2))) (cond (b.1==3) ((aZ (Ju) N0 (a.1,a.2.1,0,j,b.2)).bind fun i=>some (.inr (i.1,i.2.1,i.2.2.1,i.2.2.2))) (some (.inl (k,b.2)))))):Option ((aA×aG)⊕(Nat×Nat×List aA×aG))).bind fun u=>(match u with| .inl p=>bnd (j.set (a.1+(A2 d.1)) p.1) fun v=>some (a.1,a.2.1,v,p.2)| .inr w=>some w)
def MF(c:List Int):Option (af×Nat×Nat×Nat×Nat×aO×List aA×List ae):=
 (MP (⟨c,0,0⟩:aG)).bind fun a=>(KF a.2.2.2.2).bind fun b=>(Ax a.1 b.2.2.2).bind fun d=>some (a.1,b.1,b.2.1,a.2.1,a.2.2.1,d.1,b.2.2.1,a.2.2.2.1)
def M_h(a:Int)(b:Int)(c:Int):Option Bool:=
 cond (decide (b<=a)) (some (decide (a<=c))) (some false)
def IJ(c:ByteArray)(b:Int):Option (Int⊕(Unit⊕Bool)):=
 cond (decide (b<(c.size:Int))) (((wA c b).bind fun a=>cond (decide (97<=(a.toNat:Int))) (cond (decide (48<=(a.toNat:Int))) (some (decide ((a.toNat:Int)<=122),decide ((a.toNat:Int)<=57))) (some (decide ((a.toNat:Int)<=122),false))) (cond (decide (48<=(a.toNat:Int))) (some (false,decide ((a.toNat:Int)<=57))) (some (false,false))):Option (Bool×Bool)).bind fun d=>cond (!d.1) (cond (!d.2) (some (.inr (.inr false))) (cond (b==0) (some (.inr (.inr false))) (some (.inl (A0 .i64 (b+1)))))) (some (.inl (A0 .i64 (b+1))))) (some (.inr (.inl ())))
def Lt(a:ByteArray):Option Bool:=
 (aZ (IJ a) N0 0).bind fun b=>(match b with| .inl g=>(M_h (a.size:Int) 1 8).bind fun c=>some c| .inr d=>some d)
def IZ(b:List ByteArray)(c:ByteArray)(a:Int):Option (Int⊕(Unit⊕Int)):=
 cond (decide (a<(b.length:Int))) ((bC b a).bind fun d=>cond (c.toList==d.toList) (some (.inr (.inr a))) (some (.inl (A0 .i64 (a+1))))) (some (.inr (.inl ())))
def Tj(a:List ByteArray)(b:ByteArray):Option Int:=
 (aZ (IZ a b) N0 0).bind fun c=>(match c with| .inl g=>some (-1)| .inr d=>some d)
def OX(a:List ByteArray)(b:ByteArray):Option Bool:=
 (Tj a b).bind fun c=>some (decide (0<=c))
def Jv(a:Int):Option Bool:=
 some (a !=a)
def lE(a:Int)(b:Int):Option Int:=
 (Jv a).bind fun d=>(Jv b).bind fun c=>cond (d) (cond (c) (some 0) (some (-1))) (cond (c) (some 1) (cond (decide (a<b)) (some (-1)) (cond (decide (b<a)) (some 1) (some 0))))
def M_l(b:List Int)(a:Int):Option (Int⊕(Unit⊕Int)):=
 cond (decide (a<(b.length:Int))) ((bC b a).bind fun c=>cond (c !=0) (some (.inr (.inr c))) (some (.inl (A0 .i64 (a+1))))) (some (.inr (.inl ())))
def oh(a:List Int):Option Int:=
 (aZ (M_l a) N0 0).bind fun b=>(match b with| .inl d=>some 0| .inr c=>some c)
def Qy(a:aH)(b:aH):Option Int:=
 (lE a.A b.A).bind fun c=>(lE a.B b.B).bind fun d=>(lE a.N b.N).bind fun g=>(lE a.F b.F).bind fun i=>bnd ([c,d,g,i]) fun j=>(oh j).bind fun k=>some k
def GI(b:af)(a:Int):Option (Int⊕(Unit⊕Bool)):=
 cond (decide (a<(b.N.length:Int))) ((bC b.N a).bind fun c=>(Lt c).bind fun d=>cond (!d) (some (.inr (.inr false))) ((slT b.N a).bind fun g=>(OX g c).bind fun i=>cond (i) (some (.inr (.inr false))) (some (.inl (A0 .i64 (a+1)))))) (some (.inr (.inl ())))
def JZ(c:af)(b:Int):Option (Int⊕(Unit⊕Bool)):=
 cond (decide (b<(c.F.length:Int))) ((bC c.F b).bind fun a=>cond (decide (a.A<0)) (some (.inr (.inr false))) (cond (decide (a.B<=a.A)) (some (.inr (.inr false))) (cond (decide ((c.N.length:Int)<=a.B)) (some (.inr (.inr false))) ((M_h a.N 1 5000).bind fun d=>cond (!d) (some (.inr (.inr false))) ((M_h a.F 0 9).bind fun g=>cond (!g) (some (.inr (.inr false))) (cond (decide (0<b)) ((bC c.F (A0 .i64 (b-1))).bind fun i=>(Qy i a).bind fun j=>cond (decide (0<j)) (some (.inr (.inr false))) (some (.inl (A0 .i64 (b+1))))) (some (.inl (A0 .i64 (b+1)))))))))) (some (.inr (.inl ())))
def De(a:af):Option Bool:=
 (aZ (GI a) N0 0).bind fun b=>(match b with| .inl j=>(aZ (JZ a) N0 0).bind fun c=>(match c with| .inl k=>(M_h (a.N.length:Int) 2 8).bind fun d=>cond (d) (some (decide ((a.F.length:Int)<=14))) (some false)| .inr g=>some g)| .inr i=>some i)
def CG(a:aH)(b:Int):Option Int:=
 cond (b==a.A) (some a.B) (cond (b==a.B) (some a.A) (some (-1)))
def Jn(b:List Int)(c:Int)(a:Int):Option (Int⊕(Unit⊕Int)):=
 cond (decide (a<(b.length:Int))) ((bC b a).bind fun d=>cond (c==d) (some (.inr (.inr a))) (some (.inl (A0 .i64 (a+1))))) (some (.inr (.inl ())))
def Xc(a:List Int)(b:Int):Option Int:=
 (aZ (Jn a b) N0 0).bind fun c=>(match c with| .inl g=>some (-1)| .inr d=>some d)
def BI(a:List Int)(b:Int):Option Bool:=
 (Xc a b).bind fun c=>some (decide (0<=c))
def GZ(c:af)(d:aj)(a:Int×Int×List Int):Option ((Int×Int×List Int)⊕((List Int)⊕(List Int×Bool))):=
 cond (decide (a.2.1<(d.F.length:Int))) ((bC d.F a.2.1).bind fun g=>(M_h g 0 (A0 .i64 ((c.F.length:Int)-1))).bind fun i=>cond (!i) (some (.inr (.inr (([]),false)))) ((bC c.F g).bind fun j=>(CG j a.1).bind fun b=>(cond (decide (b<0)) (some true) ((BI a.2.2 b).bind fun k=>some k):Option Bool).bind fun l=>cond (l) (some (.inr (.inr (([]),false)))) (bnd ([b]) fun m=>(grd ((a.2.2.length+1)*8<=140737488355328)).bind fun q=>bnd (a.2.2++m) fun p=>some (.inl (b,A0 .i64 (a.2.1+1),p))))) (some (.inr (.inl a.2.2)))
def Ix(b:af)(a:aj):Option (List Int×Bool):=
 ((M_h a.N 0 (A0 .i64 ((b.N.length:Int)-1))).bind fun c=>cond (!c) (some true) (some ((a.F.length:Int)==0)):Option Bool).bind fun d=>cond (d) (some (([]),false)) (bnd ([a.N]) fun g=>(aZ (GZ b a) N0 (a.N,0,g)).bind fun i=>(match i with| .inl j=>some (j,true)| .inr k=>some k))
def Jg(a:aD):Option Bool:=
 cond (decide (0<=a.N)) ((M_h a.F 1 24).bind fun b=>cond (b) (some (decide (a.N<=(A0 .i64 (24-a.F))))) (some false)) (some false)
def JN(b:af)(c:Int×List (List Int))(a:Int×List Int):Option ((Int×List Int)⊕(List Int)):=
 cond (decide (a.1<(b.F.length:Int))) ((bC b.F a.1).bind fun d=>cond (d.F==c.1) (bnd ([a.1]) fun g=>(grd ((a.2.length+1)*8<=140737488355328)).bind fun j=>bnd (a.2++g) fun i=>some (.inl (A0 .i64 (a.1+1),i))) (some (.inl (A0 .i64 (a.1+1),a.2)))) (some (.inr a.2))
def HV(c:af)(a:Int×List (List Int)):Option ((Int×List (List Int))⊕(List (List Int))):=
 cond (decide (a.1<=9)) ((aZ (JN c a) N0 (0,[])).bind fun b=>cond (decide (0<(b.length:Int))) (bnd ([b]) fun d=>(grd ((a.2.length+1)*24<=140737488355328)).bind fun i=>bnd (a.2++d) fun g=>some (.inl (A0 .i64 (a.1+1),g))) (some (.inl (A0 .i64 (a.1+1),a.2)))) (some (.inr a.2))
def GP(b:af)(a:Int×List (List Int)):Option ((Int×List (List Int))⊕(List (List Int))):=
 cond (decide (a.1<(b.F.length:Int))) ((bC b.F a.1).bind fun c=>cond (c.F==0) (bnd ([a.1]) fun d=>bnd ([d]) fun g=>(grd ((a.2.length+1)*24<=140737488355328)).bind fun j=>bnd (a.2++g) fun i=>some (.inl (A0 .i64 (a.1+1),i))) (some (.inl (A0 .i64 (a.1+1),a.2)))) (some (.inr a.2))
def Sn(a:af):Option (List (List Int)):=
 (aZ (HV a) N0 (1,[])).bind fun b=>(aZ (GP a) N0 (0,b)).bind fun c=>some c
def Gw(a:List Int)(p1Z0:Int):Option Bool:=
 (BI a p1Z0).bind fun b=>some b
def IC(b:List (List Int))(c:(List Int)->Option Bool)(a:Int):Option (Int⊕(Unit⊕Int)):=
 cond (decide (a<(b.length:Int))) ((bC b a).bind fun d=>(c d).bind fun g=>cond (g) (some (.inr (.inr a))) (some (.inl (A0 .i64 (a+1))))) (some (.inr (.inl ())))
def PA(a:List (List Int))(b:(List Int)->Option Bool):Option Int:=
 (aZ (IC a b) N0 0).bind fun c=>(match c with| .inl g=>some (-1)| .inr d=>some d)
def Sp(a:af)(b:Int):Option Int:=
 (Sn a).bind fun c=>(PA c (fun x0=>Gw x0 b)).bind fun d=>some d
def Jo(c:af)(b:List Int)(a:Int×List Int):Option ((Int×List Int)⊕(List Int)):=
 cond (decide (a.1<(b.length:Int))) ((bC b a.1).bind fun d=>(Sp c d).bind fun g=>bnd ([g]) fun i=>(grd ((a.2.length+1)*8<=140737488355328)).bind fun k=>bnd (a.2++i) fun j=>some (.inl (A0 .i64 (a.1+1),j))) (some (.inr a.2))
def GX(a:af)(b:List Int):Option (List Int):=
 (aZ (Jo a b) N0 (0,[])).bind fun c=>some c
def Bi(c:Nat)(d:Nat)(b:Int)(a:Int×Int×List Int):Option ((Int×Int×List Int)⊕(Int×List Int)):=
 cond (decide (a.2.1<(((d-(A2 b)):Nat):Int))) ((grd (0<=a.2.1/\a.2.1<(((d-(A2 b)):Nat):Int))).bind fun k=>(a.2.2[((c+(A2 b))+(A2 a.2.1))]?).bind fun g=>(grd (0<=(A0 .i64 (a.2.1-1))/\(A0 .i64 (a.2.1-1))<(((d-(A2 b)):Nat):Int))).bind fun l=>(a.2.2[((c+(A2 b))+(A2 (A0 .i64 (a.2.1-1))))]?).bind fun i=>cond (g !=i) ((grd (0<=a.1/\a.1<(d:Int))).bind fun m=>(a.2.2[(c+(A2 a.1))]?).bind fun p=>bnd (a.2.2.set (c+(A2 a.1)) g) fun j=>some (.inl (A0 .i64 (a.1+1),A0 .i64 (a.2.1+1),j))) (some (.inl (a.1,A0 .i64 (a.2.1+1),a.2.2)))) (some (.inr (a.1,a.2.2)))
def Ja(d:Nat)(b:Nat)(g:List Int)(a:Int):Option (Int⊕(Unit⊕(Nat×Nat×List Int))):=
 cond (decide (a<(b:Int))) ((grd (0<=a/\a<(b:Int))).bind fun l=>(g[(d+(A2 a))]?).bind fun i=>(grd (0<=(A0 .i64 (a-1))/\(A0 .i64 (a-1))<(b:Int))).bind fun m=>(g[(d+(A2 (A0 .i64 (a-1))))]?).bind fun j=>cond (i==j) ((grd (0<=a/\True/\A2 a<=b/\True)).bind fun p=>(aZ (Bi d b a) N0 (a,1,g)).bind fun c=>(grd (0<=c.1/\True/\A2 c.1<=b/\True)).bind fun q=>bnd (dg c.2 (d+(A2 c.1)) (B0 (b-(A2 c.1)) 0)) fun k=>(grd (True/\0<=c.1/\True/\A2 c.1<=b)).bind fun s=>some (.inr (.inr (d,(A2 c.1),k)))) (some (.inl (A0 .i64 (a+1))))) (some (.inr (.inl ())))
def LW(b:Nat)(a:Nat)(c:List Int):Option (Nat×Nat×List Int):=
 cond (decide ((a:Int)<2)) (some (b,a,c)) ((aZ (Ja b a c) N0 1).bind fun d=>(match d with| .inl i=>some (b,a,c)| .inr g=>some g))
def Bb(b:List Int)(d:List Int)(a:Int×List Int):Option ((Int×List Int)⊕(List Int)):=
 cond (decide (a.1<(b.length:Int))) ((bC b a.1).bind fun c=>(BI d c).bind fun g=>cond (g) (bnd ([c]) fun i=>(grd ((a.2.length+1)*8<=140737488355328)).bind fun k=>bnd (a.2++i) fun j=>some (.inl (A0 .i64 (a.1+1),j))) (some (.inl (A0 .i64 (a.1+1),a.2)))) (some (.inr a.2))
def Km(c:List Int)(d:List Int):Option (List Int):=
 (aZ (Bb c d) N0 (0,[])).bind fun b=>(sM b).bind fun g=>(LW 0 b.length g).bind fun a=>bnd (cY a.2.2 a.1 a.2.1) fun i=>some i
def Dg(a:af)(b:List Int)(c:List Int):Option Bool:=
 (GX a b).bind fun d=>(GX a c).bind fun g=>(Km d g).bind fun i=>some ((i.length:Int)==0)
def Ll(d:af)(a:ae):Option Bool:=
 (Ix d a.N).bind fun b=>((M_h a.Id 1 999).bind fun g=>cond (!g) (some true) ((M_h a.W 0 2).bind fun i=>cond (!i) (some true) (cond (!b.2) (some true) ((Jg a.P).bind fun j=>some (!j)))):Option Bool).bind fun k=>cond (k) (some false) (cond (a.W==0) ((cond (a.F.N==0) (cond ((a.F.F.length:Int)==0) (some (a.L.N==0&&a.L.F==0)) (some false)) (some false):Option Bool).bind fun l=>some l) ((Ix d a.F).bind fun c=>cond (c.2) ((Jg a.L).bind fun m=>cond (m) ((grd (0<=0/\0<(c.1.length:Int))).bind fun v=>(c.1[(A2 0)]?).bind fun p=>(grd (0<=0/\0<(b.1.length:Int))).bind fun w=>(b.1[(A2 0)]?).bind fun q=>cond (p==q) ((grd (0<=(A0 .i64 ((c.1.length:Int)-1))/\(A0 .i64 ((c.1.length:Int)-1))<(c.1.length:Int))).bind fun x=>(c.1[(A2 (A0 .i64 ((c.1.length:Int)-1)))]?).bind fun s=>(grd (0<=(A0 .i64 ((b.1.length:Int)-1))/\(A0 .i64 ((b.1.length:Int)-1))<(b.1.length:Int))).bind fun y=>(b.1[(A2 (A0 .i64 ((b.1.length:Int)-1)))]?).bind fun t=>cond (s==t) ((Dg d a.N.F a.F.F).bind fun u=>some u) (some false)) (some false)) (some false)) (some false)))
def yr(a:aD):Option Int:=
 (grd (0<=a.F)).bind fun b=>(grd (0<=a.N)).bind fun c=>some (A0 .i64 ((A0 .i64 ((A0 .i64 (1*2^(min (A2 a.F) (A3 .i64))))-1))*2^(min (A2 a.N) (A3 .i64))))
def VF(a:gu)(b:gu):Option Bool:=
 (yr a.F).bind fun c=>(yr b.F).bind fun d=>cond ((bits .and .i64 c d) !=0) ((Km a.N.F b.N.F).bind fun g=>some (decide (0<(g.length:Int)))) (some false)
def xB(a:aj)(b:aD)(c:aj)(d:aD):Option Bool:=
 (VF (⟨0,(⟨a.N,a.F⟩:aj),(⟨b.N,b.F⟩:aD)⟩:gu) (⟨0,(⟨c.N,c.F⟩:aj),(⟨d.N,d.F⟩:aD)⟩:gu)).bind fun g=>some g
def JQ(c:af)(a:ae)(b:ae):Option Bool:=
 ((xB a.N a.P b.N b.P).bind fun d=>cond (d) (some true) ((xB a.N a.P b.F b.L).bind fun g=>cond (g) (some true) ((xB a.F a.L b.N b.P).bind fun i=>some i)):Option Bool).bind fun j=>cond (j) (some false) ((cond (a.W==2) (cond (b.W==2) ((Dg c a.N.F b.N.F).bind fun k=>some k) (some false)) (some false):Option Bool).bind fun l=>cond (l) (some true) ((xB a.F a.L b.F b.L).bind fun m=>some (!m)))
def Cf(a:ae)(p1Z0:af)(p2Z0:ae):Option Bool:=
 (JQ p1Z0 a p2Z0).bind fun b=>some (!b)
def wS(b:List ae)(c:ae->Option Bool)(a:Int):Option (Int⊕(Unit⊕Int)):=
 cond (decide (a<(b.length:Int))) ((bC b a).bind fun d=>(c d).bind fun g=>cond (g) (some (.inr (.inr a))) (some (.inl (A0 .i64 (a+1))))) (some (.inr (.inl ())))
def Bo(a:List ae)(b:ae->Option Bool):Option Int:=
 (aZ (wS a b) N0 0).bind fun c=>(match c with| .inl g=>some (-1)| .inr d=>some d)
def tn(a:List ae)(b:ae->Option Bool):Option Bool:=
 (Bo a b).bind fun c=>some (decide (0<=c))
def GR(d:af)(b:List ae)(a:Int):Option (Int⊕(Unit⊕Bool)):=
 cond (decide (a<(b.length:Int))) ((bC b a).bind fun c=>(Ll d c).bind fun g=>cond (!g) (some (.inr (.inr false))) (cond (decide (0<a)) ((bC b (A0 .i64 (a-1))).bind fun i=>cond (decide (c.Id<=i.Id)) (some (.inr (.inr false))) ((slT b a).bind fun j=>(tn j (fun x0=>Cf x0 d c)).bind fun k=>cond (k) (some (.inr (.inr false))) (some (.inl (A0 .i64 (a+1)))))) ((slT b a).bind fun l=>(tn l (fun x0=>Cf x0 d c)).bind fun m=>cond (m) (some (.inr (.inr false))) (some (.inl (A0 .i64 (a+1))))))) (some (.inr (.inl ())))
def wR(a:af)(b:List ae):Option Bool:=
 ((De a).bind fun c=>cond (!c) (some true) (some (decide (8<(b.length:Int)))):Option Bool).bind fun d=>cond (d) (some false) ((aZ (GR a b) N0 0).bind fun g=>(match g with| .inl j=>some true| .inr i=>some i))
def QF(a:ae)(p1Z0:ae):Option Bool:=
 some (a.Id==p1Z0.Id)
def Gy(c:List aA)(a:Int):Option (Int⊕(Unit⊕Bool)):=
 cond (decide (a<(c.length:Int))) ((bC c a).bind fun b=>(M_h b.N 1 20000).bind fun g=>cond (!g) (some (.inr (.inr false))) ((M_h b.F 1 1000).bind fun i=>cond (!i) (some (.inr (.inr false))) (cond (decide (0<a)) ((bC c (A0 .i64 (a-1))).bind fun d=>cond (decide (d.N<=b.N)) (some (.inr (.inr false))) (cond (decide (b.F<=d.F)) (some (.inr (.inr false))) (some (.inl (A0 .i64 (a+1)))))) (some (.inl (A0 .i64 (a+1))))))) (some (.inr (.inl ())))
def Gs(a:List aA):Option Bool:=
 (aZ (Gy a) N0 0).bind fun b=>(match b with| .inl g=>(M_h (a.length:Int) 1 6).bind fun c=>some c| .inr d=>some d)
def LX(b:af)(a:aO):Option Bool:=
 (M_h a.N 0 (A0 .i64 ((b.N.length:Int)-1))).bind fun c=>cond (c) ((M_h a.L 0 (A0 .i64 ((b.N.length:Int)-1))).bind fun d=>cond (d) (cond (a.N !=a.L) ((M_h a.F 1 1000).bind fun g=>cond (g) ((M_h a.W 0 2).bind fun i=>some i) (some false)) (some false)) (some false)) (some false)
def Nx(a:aO)(p1Z0:af):Option Bool:=
 (LX p1Z0 a).bind fun b=>some (!b)
def JA(b:List aO)(c:aO->Option Bool)(a:Int):Option (Int⊕(Unit⊕Int)):=
 cond (decide (a<(b.length:Int))) ((bC b a).bind fun d=>(c d).bind fun g=>cond (g) (some (.inr (.inr a))) (some (.inl (A0 .i64 (a+1))))) (some (.inr (.inl ())))
def Tv(a:List aO)(b:aO->Option Bool):Option Int:=
 (aZ (JA a b) N0 0).bind fun c=>(match c with| .inl g=>some (-1)| .inr d=>some d)
def Pa(a:List aO)(b:aO->Option Bool):Option Bool:=
 (Tv a b).bind fun c=>some (decide (0<=c))
def Li(a:af)(b:List aO):Option Bool:=
 (De a).bind fun c=>cond (c) (cond (decide ((b.length:Int)<=12)) ((Pa b (fun x0=>Nx x0 a)).bind fun d=>some (!d)) (some false)) (some false)
def NK(a:Int)(p1Z0:af):Option Bool:=
 (M_h a 0 (A0 .i64 ((p1Z0.N.length:Int)-1))).bind fun b=>some (!b)
def Hc(b:List Int)(c:Int->Option Bool)(a:Int):Option (Int⊕(Unit⊕Int)):=
 cond (decide (a<(b.length:Int))) ((bC b a).bind fun d=>(c d).bind fun g=>cond (g) (some (.inr (.inr a))) (some (.inl (A0 .i64 (a+1))))) (some (.inr (.inl ())))
def Xd(a:List Int)(b:Int->Option Bool):Option Int:=
 (aZ (Hc a b) N0 0).bind fun c=>(match c with| .inl g=>some (-1)| .inr d=>some d)
def PR(a:List Int)(b:Int->Option Bool):Option Bool:=
 (Xd a b).bind fun c=>some (decide (0<=c))
def QH(a:af)(b:List Int):Option Bool:=
 (De a).bind fun c=>cond (c) ((PR b (fun x0=>NK x0 a)).bind fun d=>some (!d)) (some false)
def GY(a:List Int):Option (List Int):=
 cond (a.isEmpty) (amb (some ([])) ((grd (a.length*8<=140737488355328)).bind fun b=>some a)) ((grd (a.length*8<=140737488355328)).bind fun c=>some a)
def KG(j:Int)(d:Int)(g:List Int)(i:af)(k:Int->Int->List Int->Int->List aj->Int->af->Option (Int×List aj×Int×af))(a:Int×Int×List aj×Int×af):Option ((Int×Int×List aj×Int×af)⊕(Int×List aj×Int×af)):=
 cond (decide (a.1<(((i).F).length:Int))) ((bC ((i).F) a.1).bind fun l=>(CG l j).bind fun b=>(cond (decide (0<=b)) ((grd (0<=b)).bind fun s=>some ((bits .and .i64 (A5 d (2^(min (A2 b) (A3 .i64)))) 1)==0)) (some false):Option Bool).bind fun m=>cond (m) ((grd (0<=b)).bind fun t=>bnd ([a.1]) fun p=>(grd ((g.length+1)*8<=140737488355328)).bind fun u=>bnd (g++p) fun q=>(k b (bits .or .i64 d (A0 .i64 (1*2^(min (A2 b) (A3 .i64))))) q a.2.1 a.2.2.1 a.2.2.2.1 a.2.2.2.2).bind fun c=>some (.inl (A0 .i64 (a.1+1),c.1,c.2.1,c.2.2.1,c.2.2.2))) (some (.inl (A0 .i64 (a.1+1),a.2.1,a.2.2.1,a.2.2.2.1,a.2.2.2.2)))) (some (.inr (a.2.1,a.2.2.1,a.2.2.2.1,a.2.2.2.2)))
def Sc(k:Int->Int->List Int->Int->List aj->Int->af->Option (Int×List aj×Int×af))(i:Int)(l:Int)(j:List Int)(b:Int)(c:List aj)(d:Int)(g:af):Option (Int×List aj×Int×af):=
 cond (i==b) ((GY j).bind fun m=>bnd ([(⟨d,m⟩:aj)]) fun p=>(grd ((c.length+1)*32<=140737488355328)).bind fun s=>bnd (c++p) fun q=>some (b,q,d,g)) ((aZ (KG i l j g k) N0 (0,b,c,d,g)).bind fun a=>some (a.1,a.2.1,a.2.2.1,a.2.2.2))
def Hx:Nat->Int->Int->List Int->Int->List aj->Int->af->Option (Int×List aj×Int×af)
 |0,_,_,_,_,_,_,_=>none
 |n+1,a,b,c,d,g,i,j=>Sc (Hx n) a b c d g i j
def agh(j:Int)(d:Int)(g:List Int)(i:af)(a:Int×Int×List aj×Int×af):Option ((Int×Int×List aj×Int×af)⊕(Int×List aj×Int×af)):=
 cond (decide (a.1<(((i).F).length:Int))) ((bC ((i).F) a.1).bind fun k=>(CG k j).bind fun b=>(cond (decide (0<=b)) ((grd (0<=b)).bind fun q=>some ((bits .and .i64 (A5 d (2^(min (A2 b) (A3 .i64)))) 1)==0)) (some false):Option Bool).bind fun l=>cond (l) ((grd (0<=b)).bind fun s=>bnd ([a.1]) fun m=>(grd ((g.length+1)*8<=140737488355328)).bind fun t=>bnd (g++m) fun p=>(Hx N0 b (bits .or .i64 d (A0 .i64 (1*2^(min (A2 b) (A3 .i64))))) p a.2.1 a.2.2.1 a.2.2.2.1 a.2.2.2.2).bind fun c=>some (.inl (A0 .i64 (a.1+1),c.1,c.2.1,c.2.2.1,c.2.2.2))) (some (.inl (A0 .i64 (a.1+1),a.2.1,a.2.2.1,a.2.2.2.1,a.2.2.2.2)))) (some (.inr (a.2.1,a.2.2.1,a.2.2.2.1,a.2.2.2.2)))
def WS(i:Int)(k:Int)(j:List Int)(b:Int)(c:List aj)(d:Int)(g:af):Option (Int×List aj×Int×af):=
 cond (i==b) ((GY j).bind fun l=>bnd ([(⟨d,l⟩:aj)]) fun m=>(grd ((c.length+1)*32<=140737488355328)).bind fun q=>bnd (c++m) fun p=>some (b,p,d,g)) ((aZ (agh i k j g) N0 (0,b,c,d,g)).bind fun a=>some (a.1,a.2.1,a.2.2.1,a.2.2.2))
def adb(c:af)(b:aj)(a:Int×Int):Option ((Int×Int)⊕Int):=
 cond (decide (a.2<(b.F.length:Int))) ((bC b.F a.2).bind fun d=>(bC c.F d).bind fun g=>some (.inl (A0 .i64 (a.1+g.N),A0 .i64 (a.2+1)))) (some (.inr a.1))
def Gq(a:af)(b:aj):Option Int:=
 (aZ (adb a b) N0 (0,0)).bind fun c=>some c
def IG(s1Z0:List Int)(s2Z0:List Int)(a:Int):Option (Int⊕(Unit⊕Int)):=
 cond (decide (a<(s1Z0.length:Int))) ((bC s1Z0 a).bind fun c=>cond (decide ((s2Z0.length:Int)<=a)) (some (.inr (.inr 1))) ((bC s2Z0 a).bind fun d=>(lE c d).bind fun b=>cond (b !=0) (some (.inr (.inr b))) (some (.inl (A0 .i64 (a+1)))))) (some (.inr (.inl ())))
def NA(s1Z0:List Int)(s2Z0:List Int):Option Int:=
 (aZ (IG s1Z0 s2Z0) N0 0).bind fun a=>(match a with| .inl c=>cond (decide ((s1Z0.length:Int)<(s2Z0.length:Int))) (some (-1)) (some 0)| .inr b=>some b)
def xo(c:af)(a:aj)(b:aj):Option Int:=
 (Gq c a).bind fun d=>(Gq c b).bind fun g=>(lE d g).bind fun i=>(lE (a.F.length:Int) (b.F.length:Int)).bind fun j=>(NA a.F b.F).bind fun k=>(lE a.N b.N).bind fun l=>bnd ([i,j,k,l]) fun m=>(oh m).bind fun p=>some p
def xR(a:aj)(b:aj)(p2Z0:af):Option Int:=
 (xo p2Z0 a b).bind fun c=>some c
def NR(b:af)(a:Int)(c:Int):Option (List aj):=
 (cond (a !=c) ((grd (0<=a)).bind fun j=>(WS a (A0 .i64 (1*2^(min (A2 a) (A3 .i64)))) ([]) c ([]) a b).bind fun d=>some (d.2.2.2,d.2.1)) (some (b,[])):Option (af×List aj)).bind fun g=>(oV (fun x0 x1=>xR x0 x1 g.1) g.2).bind fun i=>some i
def Ge(c:af)(a:Int)(b:Int):Option (List aj×Bool):=
 (bnd ([a,b]) fun g=>(QH c g).bind fun i=>cond (!i) (some true) (some (a==b)):Option Bool).bind fun j=>cond (j) (some (([]),false)) ((NR c a b).bind fun d=>cond (decide (200<(d.length:Int))) (some (([]),false)) (some (d,true)))
def Pd(b:List aA)(c:Int)(a:Int):Option (Int⊕(Unit⊕(Int×Bool))):=
 cond (decide (0<=a)) ((bC b a).bind fun d=>cond (decide (c<=d.N)) (some (.inr (.inr (a,true)))) (some (.inl (A0 .i64 (a-1))))) (some (.inr (.inl ())))
def Mx(a:List aA)(b:Int):Option (Int×Bool):=
 ((Gs a).bind fun c=>cond (!c) (some true) ((M_h b 0 20000).bind fun d=>some (!d)):Option Bool).bind fun g=>cond (g) (some (0,false)) ((aZ (Pd a b) N0 (A0 .i64 ((a.length:Int)-1))).bind fun i=>(match i with| .inl k=>some (0,false)| .inr j=>some j))
def Mm(c:List aA)(g:Int)(b:Int):Option (Int×Bool):=
 (Mx c g).bind fun d=>(cond (!d.2) (some true) ((M_h b 1 1000).bind fun i=>some (!i)):Option Bool).bind fun j=>cond (j) (some (0,false)) ((bC c d.1).bind fun a=>(grd (a.F≠0)).bind fun k=>cond (decide (24<(A0 .i64 (G3 (A0 .i64 ((A0 .i64 (b+a.F))-1)) a.F)))) (some (0,false)) (some ((A0 .i64 (G3 (A0 .i64 ((A0 .i64 (b+a.F))-1)) a.F)),true)))
def IM(g:af)(i:List aA)(j:aO)(b:List aj×Bool)(a:Int×List aq):Option ((Int×List aq)⊕(List aq)):=
 cond (decide (a.1<(b.1.length:Int))) ((grd (0<=a.1/\a.1<(b.1.length:Int))).bind fun p=>(b.1[(A2 a.1)]?).bind fun c=>(Gq g c).bind fun k=>(Mm i k ((j).F)).bind fun d=>cond (d.2) (bnd ([(⟨(⟨c.N,c.F⟩:aj),d.1⟩:aq)]) fun l=>(grd ((a.2.length+1)*40<=140737488355328)).bind fun q=>bnd (a.2++l) fun m=>some (.inl (A0 .i64 (a.1+1),m))) (some (.inl (A0 .i64 (a.1+1),a.2)))) (some (.inr a.2))
def IA(b:af)(c:List aA)(a:aO):Option (Bool×List aq):=
 ((Gs c).bind fun g=>cond (!g) (some true) (bnd ([a]) fun i=>(Li b i).bind fun j=>some (!j)):Option Bool).bind fun k=>cond (k) (some (false,[])) ((Ge b ((a).N) ((a).L)).bind fun d=>cond (!d.2) (some (false,[])) ((aZ (IM b c a d) N0 (0,[])).bind fun l=>some (true,l)))
def M_f(a:aq):Option Int:=
 some (A0 .i64 (a.N*(a.F.F.length:Int)))
def zn(a:aq)(b:aq):Option Int:=
 (M_f a).bind fun c=>(M_f b).bind fun d=>(lE c d).bind fun g=>some g
def M_u(b:Nat)(c:Nat)(g:Int)(a:Int×List aq):Option ((Int×List aq)⊕(List aq)):=
 (cond (decide (g<a.1)) ((grd (0<=a.1/\a.1<(c:Int))).bind fun s=>(a.2[(b+(A2 a.1))]?).bind fun i=>(grd (0<=(A0 .i64 (a.1-1))/\(A0 .i64 (a.1-1))<(c:Int))).bind fun t=>(a.2[(b+(A2 (A0 .i64 (a.1-1))))]?).bind fun j=>(zn i j).bind fun k=>some (decide (k<0))) (some false):Option Bool).bind fun l=>cond (l) ((grd (0<=(A0 .i64 (a.1-1))/\(A0 .i64 (a.1-1))<(c:Int))).bind fun u=>(a.2[(b+(A2 (A0 .i64 (a.1-1))))]?).bind fun m=>(grd (0<=a.1/\a.1<(c:Int))).bind fun v=>(a.2[(b+(A2 a.1))]?).bind fun p=>bnd (a.2.set (b+(A2 a.1)) m) fun d=>(d[(b+(A2 (A0 .i64 (a.1-1))))]?).bind fun w=>bnd (d.set (b+(A2 (A0 .i64 (a.1-1)))) p) fun q=>some (.inl (A0 .i64 (a.1-1),q))) (some (.inr a.2))
def M_c(b:Nat)(c:Nat)(d:Int)(g:Int)(a:Int×List aq):Option ((Int×List aq)⊕(List aq)):=
 cond (decide (a.1<g)) (((aZ (M_u b c d) N0 (a.1,a.2)).bind fun i=>some i:Option (List aq)).bind fun j=>some (.inl (A0 .i64 (a.1+1),j))) (some (.inr a.2))
def HK(b:Nat)(c:Nat)(a:Int)(d:Int)(g:List aq):Option (List aq):=
 (aZ (M_c b c a d) N0 (A0 .i64 (a+1),g)).bind fun i=>some i
def yO(b:Nat)(g:Nat)(d:Int)(c:Int)(j:Int)(a:Int×List aq):Option ((Int×List aq)⊕(List aq)):=
 cond (decide (a.1<j)) ((grd (0<=(A0 .i64 (c+a.1))/\(A0 .i64 (c+a.1))<(g:Int))).bind fun p=>(a.2[(b+(A2 (A0 .i64 (c+a.1))))]?).bind fun k=>(grd (0<=(A0 .i64 (d+a.1))/\(A0 .i64 (d+a.1))<(g:Int))).bind fun q=>(a.2[(b+(A2 (A0 .i64 (d+a.1))))]?).bind fun l=>bnd (a.2.set (b+(A2 (A0 .i64 (d+a.1)))) k) fun i=>(i[(b+(A2 (A0 .i64 (c+a.1))))]?).bind fun s=>bnd (i.set (b+(A2 (A0 .i64 (c+a.1)))) l) fun m=>some (.inl (A0 .i64 (a.1+1),m))) (some (.inr a.2))
def Ca(a:Nat)(b:Nat)(c:Int)(d:Int)(g:Int)(i:List aq):Option (List aq):=
 (aZ (yO a b c d g) N0 (0,i)).bind fun j=>some j
def SV(c:Nat)(d:Nat)(b:Int)(a:Int×Int×List aq):Option ((Int×Int×List aq)⊕(Int×List aq)):=
 cond (a.1 !=a.2.1) (cond (decide (a.2.1<a.1)) ((Ca c d (A0 .i64 (b-a.1)) b a.2.1 a.2.2).bind fun g=>some (.inl (A0 .i64 (a.1-a.2.1),a.2.1,g))) ((Ca c d (A0 .i64 (b-a.1)) (A0 .i64 ((A0 .i64 (b+a.2.1))-a.1)) a.1 a.2.2).bind fun i=>some (.inl (a.1,A0 .i64 (a.2.1-a.1),i)))) (some (.inr (a.1,a.2.2)))
def AZ(c:Nat)(d:Nat)(g:Int)(a:Int)(i:Int)(j:List aq):Option (List aq):=
 (aZ (SV c d a) N0 (A0 .i64 (a-g),A0 .i64 (i-a),j)).bind fun b=>(Ca c d (A0 .i64 (a-b.1)) a b.1 b.2).bind fun k=>some k
def M_v(c:Nat)(d:Nat)(b:Int)(g:List aq)(a:Int×Int):Option ((Int×Int)⊕Int):=
 cond (decide (a.1<a.2)) ((grd (0<=(A0 .i64 (A5 (A0 .u64 (A0 .i64 (a.1+a.2))) (2^(min (A2 1) (A3 .u64)))))/\(A0 .i64 (A5 (A0 .u64 (A0 .i64 (a.1+a.2))) (2^(min (A2 1) (A3 .u64)))))<(d:Int))).bind fun l=>(g[(c+(A2 (A0 .i64 (A5 (A0 .u64 (A0 .i64 (a.1+a.2))) (2^(min (A2 1) (A3 .u64)))))))]?).bind fun i=>(grd (0<=b/\b<(d:Int))).bind fun m=>(g[(c+(A2 b))]?).bind fun j=>(zn i j).bind fun k=>cond (decide (k<0)) (some (.inl (A0 .i64 ((A0 .i64 (A5 (A0 .u64 (A0 .i64 (a.1+a.2))) (2^(min (A2 1) (A3 .u64)))))+1),a.2))) (some (.inl (a.1,A0 .i64 (A5 (A0 .u64 (A0 .i64 (a.1+a.2))) (2^(min (A2 1) (A3 .u64)))))))) (some (.inr a.1))
def JU(b:Nat)(c:Nat)(g:Int)(a:Int×List aq):Option ((Int×List aq)⊕(List aq)):=
 cond (decide (a.1<(A0 .i64 (g-1)))) ((grd (0<=(A0 .i64 (a.1+1))/\(A0 .i64 (a.1+1))<(c:Int))).bind fun l=>(a.2[(b+(A2 (A0 .i64 (a.1+1))))]?).bind fun i=>(grd (0<=a.1/\a.1<(c:Int))).bind fun m=>(a.2[(b+(A2 a.1))]?).bind fun j=>bnd (a.2.set (b+(A2 a.1)) i) fun d=>(d[(b+(A2 (A0 .i64 (a.1+1))))]?).bind fun p=>bnd (d.set (b+(A2 (A0 .i64 (a.1+1)))) j) fun k=>some (.inl (A0 .i64 (a.1+1),k))) (some (.inr a.2))
def M_w(c:Nat)(d:Nat)(b:Int)(g:List aq)(a:Int×Int):Option ((Int×Int)⊕Int):=
 cond (decide (a.1<a.2)) ((grd (0<=b/\b<(d:Int))).bind fun l=>(g[(c+(A2 b))]?).bind fun i=>(grd (0<=(A0 .i64 (A5 (A0 .u64 (A0 .i64 (a.1+a.2))) (2^(min (A2 1) (A3 .u64)))))/\(A0 .i64 (A5 (A0 .u64 (A0 .i64 (a.1+a.2))) (2^(min (A2 1) (A3 .u64)))))<(d:Int))).bind fun m=>(g[(c+(A2 (A0 .i64 (A5 (A0 .u64 (A0 .i64 (a.1+a.2))) (2^(min (A2 1) (A3 .u64)))))))]?).bind fun j=>(zn i j).bind fun k=>cond (!(decide (k<0))) (some (.inl (A0 .i64 ((A0 .i64 (A5 (A0 .u64 (A0 .i64 (a.1+a.2))) (2^(min (A2 1) (A3 .u64)))))+1),a.2))) (some (.inl (a.1,A0 .i64 (A5 (A0 .u64 (A0 .i64 (a.1+a.2))) (2^(min (A2 1) (A3 .u64)))))))) (some (.inr a.1))
def IH(b:Nat)(c:Nat)(g:Int)(a:Int×List aq):Option ((Int×List aq)⊕(List aq)):=
 cond (decide (g<a.1)) ((grd (0<=(A0 .i64 (a.1-1))/\(A0 .i64 (a.1-1))<(c:Int))).bind fun l=>(a.2[(b+(A2 (A0 .i64 (a.1-1))))]?).bind fun i=>(grd (0<=a.1/\a.1<(c:Int))).bind fun m=>(a.2[(b+(A2 a.1))]?).bind fun j=>bnd (a.2.set (b+(A2 a.1)) i) fun d=>(d[(b+(A2 (A0 .i64 (a.1-1))))]?).bind fun p=>bnd (d.set (b+(A2 (A0 .i64 (a.1-1)))) j) fun k=>some (.inl (A0 .i64 (a.1-1),k))) (some (.inr a.2))
def M_x(g:Nat)(i:Nat)(b:Int)(c:Int)(d:Int)(j:List aq)(a:Int×Int):Option ((Int×Int)⊕Int):=
 cond (decide (a.1<a.2)) ((grd (0<=(A0 .i64 ((A0 .i64 ((A0 .i64 ((A0 .i64 (A5 (A0 .u64 (A0 .i64 (b+d))) (2^(min (A2 1) (A3 .u64)))))+c))-1))-(A0 .i64 (A5 (A0 .u64 (A0 .i64 (a.1+a.2))) (2^(min (A2 1) (A3 .u64)))))))/\(A0 .i64 ((A0 .i64 ((A0 .i64 ((A0 .i64 (A5 (A0 .u64 (A0 .i64 (b+d))) (2^(min (A2 1) (A3 .u64)))))+c))-1))-(A0 .i64 (A5 (A0 .u64 (A0 .i64 (a.1+a.2))) (2^(min (A2 1) (A3 .u64)))))))<(i:Int))).bind fun p=>(j[(g+(A2 (A0 .i64 ((A0 .i64 ((A0 .i64 ((A0 .i64 (A5 (A0 .u64 (A0 .i64 (b+d))) (2^(min (A2 1) (A3 .u64)))))+c))-1))-(A0 .i64 (A5 (A0 .u64 (A0 .i64 (a.1+a.2))) (2^(min (A2 1) (A3 .u64)))))))))]?).bind fun k=>(grd (0<=(A0 .i64 (A5 (A0 .u64 (A0 .i64 (a.1+a.2))) (2^(min (A2 1) (A3 .u64)))))/\(A0 .i64 (A5 (A0 .u64 (A0 .i64 (a.1+a.2))) (2^(min (A2 1) (A3 .u64)))))<(i:Int))).bind fun q=>(j[(g+(A2 (A0 .i64 (A5 (A0 .u64 (A0 .i64 (a.1+a.2))) (2^(min (A2 1) (A3 .u64)))))))]?).bind fun l=>(zn k l).bind fun m=>cond (!(decide (m<0))) (some (.inl (A0 .i64 ((A0 .i64 (A5 (A0 .u64 (A0 .i64 (a.1+a.2))) (2^(min (A2 1) (A3 .u64)))))+1),a.2))) (some (.inl (a.1,A0 .i64 (A5 (A0 .u64 (A0 .i64 (a.1+a.2))) (2^(min (A2 1) (A3 .u64)))))))) (some (.inr a.1))
def Vy(k:Nat->Nat->Int->Int->Int->List aq->Option (List aq))(g:Nat)(i:Nat)(a:Int)(b:Int)(c:Int)(j:List aq):Option (List aq):=
 cond ((A0 .i64 (b-a))==1) ((aZ (M_v g i a j) N0 (b,c)).bind fun q=>(aZ (JU g i q) N0 (a,j)).bind fun s=>some s) (cond ((A0 .i64 (c-b))==1) ((aZ (M_w g i b j) N0 (a,b)).bind fun t=>(aZ (IH g i t) N0 (b,j)).bind fun u=>some u) ((cond (decide ((A0 .i64 (A5 (A0 .u64 (A0 .i64 (a+c))) (2^(min (A2 1) (A3 .u64)))))<b)) (some (A0 .i64 ((A0 .i64 ((A0 .i64 (A5 (A0 .u64 (A0 .i64 (a+c))) (2^(min (A2 1) (A3 .u64)))))+b))-c),A0 .i64 (A5 (A0 .u64 (A0 .i64 (a+c))) (2^(min (A2 1) (A3 .u64)))))) (some (a,b)):Option (Int×Int)).bind fun l=>(aZ (M_x g i a b c j) N0 (l.1,l.2)).bind fun d=>((cond (decide (d<b)) (some (decide (b<(A0 .i64 ((A0 .i64 ((A0 .i64 (A5 (A0 .u64 (A0 .i64 (a+c))) (2^(min (A2 1) (A3 .u64)))))+b))-d))))) (some false):Option Bool).bind fun v=>cond (v) ((AZ g i d b (A0 .i64 ((A0 .i64 ((A0 .i64 (A5 (A0 .u64 (A0 .i64 (a+c))) (2^(min (A2 1) (A3 .u64)))))+b))-d)) j).bind fun w=>some w) (some j):Option (List aq)).bind fun m=>((cond (decide (a<d)) (some (decide (d<(A0 .i64 (A5 (A0 .u64 (A0 .i64 (a+c))) (2^(min (A2 1) (A3 .u64)))))))) (some false):Option Bool).bind fun x=>cond (x) ((k g i a d (A0 .i64 (A5 (A0 .u64 (A0 .i64 (a+c))) (2^(min (A2 1) (A3 .u64))))) m).bind fun y=>some y) (some m):Option (List aq)).bind fun p=>(cond (decide ((A0 .i64 (A5 (A0 .u64 (A0 .i64 (a+c))) (2^(min (A2 1) (A3 .u64)))))<(A0 .i64 ((A0 .i64 ((A0 .i64 (A5 (A0 .u64 (A0 .i64 (a+c))) (2^(min (A2 1) (A3 .u64)))))+b))-d)))) (some (decide ((A0 .i64 ((A0 .i64 ((A0 .i64 (A5 (A0 .u64 (A0 .i64 (a+c))) (2^(min (A2 1) (A3 .u64)))))+b))-d))<c))) (some false):Option Bool).bind fun z=>cond (z) ((k g i (A0 .i64 (A5 (A0 .u64 (A0 .i64 (a+c))) (2^(min (A2 1) (A3 .u64))))) (A0 .i64 ((A0 .i64 ((A0 .i64 (A5 (A0 .u64 (A0 .i64 (a+c))) (2^(min (A2 1) (A3 .u64)))))+b))-d)) c p).bind fun a1=>some a1) (some p)))
def M_j:Nat->Nat->Nat->Int->Int->Int->List aq->Option (List aq)
 |0,_,_,_,_,_,_=>none
 |n+1,a,b,c,d,g,i=>Vy (M_j n) a b c d g i
def Jk(b:Int)(a:Nat×Int×Int×List aq):Option ((Nat×Int×Int×List aq)⊕(Nat×Int×List aq)):=
 cond (decide (a.2.2.1<=b)) ((HK 0 a.1 a.2.1 a.2.2.1 a.2.2.2).bind fun c=>some (.inl (a.1,a.2.2.1,A0 .i64 (a.2.2.1+20),c))) (some (.inr (a.1,a.2.1,a.2.2.2)))
def HJ(c:Int)(d:Nat×Int×List aq)(b:Int×List aq)(a:Int×Int×List aq):Option ((Int×Int×List aq)⊕(Int×List aq)):=
 cond (decide (a.2.1<=c)) ((M_j N0 0 d.1 a.1 (A0 .i64 (a.1+b.1)) a.2.1 a.2.2).bind fun g=>some (.inl (a.2.1,A0 .i64 (a.2.1+(A0 .i64 (2*b.1))),g))) (some (.inr (a.1,a.2.2)))
def Ro(c:Int)(d:Nat×Int×List aq)(a:Int×List aq):Option ((Int×List aq)⊕(List aq)):=
 cond (decide (a.1<c)) ((aZ (HJ c d a) N0 (0,A0 .i64 (2*a.1),a.2)).bind fun b=>cond (decide ((A0 .i64 (b.1+a.1))<c)) ((M_j N0 0 d.1 b.1 (A0 .i64 (b.1+a.1)) c b.2).bind fun g=>some (.inl (A0 .i64 (a.1*2),g))) (some (.inl (A0 .i64 (a.1*2),b.2)))) (some (.inr a.2))
def VP(b:Int)(c:List aq):Option (List aq):=
 (aZ (Jk b) N0 (c.length,0,20,c)).bind fun a=>(HK 0 a.1 a.2.1 b a.2.2).bind fun d=>(aZ (Ro b a) N0 (20,d)).bind fun g=>some g
def Nl(a:List aq):Option (List aq):=
 (VP (a.length:Int) a).bind fun b=>some b
def UT(a:List aq):Option (Nat×Nat×List aq):=
 (Nl a).bind fun b=>some (0,a.length,b)
def QR(c:af)(d:List aA)(g:aO):Option (aq×Bool):=
 (IA c d g).bind fun a=>(cond (!a.1) (some true) (some ((a.2.length:Int)==0)):Option Bool).bind fun i=>cond (i) (some ((⟨(⟨0,[]⟩:aj),0⟩:aq),false)) ((UT a.2).bind fun b=>(grd (0<=0/\0<(b.2.1:Int))).bind fun k=>(b.2.2[(b.1+(A2 0))]?).bind fun j=>some (j,true))
def GM(g:af)(i:Bool×List aq)(j:Bool×Int×aq×aq)(c:aq)(a:Bool×Int×aq×aq):Option ((Bool×Int×aq×aq)⊕(Bool×aq×aq)):=
 cond (decide (a.2.1<(((i.2.length-(A2 (A0 .i64 (j.2.1+1)))):Nat):Int))) ((grd (0<=a.2.1/\a.2.1<(((i.2.length-(A2 (A0 .i64 (j.2.1+1)))):Nat):Int))).bind fun g1=>(i.2[((A2 (A0 .i64 (j.2.1+1)))+(A2 a.2.1))]?).bind fun d=>(Dg g c.F.F d.F.F).bind fun l=>cond (!l) (some (.inl (a.1,A0 .i64 (a.2.1+1),a.2.2.1,a.2.2.2))) (((M_f d).bind fun m=>(M_f c).bind fun p=>cond (decide (m<p)) (some (d,c)) (some (c,d)):Option (aq×aq)).bind fun b=>(M_f b.1).bind fun q=>(M_f b.2).bind fun s=>(M_f a.2.2.1).bind fun t=>(M_f a.2.2.2).bind fun u=>(lE (A0 .i64 (q+s)) (A0 .i64 (t+u))).bind fun v=>bnd ([v,0]) fun w=>(oh w).bind fun k=>((cond (a.1) (some (k==0)) (some false):Option Bool).bind fun x=>cond (x) ((xo g b.1.F a.2.2.1.F).bind fun y=>(xo g b.2.F a.2.2.2.F).bind fun z=>bnd ([y,z]) fun a1=>(oh a1).bind fun b1=>some b1) (some k):Option Int).bind fun c1=>(cond (!a.1) (some true) (some (decide (c1<0))):Option Bool).bind fun d1=>cond (d1) (some (.inl (true,A0 .i64 (a.2.1+1),b.1,b.2))) (some (.inl (a.1,A0 .i64 (a.2.1+1),a.2.2.1,a.2.2.2))))) (some (.inr (a.1,a.2.2.1,a.2.2.2)))
def BX(g:af)(b:Bool×List aq)(a:Bool×Int×aq×aq):Option ((Bool×Int×aq×aq)⊕(Bool×aq×aq)):=
 cond (decide (a.2.1<(b.2.length:Int))) (((grd (0<=a.2.1/\a.2.1<(b.2.length:Int))).bind fun j=>(b.2[(A2 a.2.1)]?).bind fun i=>(grd (0<=(A0 .i64 (a.2.1+1))/\True/\A2 (A0 .i64 (a.2.1+1))<=b.2.length/\True)).bind fun k=>(aZ (GM g b a i) N0 (a.1,0,a.2.2.1,a.2.2.2)).bind fun c=>some (c.1,c.2.1,c.2.2):Option (Bool×aq×aq)).bind fun d=>some (.inl (d.1,A0 .i64 (a.2.1+1),d.2.1,d.2.2))) (some (.inr (a.1,a.2.2.1,a.2.2.2)))
def OZ(b:af)(d:List aA)(g:aO):Option (aq×aq×Bool):=
 (IA b d g).bind fun c=>cond (!c.1) (some ((⟨(⟨0,[]⟩:aj),0⟩:aq),(⟨(⟨0,[]⟩:aj),0⟩:aq),false)) ((aZ (BX b c) N0 (false,0,(⟨(⟨0,[]⟩:aj),0⟩:aq),(⟨(⟨0,[]⟩:aj),0⟩:aq))).bind fun a=>some (a.2.1,a.2.2,a.1))
def Sr(a:ae)(p1Z0:af)(p2Z0:ae):Option Bool:=
 (JQ p1Z0 a p2Z0).bind fun b=>some (!b)
def th(a:af)(b:List ae)(c:ae):Option Bool:=
 (tn b (fun x0=>Sr x0 a c)).bind fun d=>some (!d)
def aek(b:aD)(a:ae)(c:af)(d:List ae):Option (Bool×ae×af×List ae):=
 (th c d (⟨(a).Id,(a).W,(⟨((a).N).N,((a).N).F⟩:aj),(⟨(b).N,(b).F⟩:aD),(⟨((a).F).N,((a).F).F⟩:aj),(⟨((a).L).N,((a).L).F⟩:aD)⟩:ae)).bind fun g=>some (g,(⟨(a).Id,(a).W,(⟨((a).N).N,((a).N).F⟩:aj),(⟨(b).N,(b).F⟩:aD),(⟨((a).F).N,((a).F).F⟩:aj),(⟨((a).L).N,((a).L).F⟩:aD)⟩:ae),c,d)
def M_o(c:Int)(a:Int×af×List ae×ae):Option ((Int×af×List ae×ae)⊕((af×List ae×ae)⊕(aD×Bool×af×List ae×ae))):=
 cond (decide ((A0 .i64 (a.1+c))<=24)) ((aek (⟨a.1,c⟩:aD) a.2.2.2 a.2.1 a.2.2.1).bind fun b=>cond (b.1) (some (.inr (.inr ((⟨a.1,c⟩:aD),true,b.2.2.1,b.2.2.2,b.2.1)))) (some (.inl (A0 .i64 (a.1+1),b.2.2.1,b.2.2.2,b.2.1)))) (some (.inr (.inl (a.2.1,a.2.2.1,a.2.2.2))))
def Cm(b:Int)(c:af)(d:List ae)(g:ae):Option (aD×Bool×af×List ae×ae):=
 (aZ (M_o b) N0 (0,c,d,g)).bind fun i=>(match i with| .inl a=>some ((⟨0,0⟩:aD),false,a.1,a.2.1,a.2.2)| .inr j=>some j)
def agt(b:aD)(a:ae)(c:af)(d:List ae):Option (Bool×ae×af×List ae):=
 (th c d (⟨(a).Id,(a).W,(⟨((a).N).N,((a).N).F⟩:aj),(⟨((a).P).N,((a).P).F⟩:aD),(⟨((a).F).N,((a).F).F⟩:aj),(⟨(b).N,(b).F⟩:aD)⟩:ae)).bind fun g=>some (g,(⟨(a).Id,(a).W,(⟨((a).N).N,((a).N).F⟩:aj),(⟨((a).P).N,((a).P).F⟩:aD),(⟨((a).F).N,((a).F).F⟩:aj),(⟨(b).N,(b).F⟩:aD)⟩:ae),c,d)
def Cx(c:Int)(a:Int×af×List ae×ae):Option ((Int×af×List ae×ae)⊕((af×List ae×ae)⊕(aD×Bool×af×List ae×ae))):=
 cond (decide ((A0 .i64 (a.1+c))<=24)) ((agt (⟨a.1,c⟩:aD) a.2.2.2 a.2.1 a.2.2.1).bind fun b=>cond (b.1) (some (.inr (.inr ((⟨a.1,c⟩:aD),true,b.2.2.1,b.2.2.2,b.2.1)))) (some (.inl (A0 .i64 (a.1+1),b.2.2.1,b.2.2.2,b.2.1)))) (some (.inr (.inl (a.2.1,a.2.2.1,a.2.2.2))))
def BJ(b:Int)(c:af)(d:List ae)(g:ae):Option (aD×Bool×af×List ae×ae):=
 (aZ (Cx b) N0 (0,c,d,g)).bind fun i=>(match i with| .inl a=>some ((⟨0,0⟩:aD),false,a.1,a.2.1,a.2.2)| .inr j=>some j)
def M_k(b:List ae)(a:ae):Option (ae⊕ae):=
 (tn b (fun x0=>QF x0 a)).bind fun c=>cond (c) (some (.inl (⟨A0 .i64 (((a).Id)+1),(a).W,(⟨((a).N).N,((a).N).F⟩:aj),(⟨((a).P).N,((a).P).F⟩:aD),(⟨((a).F).N,((a).F).F⟩:aj),(⟨((a).L).N,((a).L).F⟩:aD)⟩:ae))) (some (.inr a))
def Tr(i:af)(k:List aA)(l:List ae)(g:aO):Option (ae×Bool):=
 (aZ (M_k l) N0 (⟨1,0,(⟨0,[]⟩:aj),(⟨0,0⟩:aD),(⟨0,[]⟩:aj),(⟨0,0⟩:aD)⟩:ae)).bind fun c=>(QR i k g).bind fun m=>(cond (((g).W) !=0) ((OZ i k g).bind fun j=>some (j.2.2,j.1,j.2.1)) (some (m.2,m.1,(⟨(⟨0,[]⟩:aj),0⟩:aq))):Option (Bool×aq×aq)).bind fun d=>cond (!d.1) (some ((⟨0,0,(⟨0,[]⟩:aj),(⟨0,0⟩:aD),(⟨0,[]⟩:aj),(⟨0,0⟩:aD)⟩:ae),false)) ((Cm ((d.2.1).N) i l (⟨(c).Id,(c).W,(⟨((d.2.1).F).N,((d.2.1).F).F⟩:aj),(⟨((c).P).N,((c).P).F⟩:aD),(⟨((c).F).N,((c).F).F⟩:aj),(⟨((c).L).N,((c).L).F⟩:aD)⟩:ae)).bind fun a=>(cond (!a.2.1) (some true) (some (((g).W)==0)):Option Bool).bind fun p=>cond (p) (some ((⟨(a.2.2.2.2).Id,(g).W,(⟨((a.2.2.2.2).N).N,((a.2.2.2.2).N).F⟩:aj),(⟨(a.1).N,(a.1).F⟩:aD),(⟨((a.2.2.2.2).F).N,((a.2.2.2.2).F).F⟩:aj),(⟨((a.2.2.2.2).L).N,((a.2.2.2.2).L).F⟩:aD)⟩:ae),a.2.1)) ((BJ ((d.2.2).N) a.2.2.1 a.2.2.2.1 (⟨(a.2.2.2.2).Id,(g).W,(⟨((a.2.2.2.2).N).N,((a.2.2.2.2).N).F⟩:aj),(⟨(a.1).N,(a.1).F⟩:aD),(⟨((d.2.2).F).N,((d.2.2).F).F⟩:aj),(⟨((a.2.2.2.2).L).N,((a.2.2.2.2).L).F⟩:aD)⟩:ae)).bind fun b=>some ((⟨(b.2.2.2.2).Id,(b.2.2.2.2).W,(⟨((b.2.2.2.2).N).N,((b.2.2.2.2).N).F⟩:aj),(⟨((b.2.2.2.2).P).N,((b.2.2.2.2).P).F⟩:aD),(⟨((b.2.2.2.2).F).N,((b.2.2.2.2).F).F⟩:aj),(⟨(b.1).N,(b.1).F⟩:aD)⟩:ae),b.2.1)))
def LQ(a:aj):Option aj:=
 (grd (a.F.length*8<=140737488355328)).bind fun b=>some (⟨a.N,a.F⟩:aj)
def Ii(c:List ae)(b:Int×List ae):Option ((Int×List ae)⊕(List ae)):=
 cond (decide (b.1<(c.length:Int))) ((bC c b.1).bind fun a=>(LQ a.N).bind fun d=>(LQ a.F).bind fun g=>bnd ([(⟨a.Id,a.W,(⟨d.N,d.F⟩:aj),(⟨a.P.N,a.P.F⟩:aD),(⟨g.N,g.F⟩:aj),(⟨a.L.N,a.L.F⟩:aD)⟩:ae)]) fun i=>(grd ((b.2.length+1)*112<=140737488355328)).bind fun k=>bnd (b.2++i) fun j=>some (.inl (A0 .i64 (b.1+1),j))) (some (.inr b.2))
def wT(a:List ae):Option (List ae):=
 (aZ (Ii a) N0 (0,[])).bind fun b=>some b
def M_z(b:List ae)(c:ae×Bool)(a:Int):Option (Int⊕Int):=
 cond (decide (a<(b.length:Int))) ((bC b a).bind fun d=>cond (decide (d.Id<((c.1).Id))) (some (.inl (A0 .i64 (a+1)))) (some (.inr a))) (some (.inr a))
def MU(c:af)(d:List aA)(a:List ae)(g:aO):Option (List ae×Int×Bool):=
 ((wR c a).bind fun i=>cond (!i) (some true) (some ((a.length:Int)==8)):Option Bool).bind fun j=>cond (j) (some (([]),0,false)) ((Tr c d a g).bind fun b=>cond (!b.2) (some (([]),0,false)) ((wT a).bind fun k=>(aZ (M_z a b) N0 0).bind fun l=>bnd ([b.1]) fun m=>(wT m).bind fun p=>(mG 112 k l p).bind fun q=>some (q,((b.1).Id),true)))
def M_cg:=M_q
def M_ch:=M_r
def M_is:=yI
def M_bl:=M_d
def Ta:=AR
def LL(a:ae)(p1Z0:Int):Option Bool:=
 some (a.Id==p1Z0)
def yf{τq:Type}(k:τq->ae)(i:τq)(b:Int)(c:Int)(a:List τq):Option (Nat×Nat×List τq):=
 (grd (0<=b/\b<=c/\c<=(a.length:Int)/\(a.length:Int)<=(a.length:Int))).bind fun l=>cond (b==c) (some (0,a.length,a)) ((grd (True/\0<=b/\True/\0+A2 b<=a.length)).bind fun m=>(grd (0<=c/\True/\A2 c<=a.length/\0+a.length<=a.length)).bind fun p=>bnd (cY a (A2 c) (a.length-(A2 c))) fun d=>(grd (0+(A2 b)+d.length<=a.length)).bind fun s=>bnd (dg a (A2 b) d) fun g=>(grd (0<=((((A2 b)+d.length):Nat):Int)/\0<=(a.length:Int)/\A2 ((((A2 b)+d.length):Nat):Int)<=A2 (a.length:Int)/\0+A2 (a.length:Int)<=g.length)).bind fun t=>bnd (dg g (A2 ((((A2 b)+d.length):Nat):Int)) (B0 ((A2 (a.length:Int))-(A2 ((((A2 b)+d.length):Nat):Int))) i)) fun j=>some (0,((A2 b)+d.length),j))
def LJ(d:af)(a:List ae)(g:Int):Option (List ae×Bool):=
 (Bo a (fun x0=>LL x0 g)).bind fun b=>((wR d a).bind fun i=>cond (!i) (some true) (some (decide (b<0))):Option Bool).bind fun j=>cond (j) (some (([]),false)) ((wT a).bind fun k=>(yf id (⟨0,0,(⟨0,[]⟩:aj),(⟨0,0⟩:aD),(⟨0,[]⟩:aj),(⟨0,0⟩:aD)⟩:ae) b (A0 .i64 (b+1)) k).bind fun c=>bnd (cY c.2.2 c.1 c.2.1) fun l=>some (l,true))
def Ip(b:List Int)(c:List Int)(a:Int):Option (Int⊕(Unit⊕Bool)):=
 cond (decide (a<(b.length:Int))) ((bC b a).bind fun d=>(bC c a).bind fun g=>cond (d !=g) (some (.inr (.inr false))) (some (.inl (A0 .i64 (a+1))))) (some (.inr (.inl ())))
def Rt(a:List Int)(b:List Int):Option Bool:=
 cond ((a.length:Int) !=(b.length:Int)) (some false) ((aZ (Ip a b) N0 0).bind fun c=>(match c with| .inl g=>some true| .inr d=>some d))
def Ig(a:aj)(b:aj):Option Bool:=
 cond (a.N==b.N) ((Rt a.F b.F).bind fun c=>some c) (some false)
def Qx(a:ae)(b:ae):Option Bool:=
 cond (a.Id==b.Id) (cond (a.W==b.W) (cond (a.P.N==b.P.N&&a.P.F==b.P.F) (cond (a.L.N==b.L.N&&a.L.F==b.L.F) ((Ig a.N b.N).bind fun c=>cond (c) ((Ig a.F b.F).bind fun d=>some d) (some false)) (some false)) (some false)) (some false)) (some false)
def M_y(c:ae)(a:Int×List Int):Option ((Int×List Int)⊕(List Int)):=
 cond (decide (a.1<(c.N.F.length:Int))) ((bC c.N.F a.1).bind fun b=>(grd (0<=b/\b<(a.2.length:Int))).bind fun j=>(a.2[(A2 b)]?).bind fun d=>(yr c.P).bind fun g=>bnd (a.2.set (A2 b) (bits .or .i64 d g)) fun i=>some (.inl (A0 .i64 (a.1+1),i))) (some (.inr a.2))
def M_p(c:ae)(a:Int×List Int):Option ((Int×List Int)⊕(List Int)):=
 cond (decide (a.1<(c.F.F.length:Int))) ((bC c.F.F a.1).bind fun b=>(grd (0<=b/\b<(a.2.length:Int))).bind fun j=>(a.2[(A2 b)]?).bind fun d=>(yr c.L).bind fun g=>bnd (a.2.set (A2 b) (bits .or .i64 d g)) fun i=>some (.inl (A0 .i64 (a.1+1),i))) (some (.inr a.2))
def GT(b:List ae)(a:Int×List Int×List Int):Option ((Int×List Int×List Int)⊕(List Int×List Int)):=
 cond (decide (a.1<(b.length:Int))) (((bC b a.1).bind fun c=>(aZ (M_y c) N0 (0,a.2.1)).bind fun g=>(aZ (M_p c) N0 (0,a.2.2)).bind fun i=>some (g,i):Option (List Int×List Int)).bind fun d=>some (.inl (A0 .i64 (a.1+1),d.1,d.2))) (some (.inr (a.2.1,a.2.2)))
def Bp(a:af)(c:List ae):Option (List Int×List Int):=
 (grd (0<=(a.F.length:Int)/\(a.F.length:Int)<=(a.F.length:Int)/\(a.F.length:Int)*((8:Nat):Int)<=140737488355328/\(a.F.length:Int)<=9223372036854775807)).bind fun i=>bnd (B0 (A2 (a.F.length:Int)) 0) fun d=>(grd (0<=(a.F.length:Int)/\(a.F.length:Int)<=(a.F.length:Int)/\(a.F.length:Int)*((8:Nat):Int)<=140737488355328/\(a.F.length:Int)<=9223372036854775807)).bind fun j=>bnd (B0 (A2 (a.F.length:Int)) 0) fun g=>(aZ (GT c) N0 (0,d,g)).bind fun b=>some (b.1,b.2)
def JD(a:af)(b:List ae):Option (List Int×List Int×Bool):=
 (wR a b).bind fun d=>cond (!d) (some (([]),([]),false)) ((Bp a b).bind fun c=>some (c.1,c.2,true))
def oc1(x:Int):Int:=A0 .u64 ((bits .and .u64 (A5 x (2^(min (A2 1) (A3 .u64)))) 6148914691236517205)+(bits .and .u64 x 6148914691236517205))
def oc2(x:Int):Int:=A0 .u64 ((bits .and .u64 (A5 x (2^(min (A2 2) (A3 .u64)))) 3689348814741910323)+(bits .and .u64 x 3689348814741910323))
def oc3(x:Int):Int:=bits .and .u64 (A0 .u64 ((A5 x (2^(min (A2 4) (A3 .u64))))+x)) 1085102592571150095
def oc4(x:Int):Int:=A0 .u64 (x+(A5 x (2^(min (A2 8) (A3 .u64)))))
def oc5(x:Int):Int:=A0 .u64 (x+(A5 x (2^(min (A2 16) (A3 .u64)))))
def oc6(x:Int):Int:=A0 .u64 (x+(A5 x (2^(min (A2 32) (A3 .u64)))))
def Vb(a:Int):Option Int:=
 some (bits .and .i64 (A0 .i64 (oc6 (oc5 (oc4 (oc3 (oc2 (oc1 a))))))) 127)
def RT(a:Int):Option Int:=
 (Vb a).bind fun b=>some b
def Ct(b:List ae)(a:Int×Int):Option ((Int×Int)⊕Int):=
 cond (decide (a.2<(b.length:Int))) ((bC b a.2).bind fun c=>some (.inl (A0 .i64 (a.1+(A0 .i64 ((c.F.F.length:Int)*c.L.F))),A0 .i64 (a.2+1)))) (some (.inr a.1))
def zj(b:List Int×List Int)(a:Int×Int):Option ((Int×Int)⊕Int):=
 cond (decide (a.2<(b.2.length:Int))) ((grd (0<=a.2/\a.2<(b.2.length:Int))).bind fun g=>(b.2[(A2 a.2)]?).bind fun c=>(RT (A0 .u64 c)).bind fun d=>some (.inl (A0 .i64 (a.1-d),A0 .i64 (a.2+1)))) (some (.inr a.1))
def OS(b:af)(a:List ae):Option (Int×Bool):=
 (wR b a).bind fun c=>cond (!c) (some (0,false)) ((aZ (Ct a) N0 (0,0)).bind fun d=>(Bp b a).bind fun g=>(aZ (zj g) N0 (d,0)).bind fun i=>some (i,true))
def M_m(b:af×Nat×Nat×Nat×Nat×aO×List aA×List ae)(d:Int×Bool×List ae×List aA×List ae)(c:List ae×Bool)(a:Int):Option (Int⊕(Unit⊕Bool)):=
 cond (decide (a<(b.2.2.2.2.1:Int))) ((grd (0<=a/\a<(c.1.length:Int))).bind fun k=>(c.1[(A2 a)]?).bind fun g=>(grd (0<=a/\a<(b.2.2.2.2.1:Int))).bind fun l=>(d.2.2.2.2[(b.2.2.2.1+(A2 a))]?).bind fun i=>(Qx g i).bind fun j=>cond (!j) (some (.inr (.inr false))) (some (.inl (A0 .i64 (a+1))))) (some (.inr (.inl ())))
def M_n(b:List Int×List Int×Bool)(a:Int):Option (Int⊕(Unit⊕Bool)):=
 (cond (decide (a<(b.1.length:Int))) (some b.2.2) (some false):Option Bool).bind fun c=>cond (c) ((grd (0<=a/\a<(b.1.length:Int))).bind fun i=>(b.1[(A2 a)]?).bind fun d=>(grd (0<=a/\a<(b.2.1.length:Int))).bind fun j=>(b.2.1[(A2 a)]?).bind fun g=>cond ((bits .and .i64 d g) !=0) (some (.inr (.inr false))) (some (.inl (A0 .i64 (a+1))))) (some (.inr (.inl ())))
def Uf(g:List Int):Option Bool:=
 (TM g).bind fun k=>cond (k) (some true) ((MF g).bind fun a=>bnd (cY a.2.2.2.2.2.2.1 a.2.1 a.2.2.1) fun l=>bnd (cY a.2.2.2.2.2.2.2 a.2.2.2.1 a.2.2.2.2.1) fun m=>(MU a.1 l m a.2.2.2.2.2.1).bind fun b=>(Ta a.1 a.2.1 a.2.2.1 a.2.2.2.1 a.2.2.2.2.1 a.2.2.2.2.2.1 a.2.2.2.2.2.2.1 a.2.2.2.2.2.2.2).bind fun c=>(cond (b.2.1 !=c.1) (some true) (some (!(b.2.2==c.2.1))):Option Bool).bind fun p=>cond (p) (some false) (cond (!b.2.2) (some ((b.1.length:Int)==0)) (((wR a.1 b.1).bind fun q=>cond (!q) (some true) (some ((b.1.length:Int) !=(A0 .i64 ((a.2.2.2.2.1:Int)+1)))):Option Bool).bind fun s=>cond (s) (some false) ((LJ a.1 b.1 b.2.1).bind fun d=>(cond (!d.2) (some true) (some ((d.1.length:Int) !=(a.2.2.2.2.1:Int))):Option Bool).bind fun t=>cond (t) (some false) ((aZ (M_m a c d) N0 0).bind fun u=>(match u with| .inl y=>(JD a.1 b.1).bind fun i=>(aZ (M_n i) N0 0).bind fun v=>(match v with| .inl z=>(OS a.1 b.1).bind fun j=>cond (i.2.2) (cond (j.2) (some (decide (0<=j.1))) (some false)) (some false)| .inr w=>some w)| .inr x=>some x))))))
end Vs

namespace Vs
open Go
def iu{H:World->Prop}(XZ0:List (Tok H ai 10))(aaZ0:Int)(abZ0:Int){r:Nat×Nat×List ae}(h:yf id (⟨0,0,(⟨0,[]⟩:aj),(⟨0,0⟩:aD),(⟨0,[]⟩:aj),(⟨0,0⟩:aD)⟩:ae) aaZ0 abZ0 (XZ0.map Tok.x)=some r):
 ∃YZ0:List (Tok H ai 10),yf Tok.x iE aaZ0 abZ0 XZ0=some (r.1,r.2.1,YZ0)/\Sel XZ0 YZ0/\YZ0.map Tok.x=r.2.2:=by
 have d:∀{τ:Type}(v:τ->ae)(z:τ)(X:List τ),yf v z aaZ0 abZ0 X=Kl z aaZ0 abZ0 X:=fun _ _ _=>rfl;rw[d] at h⊢;exact Wd rfl tm h
end Vs

set_option linter.unusedVariables false
set_option linter.unusedSimpArgs false
namespace Vs
open Go Go.Proofs Go.Shelf Go.RowKit Go.Lib
section
variable{P:Program}
def fk(w:World)(dT sT ty elem:TypeId)(k:Nat)(b o dLen dCap:Nat)(a:Addr)(sLen sCap:Nat)(cs:List Value)
 (hu:P.underlying dT=some (.slice elem)) (hs:(P.info? elem).map (·.size)=some k) (hn:cs.length=C7 sLen dLen*k)
 (hsrc:∀j v,cs[j]?=some v->w.cell? (a.add j)=some v) (hc:∀j,j<cs.length->(w.cell? ⟨b,o+j,none⟩).isSome=true) (hf:∀j,j<cs.length->w.frozen? ⟨b,o+j,none⟩=false) (h1:∀v∈cs,v.oneCell'=true):
 (Builtin.copy_ #[dT,sT] ty #[.slice (some ⟨b,o,none⟩) dLen dCap,.slice (some a) sLen sCap]).run P w=.ok (goInt (C7 sLen dLen)) (w.setCells b o cs):=by
 have hl:=run_loadCells_list (P:=P) w a cs hsrc;have hst:=run_storeCells_cells (P:=P) b o cs 0 w (by simpa using hc) (by simpa using hf) h1;cases hq:P.info? elem with
 |none=>simp[hq] at hs
 | some i =>
   have hi:i.size=k:=by simpa[hq] using hs
   simp[Builtin.copy_,run_underlying hu,Builtin.lenOf,Builtin.firstCells,Go.sizeOf,typeInfo,hq,hi,<-hn,hl,hst]
def wY(w:World){o:Oper}{a:Act}{K:Act->World->Prop}{Q:Exit->Act->World->Prop}(d s:Operand)(t t':TypeId)
 (ho:o.op=.call {callee:=.builtin .copy,args:=#[d,s],argTypes:=#[t,t']}) (v u:Value) (hd:a.eval d=v) (hs:a.eval s=u) {v':Value} {w':World}
 (hr:(Builtin.copy_ #[t,t'] o.type #[v,u]).run P w=.ok v' w') (h:K (a.put o.dst v') w'):o.wp P a w K Q:=by
 unfold Oper.wp execOp;simp only[ho,resolve,invoke,builtin,Sem.run_bind,Sem.run_pure,Result.andThen_ok,List.map_toArray,List.map_cons,List.map_nil,hd,hs,hr];exact h
def gb(w:World){ops:Array Oper}{rest:List Oper}{o:Oper}{a:Act}{Q:Exit->Act->World->Prop}(hgd:o.guard=none)(d s:Operand)(t t':TypeId)
 (ho:o.op=.call {callee:=.builtin .copy,args:=#[d,s],argTypes:=#[t,t']}) (v u:Value) (hd:a.eval d=v) (hs:a.eval s=u) {v':Value} {w':World}
 (hr:(Builtin.copy_ #[t,t'] o.type #[v,u]).run P w=.ok v' w') (h:wpList P ops Q rest (a.put o.dst v') w'):wpList P ops Q (o::rest) a w:=
 wpList_plain hgd fun _ hK=>wY w d s t t' ho v u hd hs hr (hK _ _ h)
def kG{ops:Array Oper}{o:Oper}{a:Act}{w:World}{K:Act->World->Prop}{Q:Exit->Act->World->Prop}{E:Prop}
 (hg:o.guard=none) (d x:Operand) (dT sT:TypeId) (hop:o.op=Op.call {callee:=Callee.builtin Builtin.copy,args:=#[d,x],argTypes:=#[dT,sT]})
 (v u:Value) (hd:a.eval d=v) (hx:a.eval x=u) {v':Value} {w':World} (hr:(Builtin.copy_ #[dT,sT] o.type #[v,u]).run P w=.ok v' w') (hK:K (a.put o.dst v') w'):
 if Region.wanted o (yielded ops a.tmps)=true then Oper.wp P o a w K Q else E:=by
 have hw:Region.wanted o (yielded ops a.tmps)=true:=by simp[Region.wanted,hg]
 rw[u7 hw];unfold Oper.wp;simp[execOp,hop,resolve,invoke,builtin,hd,hx,hr,Result.andThen];exact hK
set_option maxHeartbeats 4000000 in
set_option maxRecDepth 100000 in
theorem Gz(b off n c i vb voff m vc:Nat)(cs vs:List Value)(w:World)(hi:i<n)(hm:0<m)(hroom:n+m<=c)(hbig:(n+m)*112<=140737488355328)(hvb:vb≠b)
 (hcl:cs.length=n*10) (hvl:vs.length=m*10)
 (hcs:∀j v,cs[j]?=some v->w.cell? ⟨b,off+j,none⟩=some v) (hsp:∀j,j<(n+m)*10->(w.cell? ⟨b,off+j,none⟩).isSome=true) (hfz:∀j,j<(n+m)*10->w.frozen? ⟨b,off+j,none⟩=false)
 (hvs:∀j v,vs[j]?=some v->w.cell? ⟨vb,voff+j,none⟩=some v) (h1c:∀v∈cs,v.oneCell'=true) (h1v:∀v∈vs,v.oneCell'=true)
 (tA tB:TypeId) (kA kB:Nat) (hsa:w.shape? vb=some (tA,kA)) (hsb:w.shape? b=some (tB,kB)) (hkB:kB≠0) (hfa:w.frozen? ⟨vb,voff,none⟩=false) (hfe:w.frozen? ⟨vb,kA,none⟩=false):
 Calls A1 87 #[.slice (some ⟨b,off,none⟩) n c,.int .i64 i,.slice (some ⟨vb,voff,none⟩) m vc] w fun e w'=>
  e=.returned (.slice (some ⟨b,off,none⟩) (n+m) c)/\w'=(w.drew.setCells b (off+(i+m)*10) (cs.drop (i*10))).setCells b (off+i*10) vs:=by
 have tSL:A1.underlying 28=some (.slice 45):=by kernel_rfl
 have uSL:=run_underlying tSL;have hz1:¬((m:Int)=0):=by omega
 have hz2:¬((i:Int)=(n:Int)):=by omega
 have hsz:(A1.info? 45).map (·.size)=some 10:=by kernel_rfl
 have zEL:∀w,(Go.sizeOf 45).run A1 w=.ok 10 w:=fun w=>by
  obtain⟨i0,h1,h2⟩:=A7.1 hsz;simp[Go.sizeOf,typeInfo,h1,h2]
 have hov:∀lb cb,(callFunc 162 #[.slice (some ⟨vb,voff,none⟩) m vc,.slice (some ⟨b,off+(i+m)*10,none⟩) lb cb]).run A1 w=.ok (.value (.bool false)) w:=fun lb cb=>by
  rw[run_callFunc_extern Tryz.func162 (by kernel_rfl) (by kernel_rfl) (by kernel_rfl) (e:=Extern.SlicesOverlaps.overlaps #[28,28] #[4]) (by kernel_rfl),
   Lib.run_overlaps_apart w 28 4 45 tSL 10 zEL ⟨vb,voff,none⟩ ⟨b,off+(i+m)*10,none⟩ m vc lb cb hvb tA tB kA kB hsa hsb hkB hfa hfe]
  rfl
 have hdl:(cs.drop (i*10)).length=(n-i)*10:=by rw[E0,hcl];omega
 have hw1:F7.wrap ((i:Int)+(m:Int))=(i:Int)+(m:Int):=by rw[B3];omega
 have hw2:F7.wrap ((n:Int)+(m:Int))=(n:Int)+(m:Int):=by rw[B3];omega
 have hb1:(0:Int)<=(i:Int)+(m:Int):=by omega
 have hin:i<=n:=by omega
 have htn:((i:Int)+(m:Int)).toNat=i+m:=by omega
 have hb2:¬(c=i+m):=by omega
 have hb3:(i:Int)<=(n:Int)+(m:Int):=by omega
 have hb4:¬(c=i):=by omega
 have mixed:=A8.mixed;have hcp1:∀ty dc sc,(Builtin.copy_ #[28,28] ty #[.slice (some ⟨b,off+(i+m)*10,none⟩) (n+m-(i+m)) dc,.slice (some ⟨b,off+i*10,none⟩) (n+m-i) sc]).run A1 w.drew=.ok (goInt (C7 (n+m-i) (n+m-(i+m)))) (w.drew.setCells b (off+(i+m)*10) (cs.drop (i*10))):=fun ty dc sc=>
  fk w.drew _ _ ty 45 10 b (off+(i+m)*10) (n+m-(i+m)) dc ⟨b,off+i*10,none⟩ (n+m-i) sc (cs.drop (i*10)) tSL hsz (by rw[hdl];congr 1;simp only[B5];split<;>omega)
   (fun j v hj=>by rw[Addr.add_lit,A6];exact hcs (i*10+j) v (by rwa[B7] at hj))
   (fun j hj=>by rw[A6];exact hsp _ (by omega)) (fun j hj=>by rw[A6];exact hfz _ (by omega)) (fun v hv=>h1c v (B6 hv))
 obtain⟨W1,hW1⟩:∃W1,W1=w.drew.setCells b (off+(i+m)*10) (cs.drop (i*10)):=⟨_,rfl⟩;have hsp1:∀k,k<(n+m)*10->(W1.cell? ⟨b,off+k,none⟩).isSome=true:=fun k hk=>by
  rw[hW1];exact World.isSome_setCells b _ _ _ _ (hsp k hk)
 have hcp2:∀(W:World),(∀x,W.cell? x=W1.cell? x)->(∀x,W.frozen? x=W1.frozen? x)->∀ty dc,(Builtin.copy_ #[28,28] ty #[.slice (some ⟨b,off+i*10,none⟩) (n+m-i) dc,.slice (some ⟨vb,voff,none⟩) m vc]).run A1 W=.ok (goInt (C7 m (n+m-i))) (W.setCells b (off+i*10) vs):=fun W hWc hWf ty dc=>
  fk W _ _ ty 45 10 b (off+i*10) (n+m-i) dc ⟨vb,voff,none⟩ m vc vs tSL hsz (by rw[hvl];congr 1;simp only[B5];split<;>omega)
   (fun j v hj=>by
    rw[Addr.add_lit,hWc,hW1,World.cell?_setCells_out b _ _ _ _ (fun h _=>absurd h hvb)];exact hvs j v hj)
   (fun j hj=>by rw[hWc,A6];exact hsp1 _ (by omega)) (fun j hj=>by rw[hWf,hW1,World.frozen?_setCells,A6];exact hfz _ (by omega)) h1v
 rw[<-hW1] at hcp1
 go_enter B1,B4
 go_wp2_with (simp only[hov])
 go_region_law_o (refine kG rfl _ _ 28 28 rfl _ _ (by simp[Act.eval,Act.put]) (by simp[Act.eval,Act.put]) (hcp1 _ _ _) ?_)
 go_wp2_with (at_builtin;refine gb _ rfl _ _ 28 28 rfl _ _ rfl rfl (hcp2 _ (fun _=>rfl) (fun _=>rfl) _ _) ?_)
 go_ret
 first|exact⟨rfl,rfl⟩|exact⟨rfl,by rw[hW1]⟩
def zL(z:Array Value)(n:Nat)(hz:0<z.size)(x:Value)(h:x∈Builtin.zeroCells z n):x∈z:=by
 unfold Builtin.zeroCells at h;rw[Array.mem_map] at h;obtain⟨i,hi,h⟩:=h;rw[<-h];rw[getElem!_pos z _ (Nat.mod_lt _ hz)];exact Array.getElem_mem _
def xc:∃(i0:TypeInfo)(z:Value),A1.info? 45=some i0/\i0.size=10/\i0.bytes=112/\i0.zero=some z/\z.cells.size=10/\∀x∈z.cells,x.oneCell'=true:=by
 have h:((A1.info? 45).map fun i=>(i.size,i.bytes,i.zero.map fun z=>(z.cells.size,z.cells.all fun x=>x.oneCell')))=some (10,112,some (10,true)):=by kernel_rfl
 obtain⟨i0,h1,h2⟩:=A7.1 h;simp only[Prod.mk.injEq] at h2;obtain⟨a1,a2,a3⟩:=h2;obtain⟨z,b1,b2⟩:=A7.1 a3;simp only[Prod.mk.injEq] at b2;refine⟨i0,z,h1,a1,a2,b1,b2.1,fun x hx=>?_⟩;exact(Array.all_eq_true_iff_forall_mem.1 b2.2) x hx
set_option maxHeartbeats 4000000 in
set_option maxRecDepth 100000 in
theorem wO(b off n c vb voff m vc:Nat)(vs:List Value)(w:World)(hm:0<m)(hroom:n+m<=c)(hbig:(n+m)*112<=140737488355328)
 (hvl:vs.length=m*10) (hsp:∀j,j<m*10->(w.cell? ⟨b,off+n*10+j,none⟩).isSome=true) (hfz:∀j,j<m*10->w.frozen? ⟨b,off+n*10+j,none⟩=false)
 (hvs:∀j v,vs[j]?=some v->w.cell? ⟨vb,voff+j,none⟩=some v) (h1v:∀v∈vs,v.oneCell'=true):
 Calls A1 87 #[.slice (some ⟨b,off,none⟩) n c,.int .i64 n,.slice (some ⟨vb,voff,none⟩) m vc] w fun e w'=>
  e=.returned (.slice (some ⟨b,off,none⟩) (n+m) c)/\w'=w.setCells b (off+n*10) vs:=by
 have tSL:A1.underlying 28=some (.slice 45):=by kernel_rfl
 have uSL:=run_underlying tSL;obtain⟨i0,z,hi0,hzs,hzb,hz0,_,_⟩:=xc;have mixed:=A8.mixed;have hz1:¬((m:Int)=0):=by omega
 have hsrc:Src A1 i0.size 28 (.slice (some ⟨vb,voff,none⟩) m vc) m vs w:=Src.ofSlice w tSL ⟨vb,voff,none⟩ m vc vs (by rw[hzs];exact hvl) (fun j u hj=>by rw[Addr.add_lit];exact hvs j u hj) h1v;have hrun:∀ty,(Builtin.append_ #[28,28] ty #[.slice (some ⟨b,off,none⟩) n c,.slice (some ⟨vb,voff,none⟩) m vc]).run A1 w=.ok (.slice (some ⟨b,off,none⟩) (n+m) c) (w.setCells b (off+n*10) vs):=fun ty=>by
  have:=run_append_room_src (P:=A1) w 28 28 ty 45 i0 tSL hi0 b off n c (.slice (some ⟨vb,voff,none⟩) m vc) m vs hsrc hroom (by rw[hzs,hvl];exact hsp) (by rw[hzs,hvl];exact hfz);rw[hzs] at this;exact this
 go_enter B1,B4
 go_wp2_with (at_builtin;refine Lib.wpList_append_run _ rfl _ _ _ _ rfl _ _ rfl rfl _ _ (hrun _) ?_)
 go_ret
 exact⟨rfl,rfl⟩
set_option maxHeartbeats 4000000 in
set_option maxRecDepth 100000 in
theorem nK(base:Option Addr)(n c vb voff m vc:Nat)(cs vs:List Value)(w:World)(hm:0<m)(hnc:n<=c)(hroom:c<n+m)(hbig:(n+m)*112<=140737488355328)
 (hcl:cs.length=n*10) (hvl:vs.length=m*10) (hnil:base=none->n=0)
 (hcs:∀a,base=some a->∀j v,cs[j]?=some v->w.cell? (a.add j)=some v)
 (hvs:∀j v,vs[j]?=some v->w.cell? ⟨vb,voff+j,none⟩=some v) (h1v:∀v∈vs,v.oneCell'=true):
 Calls A1 87 #[.slice base n c,.int .i64 n,.slice (some ⟨vb,voff,none⟩) m vc] w fun e w'=>
  ∃(G:Nat)(tl:Array Value),n+m<=G/\tl.size=(G-(n+m))*10/\(∀x∈tl,x.oneCell'=true)/\e=.returned (.slice (some ⟨w.heap.size,0,none⟩) (n+m) G)/\
  w'=w.drew.alloc (.cells ((cs++vs).toArray++tl) 45):=by
 have tSL:A1.underlying 28=some (.slice 45):=by kernel_rfl
 have uSL:=run_underlying tSL;obtain⟨i0,z,hi0,hzs,hzb,hz0,hzc,hz1c⟩:=xc;have mixed:=A8.mixed;have hz1:¬((m:Int)=0):=by omega
 have hsrc:Src A1 i0.size 28 (.slice (some ⟨vb,voff,none⟩) m vc) m vs w:=Src.ofSlice w tSL ⟨vb,voff,none⟩ m vc vs (by rw[hzs];exact hvl) (fun j u hj=>by rw[Addr.add_lit];exact hvs j u hj) h1v;have hold:(Builtin.firstCells i0.size n (.slice base n c)).run A1 w.drew=.ok cs.toArray w.drew:=by
  rw[hzs];cases base with
  | none =>
    have h0:=hnil rfl;subst h0;have hcs0:cs=[]:=List.length_eq_zero_iff.1 (by omega);rw[hcs0];exact run_firstCells_none w.drew 10 0 0 c
  |some a=>exact run_firstCells_some w.drew 10 n a n c cs hcl (fun j v hj=>hcs a rfl j v hj)
 have hrun:=fun ty=>run_append_grow_src (P:=A1) w 28 28 ty 45 i0 z tSL hi0 hz0 base n c cs hold _ m vs hsrc hroom (by omega) (by rw[hzb];exact growslice_fits hroom hbig);obtain⟨G,hG⟩:∃G,G=grownCap w (n+m) c 45:=⟨_,rfl⟩;have hGn:n+m<=G:=by rw[hG];exact grownCap_ge w _ _ _
 obtain⟨tl,htl⟩:∃tl,tl=Builtin.zeroCells z.cells (G-(n+m)):=⟨_,rfl⟩;have ht1:tl.size=(G-(n+m))*10:=by rw[htl,size_zeroCells,hzc]
 have ht2:∀x∈tl,x.oneCell'=true:=fun x hx=>hz1c x (zL _ _ (by omega) x (by rw[<-htl];exact hx));rw[<-hG] at hrun;rw[<-htl] at hrun;obtain⟨ROW,hROW⟩:∃ROW:Array Value,ROW=(cs++vs).toArray++tl:=⟨_,rfl⟩;refine Calls.mono (R:=fun e w'=>e=.returned (.slice (some ⟨w.heap.size,0,none⟩) (n+m) G)/\w'=w.drew.alloc (.cells ROW 45)) ?_ (fun e w' h=>⟨G,tl,hGn,ht1,ht2,h.1,by rw[h.2,hROW]⟩);rw[<-hROW] at hrun;clear hold hROW ht2 ht1 htl hG hGn hz1c hz0 hi0 hsrc;clear hzc hzs hzb;clear i0
 go_enter B1,B4
 cases base with
 | none =>
   have h0:=hnil rfl;subst h0;rw[Nat.zero_add] at hrun⊢
   go_wp2_with (at_builtin;refine Lib.wpList_append_run _ rfl _ _ _ _ rfl _ _ rfl rfl _ _ (hrun _) ?_)
   all_goals(go_ret;exact⟨rfl,rfl⟩)
 | some a =>
   obtain⟨ab,ao,asp⟩:=a
   go_wp2_with (at_builtin;refine Lib.wpList_append_run _ rfl _ _ _ _ rfl _ _ rfl rfl _ _ (hrun _) ?_)
   all_goals(go_ret;exact⟨rfl,rfl⟩)
set_option maxHeartbeats 4000000 in
set_option maxRecDepth 100000 in
theorem LI(b off n c i vb voff m vc:Nat)(cs vs:List Value)(w:World)(hi:i<n)(hm:0<m)(hnc:n<=c)(hroom:c<n+m)(hbig:(n+m)*112<=140737488355328)
 (hcl:cs.length=n*10) (hvl:vs.length=m*10)
 (hcs:∀j v,cs[j]?=some v->w.cell? ⟨b,off+j,none⟩=some v)
 (hvs:∀j v,vs[j]?=some v->w.cell? ⟨vb,voff+j,none⟩=some v) (h1c:∀v∈cs,v.oneCell'=true) (h1v:∀v∈vs,v.oneCell'=true):
 Calls A1 87 #[.slice (some ⟨b,off,none⟩) n c,.int .i64 i,.slice (some ⟨vb,voff,none⟩) m vc] w fun e w'=>
  ∃(G:Nat)(tl:Array Value),n+m<=G/\tl.size=(G-(n+m))*10/\(∀x∈tl,x.oneCell'=true)/\e=.returned (.slice (some ⟨w.heap.size,0,none⟩) (n+m) G)/\
  ∃z:Array Value,z.size=(n+m-i)*10/\w'=(((w.alloc (.cells ((cs.take (i*10)).toArray++z++tl) 45)).drew.setCells w.heap.size (i*10) vs).drew).setCells w.heap.size ((i+m)*10) (cs.drop (i*10)):=by
 have tSL:A1.underlying 28=some (.slice 45):=by kernel_rfl
 have t3:A1.underlying 3=some (.int .i64):=by kernel_rfl
 have uSL:=run_underlying tSL;have u3:=run_underlying t3;obtain⟨i0,z,hi0,hzs,hzb,hz0,hzc,hz1c⟩:=xc;have mixed:=A8.mixed;have hsz:(A1.info? 45).map (·.size)=some 10:=by kernel_rfl
 have hz1:¬((m:Int)=0):=by omega
 have hz2:¬((i:Int)=(n:Int)):=by omega
 have hz3:(c:Int)<(n:Int)+(m:Int):=by omega
 have hbw:b<w.heap.size:=block_lt_of_cell (hcs 0 _ (B2 (by omega)));have hvw:vb<w.heap.size:=block_lt_of_cell (hvs 0 _ (B2 (by omega)));have hkk:(n:Int)+(m:Int)-(i:Int)=((n+m-i:Nat):Int):=by omega
 have hik:i+(n+m-i)=n+m:=by omega
 have hold:(Builtin.firstCells i0.size i (.slice (some ⟨b,off,none⟩) i c)).run A1 w.drew=.ok (cs.take (i*10)).toArray w.drew:=by
  rw[hzs];exact run_firstCells_some w.drew 10 i ⟨b,off,none⟩ i c (cs.take (i*10)) (by rw[E8];omega) (fun j v hj=>by
   rw[Addr.add_lit];rw[List.getElem?_take] at hj;split at hj
   ·exact hcs j v hj
   ·cases hj)
 obtain⟨G,hG⟩:∃G,G=grownCap w (n+m) c 45:=⟨_,rfl⟩;obtain⟨zs,hzz⟩:∃zs,zs=Builtin.zeroCells z.cells (n+m-i):=⟨_,rfl⟩;obtain⟨tl,htl⟩:∃tl,tl=Builtin.zeroCells z.cells (G-(n+m)):=⟨_,rfl⟩;have ht0:zs.size=(n+m-i)*10:=by rw[hzz,size_zeroCells,hzc]
 have ht1:tl.size=(G-(n+m))*10:=by rw[htl,size_zeroCells,hzc]
 have ht2:∀x∈tl,x.oneCell'=true:=fun x hx=>hz1c x (zL _ _ (by omega) x (by rw[<-htl];exact hx));have hrz:∀ty,(Builtin.append_ #[28,3] ty #[.slice (some ⟨b,off,none⟩) i c,.int .i64 ((n:Int)+(m:Int)-(i:Int))]).run A1 w=
  .ok (.slice (some ⟨w.heap.size,0,none⟩) (n+m) G) (w.drew.alloc (.cells ((cs.take (i*10)).toArray++zs++tl) 45)):=fun ty=>by
  have h:=Lib.run_append_grow_zeros w 28 3 ty 45 i0 _ .i64 .i64 tSL t3 hi0 hz0 (some ⟨b,off,none⟩) i c (cs.take (i*10)) hold (n+m-i) (by omega) (by omega) (by omega) (by omega) (by rw[hzb];omega) (by rw[hzb,hik];exact growslice_fits hroom hbig);rw[hik] at h;rw[hkk,hzz,htl,hG];exact h
 obtain⟨ROW,hROW⟩:∃ROW:Array Value,ROW=(cs.take (i*10)).toArray++zs++tl:=⟨_,rfl⟩;refine Calls.mono (R:=fun e w'=>e=.returned (.slice (some ⟨w.heap.size,0,none⟩) (n+m) G)/\w'=(((w.alloc (.cells ROW 45)).drew.setCells w.heap.size (i*10) vs).drew).setCells w.heap.size ((i+m)*10) (cs.drop (i*10))) ?_ (fun e w' h=>⟨G,tl,by rw[hG];exact grownCap_ge w _ _ _,ht1,ht2,h.1,zs,ht0,by rw[h.2,hROW]⟩);rw[<-hROW] at hrz;have hRl:(n+m)*10<=ROW.size:=by
  rw[hROW];simp only[Array.size_append,List.size_toArray,E8,ht0];omega
 obtain⟨W1,hW1⟩:∃W1,W1=w.drew.alloc (.cells ROW 45):=⟨_,rfl⟩;rw[<-hW1] at hrz;have hN:∀j,j<(n+m)*10->(W1.cell? ⟨w.heap.size,j,none⟩).isSome=true:=fun j hj=>by
  rw[hW1,World.cell?_alloc_at (w:=w.drew) ROW _ w.heap.size j rfl,Array.getElem?_eq_getElem (by omega)];rfl
 have hNf:∀j,W1.frozen? ⟨w.heap.size,j,none⟩=false:=fun j=>by rw[hW1];exact World.frozen?_alloc_at (w:=w.drew) ROW _ w.heap.size j rfl
 have hOb:∀j v,w.cell? ⟨b,j,none⟩=some v->W1.cell? ⟨b,j,none⟩=some v:=fun j v h=>by rw[hW1,World.cell?_alloc_past (w:=w.drew) _ b j hbw];exact h
 have hOv:∀j v,w.cell? ⟨vb,j,none⟩=some v->W1.cell? ⟨vb,j,none⟩=some v:=fun j v h=>by rw[hW1,World.cell?_alloc_past (w:=w.drew) _ vb j hvw];exact h
 have hcpA:∀(W:World),(∀x,W.cell? x=W1.cell? x)->(∀x,W.frozen? x=W1.frozen? x)->∀ty dc,(Builtin.copy_ #[28,28] ty #[.slice (some ⟨w.heap.size,i*10,none⟩) (n+m-i) dc,.slice (some ⟨vb,voff,none⟩) m vc]).run A1 W=.ok (goInt (C7 m (n+m-i))) (W.setCells w.heap.size (i*10) vs):=fun W hWc hWf ty dc=>
  fk W _ _ ty 45 10 w.heap.size (i*10) (n+m-i) dc ⟨vb,voff,none⟩ m vc vs tSL hsz (by rw[hvl];congr 1;simp only[B5];split<;>omega)
   (fun j v hj=>by rw[Addr.add_lit,hWc];exact hOv _ v (hvs j v hj))
   (fun j hj=>by rw[hWc];exact hN _ (by omega)) (fun j hj=>by rw[hWf];exact hNf _) h1v
 have hGn:n+m<=G:=by rw[hG];exact grownCap_ge w _ _ _
 have hG63:G<=9223372036854775807:=by
  have:=grownCap_le_maxLen w (n+m) c 45 (by unfold maxLen;omega);rw[<-hG] at this;unfold maxLen at this;omega
 have hGi:¬(G=i):=by omega
 have hGim:¬(G=i+m):=by omega
 have hci:¬(c=i):=by omega
 have hbN:b≠w.heap.size:=by omega
 have hdl:(cs.drop (i*10)).length=(n-i)*10:=by rw[E0,hcl];omega
 have hcpB:∀(W:World),(∀x,W.cell? x=(W1.setCells w.heap.size (i*10) vs).cell? x)->(∀x,W.frozen? x=(W1.setCells w.heap.size (i*10) vs).frozen? x)->∀ty dc sc,(Builtin.copy_ #[28,28] ty #[.slice (some ⟨w.heap.size,(i+m)*10,none⟩) (n+m-(i+m)) dc,.slice (some ⟨b,off+i*10,none⟩) (n-i) sc]).run A1 W=.ok (goInt (C7 (n-i) (n+m-(i+m)))) (W.setCells w.heap.size ((i+m)*10) (cs.drop (i*10))):=fun W hWc hWf ty dc sc=>
  fk W _ _ ty 45 10 w.heap.size ((i+m)*10) (n+m-(i+m)) dc ⟨b,off+i*10,none⟩ (n-i) sc (cs.drop (i*10)) tSL hsz (by rw[hdl];congr 1;simp only[B5];split<;>omega)
   (fun j v hj=>by
    rw[Addr.add_lit,hWc,World.cell?_setCells_out _ _ _ _ _ (fun h _=>absurd h hbN),A6];exact hOb _ v (hcs (i*10+j) v (by rwa[B7] at hj)))
   (fun j hj=>by rw[hWc];exact World.isSome_setCells _ _ _ _ _ (hN _ (by omega)))
   (fun j hj=>by rw[hWf,World.frozen?_setCells];exact hNf _) (fun v hv=>h1c v (B6 hv))
 subst hW1;have hE1:∀x,((w.alloc (.cells ROW 45)).drew).cell? x=(w.drew.alloc (.cells ROW 45)).cell? x:=fun x=>rfl;have hE2:∀x,((w.alloc (.cells ROW 45)).drew).frozen? x=(w.drew.alloc (.cells ROW 45)).frozen? x:=fun x=>rfl;have hF1:∀x,(((w.alloc (.cells ROW 45)).drew.setCells w.heap.size (i*10) vs).drew).cell? x=((w.drew.alloc (.cells ROW 45)).setCells w.heap.size (i*10) vs).cell? x:=fun x=>rfl;have hF2:∀x,(((w.alloc (.cells ROW 45)).drew.setCells w.heap.size (i*10) vs).drew).frozen? x=((w.drew.alloc (.cells ROW 45)).setCells w.heap.size (i*10) vs).frozen? x:=fun x=>rfl;have hw1:F7.wrap ((i:Int)+(m:Int))=(i:Int)+(m:Int):=by rw[B3];omega
 have hb1:(0:Int)<=(i:Int)+(m:Int):=by omega
 have hin:i<=n:=by omega
 have htn:((i:Int)+(m:Int)).toNat=i+m:=by omega
 have hb3:(i:Int)<=(n:Int):=by omega
 clear hkk hik hold hRl hROW ht0 ht1 ht2 htl hzz hG hz1c hz0 hi0;clear hzc hzs hzb;clear z i0
 go_enter B1,B4
 go_wp2_with (first
  |(at_builtin;refine Lib.wpList_append_run _ rfl _ _ _ _ rfl _ _ rfl rfl _ _ (hrz _) ?_)
  |(at_builtin;refine gb _ rfl _ _ 28 28 rfl _ _ rfl rfl (hcpA _ hE1 hE2 _ _) ?_)
  |(at_builtin;refine gb _ rfl _ _ 28 28 rfl _ _ rfl rfl (hcpB _ (fun _=>rfl) (fun _=>rfl) _ _ _) ?_))
 go_region_law_o (refine kG rfl _ _ 28 28 rfl (.slice (some ⟨w.heap.size,(i+m)*10,none⟩) (n+m-(i+m)) (G-(i+m))) (.slice (some ⟨b,off+i*10,none⟩) (n-i) (c-i)) (by simp[Act.eval,Act.put]) (by simp[Act.eval,Act.put]) (hcpB _ hF1 hF2 3 (G-(i+m)) (c-i)) ?_)
 go_wp2
 go_ret
 all_goals exact⟨rfl,rfl⟩
end
def ahs:InsC A1 87 10 112 where
 fn:=⟨_,B1,by kernel_rfl,by kernel_rfl⟩
 kp:=by decide
 ins:=fun base n c i vb voff m vc cs vs w hi hnc hm hmv hbig hb hnil hcl hvl hcs hvs hF h1c h1v=>by
  have hfv:=qA hF;cases base with
  | none =>
    have hc:=hnil rfl;have hn:n=0:=by omega
    have hi0:i=n:=by omega
    subst hi0;exact(nK none i c vb voff m vc cs vs w hm hnc (by omega) hbig hcl hvl (fun _=>hn) (fun a ha=>by cases ha) hvs h1v).mono fun e w' h=>rz hcl hvl h
  | some a =>
    obtain⟨h1,h2,h3⟩:=hb a rfl;obtain⟨b,off,sp⟩:=a;simp only at h1 h2 h3;subst h1;have hcs':=hcs _ rfl;simp only at hcs';by_cases hroom:n+m<=c
    ·have hFb:=h3 (by omega);have hsl:=Nat.mul_le_mul_right 10 hroom;by_cases e:i=n
     ·subst e;exact(wO b off i c vb voff m vc vs w hm hroom (by omega) hvl (fun j hj=>oE hFb _ (by omega)) (fun j _=>qA hFb _) hvs h1v).mono fun e w' h=>Jb hFb hroom hcl hvl hcs' h
     ·obtain⟨tA,kA,sA,lA⟩:=qY hF;obtain⟨tB,kB,sB,lB⟩:=qY hFb;exact(Gz b off n c i vb voff m vc cs vs w (by omega) hm hroom (by omega) (Ne.symm h2) hcl hvl hcs' (fun j hj=>oE hFb _ (by omega)) (fun j _=>qA hFb _) hvs h1c h1v tA tB kA kB sA sB (by omega) (hfv _) (hfv _)).mono fun e w' h=>CA hFb hroom (by omega) hcl hvl hcs' h
    ·by_cases e:i=n
     ·subst e;exact(nK (some ⟨b,off,none⟩) i c vb voff m vc cs vs w hm hnc (by omega) hbig hcl hvl (fun h=>by cases h) (fun a ha=>by cases ha;exact fun j v hj=>by rw[Addr.add_lit];exact hcs' j v hj) hvs h1v).mono fun e w' h=>rz hcl hvl h
     ·exact(LI b off n c i vb voff m vc cs vs w (by omega) hm hnc (by omega) hbig hcl hvl hcs' hvs h1c h1v).mono fun e w' h=>IY (by omega) hcl hvl h
end Vs

namespace Vs
open Go Go.Proofs
def bH:A1.follows .mixedOrders=true:=A8.mixed
def sK:Go.Shelf.Ren:=⟨fun|189=>203|125=>232|257=>231|128=>258|129=>259|294=>249|295=>250|296=>251|297=>252|298=>253|299=>254|216=>255|300=>256|301=>257|328=>267|329=>268|330=>269|331=>270|332=>271|215=>224|343=>276|n=>n,fun|28=>29|3=>3|46=>114|0=>0|51=>202|53=>116|4=>4|183=>261|182=>260|131=>61|5=>5|9=>9|218=>272|222=>276|228=>281|229=>162|n=>n,fun|n=>n⟩
def adz:Go.Proofs.Lays.n189 A1 sK:={
 mixed:=by kernel_rfl
 f125:=I3.trans (congrArg some (by kernel_rfl))
 f128:=I4.trans (congrArg some (by kernel_rfl))
 f129:=I5.trans (congrArg some (by kernel_rfl))
 f189:=I6.trans (congrArg some (by kernel_rfl))
 f215:=Tryz.func224.trans (congrArg some (by kernel_rfl))
 f216:=Tryz.func255.trans (congrArg some (by kernel_rfl))
 f257:=Tryz.func231.trans (congrArg some (by kernel_rfl))
 f294:=Tryz.func249.trans (congrArg some (by kernel_rfl))
 f295:=Tryz.func250.trans (congrArg some (by kernel_rfl))
 f296:=Tryz.func251.trans (congrArg some (by kernel_rfl))
 f297:=Tryz.func252.trans (congrArg some (by kernel_rfl))
 f298:=Tryz.func253.trans (congrArg some (by kernel_rfl))
 f299:=Tryz.func254.trans (congrArg some (by kernel_rfl))
 f300:=Tryz.func256.trans (congrArg some (by kernel_rfl))
 f301:=Tryz.func257.trans (congrArg some (by kernel_rfl))
 f328:=Tryz.func267.trans (congrArg some (by kernel_rfl))
 f329:=I7.trans (congrArg some (by kernel_rfl))
 f330:=I8.trans (congrArg some (by kernel_rfl))
 f331:=Tryz.func270.trans (congrArg some (by kernel_rfl))
 f332:=Tryz.func271.trans (congrArg some (by kernel_rfl))
 f343:=Tryz.func276.trans (congrArg some (by kernel_rfl))
 t0:=E9
 a0:=J6
 z0:=I9
 v0:=F8
 t3:=F0
 a3:=J7
 z3:=J0
 v3:=F9
 t4:=F3
 a4:=J8
 z4:=J1
 v4:=G0
 t5:=F4
 a5:=J9
 z5:=J2
 v5:=G1
 t9:=F5
 a9:=K0
 z9:=J3
 v9:=G2
 t28:=Tryz.underlying29
 a28:=Tryz.isAgg29
 z28:=Tryz.sizeOf29
 v28:=Tryz.zeroValue29
 t46:=B8
 a46:=H3
 z46:=G4
 v46:=C8
 t51:=B9
 a51:=H4
 z51:=G5
 v51:=C9
 t53:=C0
 a53:=H5
 z53:=G6
 v53:=D0
 t131:=D3
 a131:=J4
 z131:=H6
 v131:=F6
 t182:=C1
 a182:=H7
 z182:=G7
 v182:=D4
 t183:=C2
 a183:=H8
 z183:=G8
 v183:=D5
 t218:=C3
 a218:=H9
 z218:=G9
 v218:=D6
 t222:=C4
 a222:=I0
 z222:=H0
 v222:=D7
 t228:=C5
 a228:=I1
 z228:=H1
 v228:=D8
 t229:=C6
 a229:=I2
 z229:=H2
 v229:=D9}
def Lr:RD A1 203:=acx (ρ:=sK) adz ⟨_,I6,by kernel_rfl,by kernel_rfl⟩
def sv:Go.Shelf.Ren:=⟨fun|6=>265|15=>232|14=>275|28=>258|29=>259|20=>279|21=>280|22=>281|23=>282|24=>283|25=>284|26=>285|27=>286|46=>288|47=>268|48=>269|49=>289|50=>290|57=>291|n=>n,fun|22=>159|24=>41|25=>271|3=>3|39=>114|0=>0|53=>202|55=>116|4=>4|46=>261|45=>260|50=>61|5=>5|9=>9|66=>272|70=>276|76=>281|77=>162|n=>n,fun|n=>n⟩
def Ng:Go.Proofs.SlLaysF0.n6 A1 sv:={
 mixed:=by kernel_rfl
 f6:=⟨Tryz.f265.name,by decide,J5.trans (congrArg some (by kernel_rfl))⟩
 f14:=⟨Tryz.f275.name,by decide,Tryz.func275.trans (congrArg some (by kernel_rfl))⟩
 f15:=I3.trans (congrArg some (by kernel_rfl))
 f20:=⟨Tryz.f279.name,by decide,Tryz.func279.trans (congrArg some (by kernel_rfl))⟩
 f21:=⟨Tryz.f280.name,by decide,Tryz.func280.trans (congrArg some (by kernel_rfl))⟩
 f22:=⟨Tryz.f281.name,by decide,Tryz.func281.trans (congrArg some (by kernel_rfl))⟩
 f23:=⟨Tryz.f282.name,by decide,Tryz.func282.trans (congrArg some (by kernel_rfl))⟩
 f24:=⟨Tryz.f283.name,by decide,Tryz.func283.trans (congrArg some (by kernel_rfl))⟩
 f25:=⟨Tryz.f284.name,by decide,Tryz.func284.trans (congrArg some (by kernel_rfl))⟩
 f26:=⟨Tryz.f285.name,by decide,Tryz.func285.trans (congrArg some (by kernel_rfl))⟩
 f27:=⟨Tryz.f286.name,by decide,Tryz.func286.trans (congrArg some (by kernel_rfl))⟩
 f28:=I4.trans (congrArg some (by kernel_rfl))
 f29:=I5.trans (congrArg some (by kernel_rfl))
 f46:=⟨Tryz.f288.name,by decide,Tryz.func288.trans (congrArg some (by kernel_rfl))⟩
 f47:=I7.trans (congrArg some (by kernel_rfl))
 f48:=I8.trans (congrArg some (by kernel_rfl))
 f49:=⟨Tryz.f289.name,by decide,Tryz.func289.trans (congrArg some (by kernel_rfl))⟩
 f50:=⟨Tryz.f290.name,by decide,Tryz.func290.trans (congrArg some (by kernel_rfl))⟩
 f57:=⟨Tryz.f291.name,by decide,Tryz.func291.trans (congrArg some (by kernel_rfl))⟩
 t0:=E9
 a0:=J6
 z0:=I9
 v0:=F8
 t3:=F0
 a3:=J7
 z3:=J0
 v3:=F9
 t4:=F3
 a4:=J8
 z4:=J1
 v4:=G0
 t5:=F4
 a5:=J9
 z5:=J2
 v5:=G1
 t9:=F5
 a9:=K0
 z9:=J3
 v9:=G2
 t22:=Tryz.underlying159
 a22:=Tryz.isAgg159
 z22:=Tryz.sizeOf159
 v22:=Tryz.zeroValue159
 t25:=Tryz.underlying271
 a25:=Tryz.isAgg271
 z25:=Tryz.sizeOf271
 v25:=Tryz.zeroValue271
 t39:=B8
 a39:=H3
 z39:=G4
 v39:=C8
 t45:=C1
 a45:=H7
 z45:=G7
 v45:=D4
 t46:=C2
 a46:=H8
 z46:=G8
 v46:=D5
 t50:=D3
 a50:=J4
 z50:=H6
 v50:=F6
 t53:=B9
 a53:=H4
 z53:=G5
 v53:=C9
 t55:=C0
 a55:=H5
 z55:=G6
 v55:=D0
 t66:=C3
 a66:=H9
 z66:=G9
 v66:=D6
 t70:=C4
 a70:=I0
 z70:=H0
 v70:=D7
 t76:=C5
 a76:=I1
 z76:=H1
 v76:=D8
 t77:=C6
 a77:=I2
 z77:=H2
 v77:=D9}
def VB:ER A1 265 2 (shK 2):=adp (ρ:=sv) Ng 2 (by decide) Tryz.isAgg41 Tryz.sizeOf41 (AnyF.slices_SortFunc_none Ng) ⟨_,J5,by kernel_rfl,by kernel_rfl⟩
def A10:au:=(Zs [Zh 2 false] (Zs [Zm 3 0,Zk 4 3,Zd 5 .gtr 4 65536,Zm 2 5] .ret))
def V10:List RV:=[.t 2]
def m10:ba A1 10 1 A10 V10=true:=by kernel_rfl
def xN:au:=(Zs [Zm 25 0,Zo 26 (.nilc 25),Za 27 1 26,Zl 28 27,Zd 29 .add 28 1,Zo 30 (.nilc 25),Za 31 1 30,Zw (.store 1 31 29)] (Zs [Zm 32 0,Zm 33 0,Zo 34 (.nilc 33),Za 35 2 34,Zl 36 35,Zo 37 (.bin .mul 36 (.c (.sc (.int .u64 6364136223846793005)))),Zm 38 3,Zo 39 (.conv .u64 38),Zb 40 .add 37 39,Zo 41 (.bin .add 40 (.c (.sc (.int .u64 897897)))),Zo 42 (.nilc 32),Za 43 2 42,Zw (.store 1 43 41)] (.seq (.seq (.drw [Zm 44 0,Zo 45 (.nilc 44),Za 46 1 45,Zl 47 46,Zm 48 0,Zo 49 (.nilc 48),Za 50 0 49,Zl 51 50,Zk 52 51,Zb 53 .leq 47 52] []) (.cond 53 (Zs [Zm 54 3,Zm 2 54] .ret) .skip)) (Zs [Zm 55 0,Zo 56 (.nilc 55),Za 57 2 56,Zl 58 57,Zo 59 (.bin .shr 58 (.c (.sc (.int .u64 40)))),Zo 60 (.bin .and 59 (.c (.sc (.int .u64 255)))),Zo 61 (.conv .i64 60),Zm 2 61] .ret))))
def Sg:au:=(Zs [Zn 2 0] (Zs [Zn 3 0] (.seqr (.seq (.drw [Zm 4 0,Zo 5 (.nilc 4),Za 6 1 5,Zl 7 6,Zm 8 0,Zo 9 (.nilc 8),Za 10 0 9,Zl 11 10,Zk 12 11,Zb 13 .lss 7 12] []) (.cond 13 (.drw [Zm 14 0,Zo 15 (.nilc 14),Za 16 0 15,Zl 17 16,Zm 18 0,Zo 19 (.nilc 18),Za 20 1 19,Zl 21 20,Zx 22 1 17 21,Zl 23 22,Zo 24 (.conv .i64 23),Zm 3 24] []) .skip)) [0,3] [1000000000] xN)))
def afw:ba A1 193 1 Sg V10=true:=by kernel_rfl
def MX:au:=(Zs [Zn 4 0] (.seq (Zs [Zm 6 1,Zd 7 .leq 6 1] (.cond 7 (Zs [Zn 4 0] .ret) .skip)) (Zs [Zm 8 0,Zo 9 (.callM 193 [8] [1000000000]),Zm 5 9] (.seq (Zs [Zm 10 1,Zd 11 .gtr 10 200] (.cond 11 (.reg [Zm 12 5,Zd 13 .mul 12 256,Zm 14 0,Zo 15 (.callM 193 [14] [1000000000]),Zb 16 .add 13 15,Zm 5 16] []) .skip)) (Zs [Zm 17 5,Zm 18 1,Zb 19 .rem 17 18,Zm 4 19] .ret)))))
def aK:List RV:=[.t 4]
def acu:ba A1 129 2 MX aK=true:=by kernel_rfl
def Px:au:=(Zs [Zh 4 false] (Zs [Zm 5 0,Zm 6 1,Zo 7 (.callM 129 [5,6] [1000000000]),Zd 8 .eql 7 0,Zm 4 8] .ret))
def abz:ba A1 130 2 Px aK=true:=by kernel_rfl
def A235:au:=(Zs [Zn 4 0] (.seq (Zs [Zm 5 0,Zm 6 1,Zb 7 .lss 5 6] (.cond 7 (Zs [Zm 8 0,Zm 4 8] .ret) .skip)) (Zs [Zm 9 1,Zm 4 9] .ret)))
def m235:ba A1 235 2 A235 aK=true:=by kernel_rfl
def A236:au:=(Zs [Zn 4 0] (.seq (Zs [Zm 5 0,Zm 6 1,Zb 7 .gtr 5 6] (.cond 7 (Zs [Zm 8 0,Zm 4 8] .ret) .skip)) (Zs [Zm 9 1,Zm 4 9] .ret)))
def m236:ba A1 236 2 A236 aK=true:=by kernel_rfl
def OW:au:=(Zs [Zn 4 0] (Zs [Zm 5 1,Zm 6 0,Zm 7 1,Zk 8 7,Zo 9 (.callM 129 [6,8] [1000000000]),Zx 10 1 5 9,Zl 11 10,Zm 4 11] .ret))
def ags:ba A1 151 2 OW aK=true:=by kernel_rfl
def acf:au:=(Zs [Zo 2 (.box 4 0),Zo 3 (.box 4 1),Zn 4 0] (.seq (.blk 0 (Zs [Za 6 0 2,Zl 7 6,Za 8 0 3,Zl 9 8,Zb 10 .neq 7 9,Zm 5 10] (.cond 5 (Zs [Za 11 0 2,Zl 12 11,Za 13 0 3,Zl 14 13,Zb 15 .sub 12 14,Zm 4 15] .ret) (Zs [Za 17 1 2,Zl 18 17,Za 19 1 3,Zl 20 19,Zb 21 .neq 18 20,Zm 16 21] (.cond 16 (Zs [Za 22 1 2,Zl 23 22,Za 24 1 3,Zl 25 24,Zb 26 .sub 23 25,Zm 4 26] .ret) (Zs [Za 28 2 2,Zl 29 28,Za 30 2 3,Zl 31 30,Zb 32 .neq 29 31,Zm 27 32] (.cond 27 (Zs [Za 33 2 2,Zl 34 33,Za 35 2 3,Zl 36 35,Zb 37 .sub 34 36,Zm 4 37] .ret) .skip))))))) (Zs [Za 38 3 2,Zl 39 38,Za 40 3 3,Zl 41 40,Zb 42 .sub 39 41,Zm 4 42] .ret)))
def m197:ba A1 197 2 acf aK=true:=by kernel_rfl
def wt:au:=(.seq (.seq (.drw [Zm 6 5,Zm 7 0,Zk 8 7,Zb 9 .lss 6 8,Zm 10 9,Zg 11 (.mv 0) 10 true,Zg 12 (.mv 5) 10 true,Zg 13 (.idx 4 11 12) 10 true,Zg 14 (.load 4 true 13) 10 true,Zg 15 (.load 4 true 3) 10 true,Zg 16 (.call 197 [14,15]) 10 true,Zg 17 (.bin .leq 16 (.c (.i 0))) 10 true,Zo 18 (.pick 10 17 (Zy false))] []) (.cond 18 .skip (.exit 0))) (.blk 1 (.reg [Zm 19 5,Zd 20 .add 19 1,Zm 5 20] [])))
def Nh:au:=(.seq (.drw [Zo 21 (.bsl 4 true []),Zm 22 0,Zm 23 5,Zo 24 (.slc 4 22 none (some 23) none),Zo 25 (.app 4 32 false 21 24),Zv 26 4 3,Zo 27 (.bsl 4 true [26]),Zo 28 (.app 4 32 true 25 27),Zm 29 0,Zm 30 5,Zo 31 (.slc 4 29 (some 30) none none),Zo 32 (.app 4 32 false 28 31),Zm 4 32] [.s 4]) .ret)
def A234:au:=(.seq (.reg [Zo 3 (.box 4 1),Zo 4 (.mv (.c (.lst .u 4 [])))] [.s 4]) (Zs [Zn 5 0] (.seqr (.blk 0 (.loop wt)) [0,3,5] [3] Nh)))
def m234:ba A1 234 2 A234 aK=true:=by kernel_rfl
def AD:au:=(.cond 32 (.exit 1) .skip)
def sd:au:=(.seq (Zs [Zm 17 5,Zm 18 3,Zb 19 .lss 17 18] (.cond 19 .skip (.exit 0))) (.seq (.blk 1 (Zs [Zm 22 5,Zd 23 .add 22 1,Zm 24 3,Zb 25 .rem 23 24,Zm 6 25] (.seq (.seqr (.reg [Zm 26 5,Zm 27 6,Zb 28 .eql 26 27,Zm 29 28,Zg 30 (.mv 0) 29 false,Zg 31 (.callM 130 [30,(.c (.i 10))] [1000000000]) 29 false,Zo 32 (.pick 29 (Zy true) 31)] []) [0,2,3,4,5,6,32] [2,4,500000256,500000257,1000000000] AD) (.drw [Zo 33 (.fdv [46,1000000000] 1 4),Zo 34 (.ldv [46,1000000000] 1 false 33),Zm 35 5,Zm 36 6,Zo 37 (.call 235 [35,36]),Zm 38 5,Zm 39 6,Zo 40 (.call 236 [38,39]),Zm 41 0,Zo 42 (.callM 129 [41,(.c (.i 8))] [1000000000]),Zo 43 (.bin .add (.c (.i 1)) 42),Zo 44 (.bin .mul (.c (.i 100)) 43),Zm 45 0,Zo 46 (.bsl 1 true [(.c (.i 0)),(.c (.i 0)),(.c (.i 0)),(.c (.i 1)),(.c (.i 2))]),Zo 47 (.callM 151 [45,46] [1000000000,46]),Zo 48 (.build [.i 0,.i 0,.i 0,.i 0] [(0,1,37),(1,1,40),(2,1,44),(3,1,47)]),Zo 49 (.call 234 [34,48]),Za 50 1 4,Zw (.store 1 50 49)] [.f false 500000257 4 1])))) (.reg [Zm 20 5,Zd 21 .add 20 1,Zm 5 21] [])))
def sD:au:=(.seq (Zs [Zm 53 7,Zd 54 .gtr 53 0] (.cond 54 .skip (.exit 2))) (.seq (.blk 3 (Zs [Zm 57 0,Zm 58 3,Zo 59 (.callM 129 [57,58] [1000000000]),Zm 60 0,Zm 61 3,Zo 62 (.callM 129 [60,61] [1000000000]),Zm 8 59,Zm 9 62] (Zs [Zm 63 8,Zm 64 9,Zb 65 .neq 63 64] (.cond 65 (.drw [Zo 66 (.fdv [79,1000000000] 1 4),Zo 67 (.ldv [79,1000000000] 1 false 66),Zm 68 8,Zm 69 9,Zo 70 (.call 235 [68,69]),Zm 71 8,Zm 72 9,Zo 73 (.call 236 [71,72]),Zm 74 0,Zo 75 (.callM 129 [74,(.c (.i 8))] [1000000000]),Zo 76 (.bin .add (.c (.i 1)) 75),Zo 77 (.bin .mul (.c (.i 100)) 76),Zm 78 0,Zo 79 (.bsl 1 true [(.c (.i 0)),(.c (.i 0)),(.c (.i 0)),(.c (.i 1)),(.c (.i 2))]),Zo 80 (.callM 151 [78,79] [1000000000,79]),Zo 81 (.build [.i 0,.i 0,.i 0,.i 0] [(0,1,70),(1,1,73),(2,1,77),(3,1,80)]),Zo 82 (.call 234 [67,81]),Za 83 1 4,Zw (.store 1 83 82)] [.f false 500000257 4 1]) .skip)))) (.reg [Zm 55 7,Zd 56 .sub 55 1,Zm 7 56] [])))
def AX:au:=(.seq (.reg [Zv 84 2 4,Zw (.store 2 2 84)] [.f false 500000128 2 0,.f false 500000129 2 1]) .ret)
def Ab:au:=(.seqa (.reg [Zm 51 0,Zo 52 (.callM 129 [51,(.c (.i 4))] [1000000000]),Zm 7 52] []) (.blk 2 (.loop sD)) [2,4] [2,4,500000256,500000257,1000000000] AX)
def NN:au:=(Zs [Zo 2 (.alloc (.agg [.lst .u 1 [],.lst .u 4 []]))] (Zs [Zm 10 0,Zo 11 (.callM 129 [10,(.c (.i 5))] [1000000000]),Zo 12 (.bin .add (.c (.i 2)) 11),Zm 3 12] (.seq (.reg [Zo 13 (.bsl 1 false [(.c (.z ⟨#[97]⟩)),(.c (.z ⟨#[98]⟩)),(.c (.z ⟨#[99]⟩)),(.c (.z ⟨#[100]⟩)),(.c (.z ⟨#[101]⟩)),(.c (.z ⟨#[102]⟩))]),Zm 14 3,Zo 15 (.slc 1 13 none (some 14) none),Zo 16 (.build [.lst .u 1 [],.lst .u 4 []] [(0,1,15)]),Zo 4 (.alloc (.agg [.lst .u 1 [],.lst .u 4 []])),Zw (.store 2 4 16)] [.f false 500000256 4 0,.f false 500000257 4 1]) (.seqa (.reg [Zn 5 0] []) (.blk 0 (.loop sd)) [0,2,3,4] [2,4,500000256,500000257,1000000000] Ab))))
def dL:List RV:=[.c 2 2 true]
def ach:ba A1 209 1 NN dL=true:=by kernel_rfl
def KY:au:=(Zs [Zo 2 (.alloc (.agg [.lst .u 1 [],.lst .u 4 []]))] (.seq (.reg [Zm 4 0,Zo 5 (.callM 209 [4] [1000000000]),Zo 3 (.alloc (.agg [.lst .u 1 [],.lst .u 4 []])),Zw (.store 2 3 5)] [.f false 500000192 3 0,.f false 500000193 3 1]) (.seq (Zs [Za 6 1 3,Zl 7 6,Zk 8 7,Zd 9 .eql 8 0] (.cond 9 (.reg [Za 10 1 3,Zl 11 10,Zo 12 (.build [.i 0,.i 0,.i 0,.i 0] [(1,1,(.c (.i 1))),(2,1,(.c (.i 100)))]),Zo 13 (.bsl 4 false [12]),Zo 14 (.app 4 32 true 11 13),Za 15 1 3,Zw (.store 1 15 14)] [.f false 500000193 3 1]) .skip)) (.seq (.reg [Zv 16 2 3,Zw (.store 2 2 16)] [.f false 500000128 2 0,.f false 500000129 2 1]) .ret))))
def agi:ba A1 207 1 KY dL=true:=by kernel_rfl
def A173:au:=(Zs [Zh 6 false] (Zs [Zm 7 0,Zm 8 1,Zb 9 .geq 7 8,Zm 10 9,Zg 11 (.mv 0) 10 true,Zg 12 (.mv 2) 10 true,Zg 13 (.bin .leq 11 12) 10 true,Zo 14 (.pick 10 13 (Zy false)),Zm 6 14] .ret))
def dt:List RV:=[.t 6]
def m173:ba A1 173 3 A173 dt=true:=by kernel_rfl
def abt:au:=(Zs [Zh 2 false] (Zs [Zm 3 0,Zo 4 (.bin .geq 3 (.c (.sc (.int .u8 97)))),Zm 5 4,Zg 6 (.mv 0) 5 true,Zg 7 (.bin .leq 6 (.c (.sc (.int .u8 122)))) 5 true,Zo 8 (.pick 5 7 (Zy false)),Zm 9 8,Zg 10 (.mv 0) 9 false,Zg 11 (.bin .geq 10 (.c (.sc (.int .u8 48)))) 9 false,Zg 12 (.mv 11) 9 false,Zg 13 (.mv 0) 12 true,Zg 14 (.bin .leq 13 (.c (.sc (.int .u8 57)))) 12 true,Zg 15 (.pick 12 14 (Zy false)) 9 false,Zo 16 (.pick 9 (Zy true) 15),Zm 2 16] .ret))
def m226:ba A1 226 1 abt V10=true:=by kernel_rfl
def OY:au:=(.cond 17 (Zs [Zh 2 false] .ret) .skip)
def vy:au:=(.seq (Zs [Zm 18 3,Zm 19 0,Zo 20 (.lenz 19),Zb 21 .lss 18 20] (.cond 21 .skip (.exit 0))) (.seq (.blk 1 (Zs [Zm 24 0,Zm 25 3,Zo 26 (.stri 24 25),Zo 27 (.call 226 [26]),Zo 28 (.un .not 27)] (.cond 28 (Zs [Zh 2 false] .ret) .skip))) (.reg [Zm 22 3,Zd 23 .add 22 1,Zm 3 23] [])))
def Pr:au:=(Zs [Zh 2 true] .ret)
def A194:au:=(Zs [Zh 2 false] (.seq (.seqr (.reg [Zm 4 0,Zo 5 (.lenz 4),Zo 6 (.call 173 [5,(.c (.i 1)),(.c (.i 8))]),Zo 7 (.un .not 6),Zm 8 7,Zg 9 (.mv 0) 8 false,Zg 10 (.stri 9 (.c (.i 0))) 8 false,Zg 11 (.bin .lss 10 (.c (.sc (.int .u8 97)))) 8 false,Zo 12 (.pick 8 (Zy true) 11),Zm 13 12,Zg 14 (.mv 0) 13 false,Zg 15 (.stri 14 (.c (.i 0))) 13 false,Zg 16 (.bin .gtr 15 (.c (.sc (.int .u8 122)))) 13 false,Zo 17 (.pick 13 (Zy true) 16)] []) [0,17] [] OY) (.seqa (.reg [Zn 3 0] []) (.blk 0 (.loop vy)) [] [] Pr)))
def m194:ba A1 194 1 A194 V10=true:=by kernel_rfl
def ws:au:=(.seq (Zs [Zm 6 5,Zm 7 0,Zk 8 7,Zb 9 .lss 6 8] (.cond 9 .skip (.exit 0))) (.seq (.blk 1 (Zs [Zm 12 0,Zm 13 5,Zx 14 1 12 13,Zl 15 14,Zm 16 1,Zb 17 .eql 15 16] (.cond 17 (Zs [Zm 18 5,Zm 4 18] .ret) .skip))) (.reg [Zm 10 5,Zd 11 .add 10 1,Zm 5 11] [])))
def LT:au:=(Zs [Zn 4 (-1)] .ret)
def A195:au:=(Zs [Zn 4 0] (.seqa (.reg [Zn 5 0] []) (.blk 0 (.loop ws)) [] [] LT))
def m195:ba A1 195 2 A195 aK=true:=by kernel_rfl
def adf:au:=(Zs [Zo 2 (.box 4 0),Zh 4 false] (Zs [Za 5 0 2,Zl 6 5,Zm 7 1,Zd 8 .sub 7 1,Zo 9 (.call 173 [6,(.c (.i 0)),8]),Zm 10 9,Zg 11 (.fad 1 2) 10 true,Zg 12 (.load 1 false 11) 10 true,Zg 13 (.fad 0 2) 10 true,Zg 14 (.load 1 false 13) 10 true,Zg 15 (.bin .add 14 (.c (.i 1))) 10 true,Zg 16 (.mv 1) 10 true,Zg 17 (.bin .sub 16 (.c (.i 1))) 10 true,Zg 18 (.call 173 [12,15,17]) 10 true,Zo 19 (.pick 10 18 (Zy false)),Zm 20 19,Zg 21 (.fad 2 2) 20 true,Zg 22 (.load 1 false 21) 20 true,Zg 23 (.call 173 [22,(.c (.i 1)),(.c (.i 5000))]) 20 true,Zo 24 (.pick 20 23 (Zy false)),Zm 25 24,Zg 26 (.fad 3 2) 25 true,Zg 27 (.load 1 false 26) 25 true,Zg 28 (.call 173 [27,(.c (.i 0)),(.c (.i 9))]) 25 true,Zo 29 (.pick 25 28 (Zy false)),Zm 4 29] .ret))
def m196:ba A1 196 2 adf aK=true:=by kernel_rfl
def QG:au:=(.cond 15 (Zs [Zh 2 false] .ret) .skip)
def Ov:au:=(.cond 41 (Zs [Zh 2 false] .ret) .skip)
def wF:au:=(.seq (Zs [Zm 16 3,Za 17 0 1,Zl 18 17,Zk 19 18,Zb 20 .lss 16 19] (.cond 20 .skip (.exit 0))) (.seq (.blk 1 (.seqr (.drw [Za 23 0 1,Zl 24 23,Zm 25 3,Zx 26 1 24 25,Zl 27 26,Zo 28 (.call 194 [27]),Zo 29 (.un .not 28),Zm 30 29,Zg 31 (.fad 0 1) 30 false,Zg 32 (.load 1 false 31) 30 false,Zg 33 (.fad 0 1) 30 false,Zg 34 (.load 1 false 33) 30 false,Zg 35 (.mv 3) 30 false,Zg 36 (.idx 1 34 35) 30 false,Zg 37 (.load 1 false 36) 30 false,Zg 38 (.call 195 [32,37]) 30 false,Zg 39 (.mv 3) 30 false,Zg 40 (.bin .neq 38 39) 30 false,Zo 41 (.pick 30 (Zy true) 40)] []) [1,3,41] [1] Ov)) (.reg [Zm 21 3,Zd 22 .add 21 1,Zm 3 22] [])))
def Ox:au:=(.cond 77 (Zs [Zh 2 false] .ret) .skip)
def xf:au:=(.seq (Zs [Zm 42 4,Za 43 1 1,Zl 44 43,Zk 45 44,Zb 46 .lss 42 45] (.cond 46 .skip (.exit 2))) (.seq (.blk 3 (.seqr (.drw [Za 49 1 1,Zl 50 49,Zm 51 4,Zx 52 4 50 51,Zv 53 4 52,Za 54 0 1,Zl 55 54,Zk 56 55,Zo 57 (.call 196 [53,56]),Zo 58 (.un .not 57),Zm 59 58,Zg 60 (.mv 4) 59 false,Zg 61 (.bin .gtr 60 (.c (.i 0))) 59 false,Zg 62 (.mv 61) 59 false,Zg 63 (.fad 1 1) 62 true,Zg 64 (.load 1 false 63) 62 true,Zg 65 (.mv 4) 62 true,Zg 66 (.bin .sub 65 (.c (.i 1))) 62 true,Zg 67 (.idx 4 64 66) 62 true,Zg 68 (.load 4 true 67) 62 true,Zg 69 (.fad 1 1) 62 true,Zg 70 (.load 1 false 69) 62 true,Zg 71 (.mv 4) 62 true,Zg 72 (.idx 4 70 71) 62 true,Zg 73 (.load 4 true 72) 62 true,Zg 74 (.call 197 [68,73]) 62 true,Zg 75 (.bin .gtr 74 (.c (.i 0))) 62 true,Zg 76 (.pick 62 75 (Zy false)) 59 false,Zo 77 (.pick 59 (Zy true) 76)] []) [1,4,77] [1] Ox)) (.reg [Zm 47 4,Zd 48 .add 47 1,Zm 4 48] [])))
def Rl:au:=(Zs [Zh 2 true] .ret)
def SW:au:=(.seqa (.reg [Zn 4 0] []) (.blk 2 (.loop xf)) [] [] Rl)
def A131:au:=(Zs [Zo 1 (.box 2 0),Zh 2 false] (.seq (.seqr (.reg [Za 5 0 1,Zl 6 5,Zk 7 6,Zo 8 (.call 173 [7,(.c (.i 2)),(.c (.i 8))]),Zo 9 (.un .not 8),Zm 10 9,Zg 11 (.fad 1 1) 10 false,Zg 12 (.load 1 false 11) 10 false,Zg 13 (.len 12) 10 false,Zg 14 (.bin .gtr 13 (.c (.i 14))) 10 false,Zo 15 (.pick 10 (Zy true) 14)] []) [1,15] [1] QG) (.seqa (.reg [Zn 3 0] []) (.blk 0 (.loop wF)) [1] [1] SW)))
def m131:ba A1 131 1 A131 V10=true:=by kernel_rfl
def A233:au:=(Zs [Zo 3 (.box 2 0),Zn 6 0] (Zs [Za 8 1 3,Zl 9 8,Zm 10 1,Zx 11 4 9 10,Zv 12 4 11,Zo 7 (.alloc (.agg [.i 0,.i 0,.i 0,.i 0])),Zw (.store 4 7 12)] (.seq (Zs [Zm 13 2] (.blk 0 (Zs [Za 15 0 7,Zl 16 15,Zb 17 .eql 13 16,Zm 14 17] (.cond 14 (Zs [Za 18 1 7,Zl 19 18,Zm 6 19] .ret) (Zs [Za 21 1 7,Zl 22 21,Zb 23 .eql 13 22,Zm 20 23] (.cond 20 (Zs [Za 24 0 7,Zl 25 24,Zm 6 25] .ret) .skip)))))) (Zs [Zn 6 (-1)] .ret))))
def m233:ba A1 233 3 A233 dt=true:=by kernel_rfl
def FM:au:=(.seq (Zs [Zm 6 5,Zm 7 0,Zk 8 7,Zb 9 .lss 6 8] (.cond 9 .skip (.exit 0))) (.seq (.blk 1 (Zs [Zm 12 0,Zm 13 5,Zx 14 1 12 13,Zl 15 14,Zm 16 1,Zb 17 .eql 15 16] (.cond 17 (Zs [Zh 4 true] .ret) .skip))) (.reg [Zm 10 5,Zd 11 .add 10 1,Zm 5 11] [])))
def YR:au:=(Zs [Zh 4 false] .ret)
def A74:au:=(Zs [Zh 4 false] (.seqa (.reg [Zn 5 0] []) (.blk 0 (.loop FM)) [] [] YR))
def m74:ba A1 74 2 A74 aK=true:=by kernel_rfl
def Pc:au:=(.cond 25 (.seq (.reg [Zm 26 6,Zm 4 26,Zh 5 false] [.s 4]) .ret) .skip)
def SN:au:=(.cond 65 (.seq (.reg [Zm 66 6,Zm 4 66,Zh 5 false] [.s 4]) .ret) .skip)
def BM:au:=(.seq (Zs [Zm 27 7,Za 28 1 3,Zl 29 28,Zk 30 29,Zb 31 .lss 27 30] (.cond 31 .skip (.exit 0))) (.seq (.blk 1 (.seq (.seq (.drw [Za 34 1 3,Zl 35 34,Zm 36 7,Zx 37 1 35 36,Zl 38 37,Za 39 1 2,Zl 40 39,Zk 41 40,Zd 42 .sub 41 1,Zo 43 (.call 173 [38,(.c (.i 0)),42]),Zo 44 (.un .not 43)] []) (.cond 44 (.seq (.reg [Zm 45 6,Zm 4 45,Zh 5 false] [.s 4]) .ret) .skip)) (.seq (.drw [Zv 46 2 2,Za 47 1 3,Zl 48 47,Zm 49 7,Zx 50 1 48 49,Zl 51 50,Zm 52 6,Zm 53 6,Zk 54 53,Zd 55 .sub 54 1,Zx 56 1 52 55,Zl 57 56,Zo 58 (.call 233 [46,51,57]),Zm 8 58] []) (.seq (.seqr (.reg [Zm 59 8,Zd 60 .lss 59 0,Zm 61 60,Zg 62 (.mv 6) 61 false,Zg 63 (.mv 8) 61 false,Zg 64 (.call 74 [62,63]) 61 false,Zo 65 (.pick 61 (Zy true) 64)] []) [2,3,6,7,8,65] [2,3,6] SN) (.reg [Zm 67 6,Zm 68 8,Zo 69 (.bsl 1 false [68]),Zo 70 (.app 1 8 true 67 69),Zm 6 70] [.s 6]))))) (.reg [Zm 32 7,Zd 33 .add 32 1,Zm 7 33] [])))
def Ni:au:=(.seq (.reg [Zm 71 6,Zm 4 71,Zh 5 true] [.s 4]) .ret)
def A227:au:=(.seq (.reg [Zo 2 (.box 2 0),Zo 3 (.box 2 1),Zo 4 (.mv (.c (.lst .u 1 []))),Zh 5 false] [.s 4]) (.seq (.reg [Za 9 0 3,Zl 10 9,Zo 11 (.bsl 1 false [10]),Zm 6 11] [.s 6]) (.seq (.seqr (.reg [Za 12 0 3,Zl 13 12,Za 14 0 2,Zl 15 14,Zk 16 15,Zd 17 .sub 16 1,Zo 18 (.call 173 [13,(.c (.i 0)),17]),Zo 19 (.un .not 18),Zm 20 19,Zg 21 (.fad 1 3) 20 false,Zg 22 (.load 1 false 21) 20 false,Zg 23 (.len 22) 20 false,Zg 24 (.bin .eql 23 (.c (.i 0))) 20 false,Zo 25 (.pick 20 (Zy true) 24)] []) [2,3,6,25] [2,3,6] Pc) (.seqa (.reg [Zn 7 0] []) (.blk 0 (.loop BM)) [6] [6] Ni))))
def lC:List RV:=[.t 4,.t 5]
def m227:ba A1 227 2 A227 lC=true:=by kernel_rfl
def A198:au:=(Zs [Zo 2 (.box 2 0),Zo 3 (.box 2 1),Zh 4 false] (.seq (Zs [Zv 7 2 2,Zo 8 (.call 131 [7]),Zo 9 (.un .not 8)] (.cond 9 (Zs [Zh 4 false] .ret) .skip)) (.seq (.reg [Zv 11 2 2,Zv 12 2 3,Zo 13 (.call 227 [11,12]),Zm 10 13,Ze 14 10 0,Ze 15 10 1,Zm 5 14,Zm 6 15] [.s 5]) (Zs [Zm 16 6,Zm 4 16] .ret))))
def m198:ba A1 198 2 A198 aK=true:=by kernel_rfl
def A199:au:=(Zs [Zo 1 (.box 2 0),Zh 2 false] (Zs [Za 3 0 1,Zl 4 3,Zo 5 (.call 173 [4,(.c (.i 0)),(.c (.i 23))]),Zm 6 5,Zg 7 (.fad 1 1) 6 true,Zg 8 (.load 1 false 7) 6 true,Zg 9 (.fad 0 1) 6 true,Zg 10 (.load 1 false 9) 6 true,Zg 11 (.bin .sub (.c (.i 24)) 10) 6 true,Zg 12 (.call 173 [8,(.c (.i 1)),11]) 6 true,Zo 13 (.pick 6 12 (Zy false)),Zm 2 13] .ret))
def m199:ba A1 199 1 A199 V10=true:=by kernel_rfl
def A228:au:=(.seq (.reg [Zo 2 (.box 2 0),Zo 3 (.box 2 1),Zo 4 (.mv (.c (.lst .u 1 [])))] [.s 4]) (.seq (.reg [Zv 8 2 2,Zv 9 2 3,Zo 10 (.call 227 [8,9]),Zm 7 10,Ze 11 7 0,Ze 12 7 1,Zm 5 11,Zm 6 12] [.s 5]) (.seq (.reg [Zm 13 5,Zm 4 13] [.s 4]) .ret)))
def m228:ba A1 228 2 A228 aK=true:=by kernel_rfl
def A200:au:=(Zs [Zo 2 (.box 2 0),Zo 3 (.box 2 1),Zn 4 0] (.seq (.reg [Zv 6 2 2,Zv 7 2 3,Zo 8 (.call 228 [6,7]),Zm 5 8] [.s 5]) (Zs [Zm 9 5,Zm 10 5,Zk 11 10,Zd 12 .sub 11 1,Zx 13 1 9 12,Zl 14 13,Zm 4 14] .ret)))
def m200:ba A1 200 2 A200 aK=true:=by kernel_rfl
def xi:au:=(.seq (Zs [Zm 17 6,Za 18 1 2,Zl 19 18,Zk 20 19,Zb 21 .lss 17 20] (.cond 21 .skip (.exit 0))) (.seq (.blk 1 (.seq (.drw [Za 24 1 2,Zl 25 24,Zm 26 6,Zx 27 4 25 26,Za 28 3 27,Zl 29 28,Za 30 1 2,Zl 31 30,Zm 32 1,Zx 33 4 31 32,Za 34 3 33,Zl 35 34,Zb 36 .eql 29 35] []) (.cond 36 (.reg [Zm 37 5,Zm 38 6,Zo 39 (.bsl 1 false [38]),Zo 40 (.app 1 8 true 37 39),Zm 5 40] [.s 5]) .skip))) (.reg [Zm 22 6,Zd 23 .add 22 1,Zm 6 23] [])))
def Qv:au:=(.seq (.reg [Zm 41 5,Zm 4 41] [.s 4]) .ret)
def A192:au:=(.seq (.reg [Zo 2 (.box 2 0),Zo 4 (.mv (.c (.lst .u 1 [])))] [.s 4]) (.seq (Zs [Za 7 1 2,Zl 8 7,Zm 9 1,Zx 10 4 8 9,Za 11 3 10,Zl 12 11,Zd 13 .eql 12 0] (.cond 13 (.seq (.reg [Zm 14 1,Zo 15 (.bsl 1 false [14]),Zm 4 15] [.s 4]) .ret) .skip)) (.seq (.reg [Zo 16 (.bsl 1 false []),Zm 5 16] [.s 5]) (.seqa (.reg [Zn 6 0] []) (.blk 0 (.loop xi)) [5] [5] Qv))))
def m192:ba A1 192 2 A192 aK=true:=by kernel_rfl
def Bu:au:=(.seq (Zs [Zm 24 9,Za 25 1 5,Zl 26 25,Zk 27 26,Zb 28 .lss 24 27] (.cond 28 .skip (.exit 2))) (.seq (.blk 3 (Zs [Zm 31 8,Za 32 1 5,Zl 33 32,Zm 34 9,Zx 35 1 33 34,Zl 36 35,Zo 37 (.call 74 [31,36])] (.cond 37 (Zs [Zh 6 false] .ret) .skip))) (.reg [Zm 29 9,Zd 30 .add 29 1,Zm 9 30] [])))
def LR:au:=(.reg [Zm 15 7,Zd 16 .add 15 1,Zm 7 16] [])
def Cw:au:=(.seq (Zs [Zm 10 7,Za 11 1 4,Zl 12 11,Zk 13 12,Zb 14 .lss 10 13] (.cond 14 .skip (.exit 0))) (.seqr (.blk 1 (.seq (.drw [Zv 17 2 3,Za 18 1 4,Zl 19 18,Zm 20 7,Zx 21 1 19 20,Zl 22 21,Zo 23 (.call 192 [17,22]),Zm 8 23] [.s 8]) (Zs [Zn 9 0] (.blk 2 (.loop Bu))))) [3,4,5,7] [3,4,5] LR))
def Oh:au:=(Zs [Zh 6 true] .ret)
def A185:au:=(Zs [Zo 3 (.box 2 0),Zo 4 (.box 2 1),Zo 5 (.box 2 2),Zh 6 false] (.seqa (.reg [Zn 7 0] []) (.blk 0 (.loop Cw)) [] [] Oh))
def m185:ba A1 185 3 A185 dt=true:=by kernel_rfl
def Rc:au:=(.cond 27 (Zs [Zh 4 false] .ret) .skip)
def Nw:au:=.ret
def A132:au:=(Zs [Zo 2 (.box 2 0),Zo 3 (.box 10 1),Zh 4 false] (.seq (.seqr (.reg [Za 5 0 3,Zl 6 5,Zo 7 (.call 173 [6,(.c (.i 1)),(.c (.i 999))]),Zo 8 (.un .not 7),Zm 9 8,Zg 10 (.fad 1 3) 9 false,Zg 11 (.load 1 false 10) 9 false,Zg 12 (.call 173 [11,(.c (.i 0)),(.c (.i 2))]) 9 false,Zg 13 (.un .not 12) 9 false,Zo 14 (.pick 9 (Zy true) 13),Zm 15 14,Zg 16 (.load 2 true 2) 15 false,Zg 17 (.fad 2 3) 15 false,Zg 18 (.load 2 true 17) 15 false,Zg 19 (.call 198 [16,18]) 15 false,Zg 20 (.un .not 19) 15 false,Zo 21 (.pick 15 (Zy true) 20),Zm 22 21,Zg 23 (.fad 4 3) 22 false,Zg 24 (.load 2 true 23) 22 false,Zg 25 (.call 199 [24]) 22 false,Zg 26 (.un .not 25) 22 false,Zo 27 (.pick 22 (Zy true) 26)] []) [2,3,27] [2,3] Rc) (.seq (Zs [Za 28 1 3,Zl 29 28,Zd 30 .eql 29 0] (.cond 30 (.seqr (.reg [Za 31 6 3,Za 32 0 31,Zl 33 32,Zd 34 .eql 33 0,Zm 35 34,Zg 36 (.fad 6 3) 35 true,Zg 37 (.fad 1 36) 35 true,Zg 38 (.load 1 false 37) 35 true,Zg 39 (.len 38) 35 true,Zg 40 (.bin .eql 39 (.c (.i 0))) 35 true,Zo 41 (.pick 35 40 (Zy false)),Zm 42 41,Zg 43 (.fad 8 3) 42 true,Zg 44 (.load 2 true 43) 42 true,Zg 45 (.build [.i 0,.i 0] []) 42 true,Zg 46 (.aeq false 44 45) 42 true,Zo 47 (.pick 42 46 (Zy false)),Zm 4 47] []) [4] [] Nw) .skip)) (.seq (.drw [Zv 48 2 2,Za 49 6 3,Zv 50 2 49,Zo 51 (.call 198 [48,50]),Zm 52 51,Zg 53 (.fad 8 3) 52 true,Zg 54 (.load 2 true 53) 52 true,Zg 55 (.call 199 [54]) 52 true,Zo 56 (.pick 52 55 (Zy false)),Zm 57 56,Zg 58 (.fad 6 3) 57 true,Zg 59 (.fad 0 58) 57 true,Zg 60 (.load 1 false 59) 57 true,Zg 61 (.fad 2 3) 57 true,Zg 62 (.fad 0 61) 57 true,Zg 63 (.load 1 false 62) 57 true,Zg 64 (.bin .eql 60 63) 57 true,Zo 65 (.pick 57 64 (Zy false)),Zm 66 65,Zg 67 (.load 2 true 2) 66 true,Zg 68 (.fad 6 3) 66 true,Zg 69 (.load 2 true 68) 66 true,Zg 70 (.call 200 [67,69]) 66 true,Zg 71 (.load 2 true 2) 66 true,Zg 72 (.fad 2 3) 66 true,Zg 73 (.load 2 true 72) 66 true,Zg 74 (.call 200 [71,73]) 66 true,Zg 75 (.bin .eql 70 74) 66 true,Zo 76 (.pick 66 75 (Zy false)),Zm 77 76,Zg 78 (.load 2 true 2) 77 true,Zg 79 (.fad 2 3) 77 true,Zg 80 (.load 2 true 79) 77 true,Zg 81 (.fad 6 3) 77 true,Zg 82 (.load 2 true 81) 77 true,Zg 83 (.call 185 [78,80,82]) 77 true,Zo 84 (.pick 77 83 (Zy false)),Zm 4 84] []) .ret))))
def m132:ba A1 132 2 A132 aK=true:=by kernel_rfl
def vW:au:=(.seq (Zs [Zm 6 5,Za 7 1 2,Zl 8 7,Zk 9 8,Zb 10 .lss 6 9] (.cond 10 .skip (.exit 0))) (.seq (.blk 1 (Zs [Zm 13 1,Za 14 1 2,Zl 15 14,Zm 16 5,Zx 17 1 15 16,Zl 18 17,Zo 19 (.call 74 [13,18])] (.cond 19 (Zs [Zh 4 true] .ret) .skip))) (.reg [Zm 11 5,Zd 12 .add 11 1,Zm 5 12] [])))
def Oq:au:=(Zs [Zh 4 false] .ret)
def A144:au:=(Zs [Zo 2 (.box 2 0),Zh 4 false] (.seqa (.reg [Zn 5 0] []) (.blk 0 (.loop vW)) [] [] Oq))
def m144:ba A1 144 2 A144 aK=true:=by kernel_rfl
def A75:au:=(Zs [Zo 1 (.box 2 0),Zn 2 0] (Zs [Za 3 1 1,Zl 4 3,Zo 5 (.conv .u64 4),Zo 6 (.bin .shl (.c (.i 1)) 5),Zd 7 .sub 6 1,Za 8 0 1,Zl 9 8,Zo 10 (.conv .u64 9),Zb 11 .shl 7 10,Zm 2 11] .ret))
def m75:ba A1 75 1 A75 V10=true:=by kernel_rfl
def aby:au:=(Zs [Zo 4 (.box 2 0),Zo 5 (.box 2 1),Zo 6 (.box 2 2),Zo 7 (.box 2 3),Zh 8 false] (.seq (.drw [Zv 9 2 4,Za 10 1 6,Zl 11 10,Zo 12 (.call 144 [9,11]),Zm 13 12,Zg 14 (.fad 1 5) 13 true,Zg 15 (.load 1 false 14) 13 true,Zg 16 (.bin .gtr 15 (.c (.i 0))) 13 true,Zo 17 (.pick 13 16 (Zy false)),Zm 18 17,Zg 19 (.fad 1 7) 18 true,Zg 20 (.load 1 false 19) 18 true,Zg 21 (.bin .gtr 20 (.c (.i 0))) 18 true,Zo 22 (.pick 18 21 (Zy false)),Zm 23 22,Zg 24 (.load 2 true 5) 23 true,Zg 25 (.call 75 [24]) 23 true,Zg 26 (.load 2 true 7) 23 true,Zg 27 (.call 75 [26]) 23 true,Zg 28 (.bin .and 25 27) 23 true,Zg 29 (.bin .neq 28 (.c (.i 0))) 23 true,Zo 30 (.pick 23 29 (Zy false)),Zm 8 30] []) .ret))
def WV:List RV:=[.t 8]
def m145:ba A1 145 4 aby WV=true:=by kernel_rfl
def Sk:au:=(.cond 37 (Zs [Zh 6 false] .ret) .skip)
def LF:au:=(.cond 53 (Zs [Zh 6 true] .ret) .skip)
def A133:au:=(Zs [Zo 3 (.box 2 0),Zo 4 (.box 10 1),Zo 5 (.box 10 2),Zh 6 false] (.seq (.seqr (.reg [Za 7 2 4,Zv 8 2 7,Za 9 4 4,Zv 10 2 9,Za 11 2 5,Zv 12 2 11,Za 13 4 5,Zv 14 2 13,Zo 15 (.call 145 [8,10,12,14]),Zm 16 15,Zg 17 (.fad 2 4) 16 false,Zg 18 (.load 2 true 17) 16 false,Zg 19 (.fad 4 4) 16 false,Zg 20 (.load 2 true 19) 16 false,Zg 21 (.fad 6 5) 16 false,Zg 22 (.load 2 true 21) 16 false,Zg 23 (.fad 8 5) 16 false,Zg 24 (.load 2 true 23) 16 false,Zg 25 (.call 145 [18,20,22,24]) 16 false,Zo 26 (.pick 16 (Zy true) 25),Zm 27 26,Zg 28 (.fad 6 4) 27 false,Zg 29 (.load 2 true 28) 27 false,Zg 30 (.fad 8 4) 27 false,Zg 31 (.load 2 true 30) 27 false,Zg 32 (.fad 2 5) 27 false,Zg 33 (.load 2 true 32) 27 false,Zg 34 (.fad 4 5) 27 false,Zg 35 (.load 2 true 34) 27 false,Zg 36 (.call 145 [29,31,33,35]) 27 false,Zo 37 (.pick 27 (Zy true) 36)] []) [3,4,5,37] [3,4,5] Sk) (.seq (.seqr (.reg [Za 38 1 4,Zl 39 38,Zd 40 .eql 39 2,Zm 41 40,Zg 42 (.fad 1 5) 41 true,Zg 43 (.load 1 false 42) 41 true,Zg 44 (.bin .eql 43 (.c (.i 2))) 41 true,Zo 45 (.pick 41 44 (Zy false)),Zm 46 45,Zg 47 (.load 2 true 3) 46 true,Zg 48 (.fad 2 4) 46 true,Zg 49 (.load 2 true 48) 46 true,Zg 50 (.fad 2 5) 46 true,Zg 51 (.load 2 true 50) 46 true,Zg 52 (.call 185 [47,49,51]) 46 true,Zo 53 (.pick 46 52 (Zy false))] []) [4,5,53] [4,5] LF) (Zs [Za 54 6 4,Zv 55 2 54,Za 56 8 4,Zv 57 2 56,Za 58 6 5,Zv 59 2 58,Za 60 8 5,Zv 61 2 60,Zo 62 (.call 145 [55,57,59,61]),Zo 63 (.un .not 62),Zm 6 63] .ret))))
def m133:ba A1 133 3 A133 dt=true:=by kernel_rfl
def Yw:au:=(.cond 14 (Zs [Zh 4 false] .ret) .skip)
def Zp:au:=(.cond 45 (Zs [Zh 4 false] .ret) .skip)
def Fm:au:=(.seq (Zs [Zm 46 6,Zm 47 5,Zb 48 .lss 46 47] (.cond 48 .skip (.exit 2))) (.seq (.blk 3 (.seq (.drw [Zv 51 2 2,Zm 52 1,Zm 53 6,Zx 54 10 52 53,Zv 55 10 54,Zm 56 1,Zm 57 5,Zx 58 10 56 57,Zv 59 10 58,Zo 60 (.call 133 [51,55,59]),Zo 61 (.un .not 60)] []) (.cond 61 (Zs [Zh 4 false] .ret) .skip))) (.reg [Zm 49 6,Zd 50 .add 49 1,Zm 6 50] [])))
def Zi:au:=(.reg [Zm 19 5,Zd 20 .add 19 1,Zm 5 20] [])
def La:au:=(.seq (Zs [Zm 15 5,Zm 16 1,Zk 17 16,Zb 18 .lss 15 17] (.cond 18 .skip (.exit 0))) (.seqr (.blk 1 (.seq (.seqr (.drw [Zv 21 2 2,Zm 22 1,Zm 23 5,Zx 24 10 22 23,Zv 25 10 24,Zo 26 (.call 132 [21,25]),Zo 27 (.un .not 26),Zm 28 27,Zg 29 (.mv 5) 28 false,Zg 30 (.bin .gtr 29 (.c (.i 0))) 28 false,Zg 31 (.mv 30) 28 false,Zg 32 (.mv 1) 31 true,Zg 33 (.mv 5) 31 true,Zg 34 (.bin .sub 33 (.c (.i 1))) 31 true,Zg 35 (.idx 10 32 34) 31 true,Zg 36 (.fad 0 35) 31 true,Zg 37 (.load 1 false 36) 31 true,Zg 38 (.mv 1) 31 true,Zg 39 (.mv 5) 31 true,Zg 40 (.idx 10 38 39) 31 true,Zg 41 (.fad 0 40) 31 true,Zg 42 (.load 1 false 41) 31 true,Zg 43 (.bin .geq 37 42) 31 true,Zg 44 (.pick 31 43 (Zy false)) 28 false,Zo 45 (.pick 28 (Zy true) 44)] []) [1,2,5,45] [2] Zp) (Zs [Zn 6 0] (.blk 2 (.loop Fm))))) [1,2,5] [2] Zi))
def YT:au:=(Zs [Zh 4 true] .ret)
def A88:au:=(Zs [Zo 2 (.box 2 0),Zh 4 false] (.seq (.seqr (.reg [Zv 7 2 2,Zo 8 (.call 131 [7]),Zo 9 (.un .not 8),Zm 10 9,Zg 11 (.mv 1) 10 false,Zg 12 (.len 11) 10 false,Zg 13 (.bin .gtr 12 (.c (.i 8))) 10 false,Zo 14 (.pick 10 (Zy true) 13)] []) [1,2,14] [2] Yw) (.seqa (.reg [Zn 5 0] []) (.blk 0 (.loop La)) [] [] YT)))
def m88:ba A1 88 2 A88 aK=true:=by kernel_rfl
def Qh:au:=(.cond 11 .skip (.exit 0))
def Rr:au:=(.cond 61 (Zs [Zh 2 false] .ret) .skip)
def vt:au:=(.seq (.seqr (.reg [Zm 4 3,Zm 5 0,Zk 6 5,Zb 7 .lss 4 6,Zm 8 7,Zg 9 (.mv 3) 8 true,Zg 10 (.bin .leq 9 (.c (.i 6))) 8 true,Zo 11 (.pick 8 10 (Zy false))] []) [0,3,11] [] Qh) (.seq (.blk 1 (.seqr (.drw [Zm 14 0,Zm 15 3,Zx 16 2 14 15,Za 17 0 16,Zl 18 17,Zo 19 (.call 173 [18,(.c (.i 1)),(.c (.i 20000))]),Zo 20 (.un .not 19),Zm 21 20,Zg 22 (.mv 0) 21 false,Zg 23 (.mv 3) 21 false,Zg 24 (.idx 2 22 23) 21 false,Zg 25 (.fad 1 24) 21 false,Zg 26 (.load 1 false 25) 21 false,Zg 27 (.call 173 [26,(.c (.i 1)),(.c (.i 1000))]) 21 false,Zg 28 (.un .not 27) 21 false,Zo 29 (.pick 21 (Zy true) 28),Zm 30 29,Zg 31 (.mv 3) 30 false,Zg 32 (.bin .gtr 31 (.c (.i 0))) 30 false,Zg 33 (.mv 32) 30 false,Zg 34 (.mv 0) 33 true,Zg 35 (.mv 3) 33 true,Zg 36 (.bin .sub 35 (.c (.i 1))) 33 true,Zg 37 (.idx 2 34 36) 33 true,Zg 38 (.fad 0 37) 33 true,Zg 39 (.load 1 false 38) 33 true,Zg 40 (.mv 0) 33 true,Zg 41 (.mv 3) 33 true,Zg 42 (.idx 2 40 41) 33 true,Zg 43 (.fad 0 42) 33 true,Zg 44 (.load 1 false 43) 33 true,Zg 45 (.bin .leq 39 44) 33 true,Zg 46 (.mv 45) 33 true,Zg 47 (.mv 0) 46 false,Zg 48 (.mv 3) 46 false,Zg 49 (.bin .sub 48 (.c (.i 1))) 46 false,Zg 50 (.idx 2 47 49) 46 false,Zg 51 (.fad 1 50) 46 false,Zg 52 (.load 1 false 51) 46 false,Zg 53 (.mv 0) 46 false,Zg 54 (.mv 3) 46 false,Zg 55 (.idx 2 53 54) 46 false,Zg 56 (.fad 1 55) 46 false,Zg 57 (.load 1 false 56) 46 false,Zg 58 (.bin .geq 52 57) 46 false,Zg 59 (.pick 46 (Zy true) 58) 33 true,Zg 60 (.pick 33 59 (Zy false)) 30 false,Zo 61 (.pick 30 (Zy true) 60)] []) [0,3,61] [] Rr)) (.reg [Zm 12 3,Zd 13 .add 12 1,Zm 3 13] [])))
def Mq:au:=(Zs [Zm 62 0,Zk 63 62,Zo 64 (.call 173 [63,(.c (.i 1)),(.c (.i 6))]),Zm 2 64] .ret)
def A182:au:=(Zs [Zh 2 false] (.seqa (.reg [Zn 3 0] []) (.blk 0 (.loop vt)) [0] [] Mq))
def m182:ba A1 182 1 A182 V10=true:=by kernel_rfl
def ack:au:=(Zs [Zo 2 (.box 2 0),Zo 3 (.box 4 1),Zh 4 false] (Zs [Za 6 0 2,Zl 7 6,Zk 8 7,Zm 5 8] (Zs [Za 9 0 3,Zl 10 9,Zm 11 5,Zd 12 .sub 11 1,Zo 13 (.call 173 [10,(.c (.i 0)),12]),Zm 14 13,Zg 15 (.fad 1 3) 14 true,Zg 16 (.load 1 false 15) 14 true,Zg 17 (.mv 5) 14 true,Zg 18 (.bin .sub 17 (.c (.i 1))) 14 true,Zg 19 (.call 173 [16,(.c (.i 0)),18]) 14 true,Zo 20 (.pick 14 19 (Zy false)),Zm 21 20,Zg 22 (.fad 0 3) 21 true,Zg 23 (.load 1 false 22) 21 true,Zg 24 (.fad 1 3) 21 true,Zg 25 (.load 1 false 24) 21 true,Zg 26 (.bin .neq 23 25) 21 true,Zo 27 (.pick 21 26 (Zy false)),Zm 28 27,Zg 29 (.fad 2 3) 28 true,Zg 30 (.load 1 false 29) 28 true,Zg 31 (.call 173 [30,(.c (.i 1)),(.c (.i 1000))]) 28 true,Zo 32 (.pick 28 31 (Zy false)),Zm 33 32,Zg 34 (.fad 3 3) 33 true,Zg 35 (.load 1 false 34) 33 true,Zg 36 (.call 173 [35,(.c (.i 0)),(.c (.i 2))]) 33 true,Zo 37 (.pick 33 36 (Zy false)),Zm 4 37] .ret)))
def m183:ba A1 183 2 ack aK=true:=by kernel_rfl
def DP:au:=(.seq (Zs [Zm 7 6,Za 8 1 3,Zl 9 8,Zk 10 9,Zb 11 .lss 7 10] (.cond 11 .skip (.exit 0))) (.seq (.blk 1 (.drw [Zm 14 5,Za 15 1 2,Zl 16 15,Za 17 1 3,Zl 18 17,Zm 19 6,Zx 20 1 18 19,Zl 21 20,Zx 22 4 16 21,Za 23 2 22,Zl 24 23,Zb 25 .add 14 24,Zm 5 25] [])) (.reg [Zm 12 6,Zd 13 .add 12 1,Zm 6 13] [])))
def ZE:au:=(Zs [Zm 26 5,Zm 4 26] .ret)
def A91:au:=(Zs [Zo 2 (.box 2 0),Zo 3 (.box 2 1),Zn 4 0] (Zs [Zn 5 0] (.seqa (.reg [Zn 6 0] []) (.blk 0 (.loop DP)) [5] [] ZE)))
def m91:ba A1 91 2 A91 aK=true:=by kernel_rfl
def A278:au:=(Zs [Zn 2 0] (.seq (.blk 0 (Zs [Zm 4 0,Zd 5 .lss 4 0,Zm 3 5] (.cond 3 (Zs [Zn 2 (-1)] .ret) (Zs [Zm 7 0,Zd 8 .gtr 7 0,Zm 6 8] (.cond 6 (Zs [Zn 2 1] .ret) .skip))))) (Zs [Zn 2 0] .ret)))
def m278:ba A1 278 1 A278 V10=true:=by kernel_rfl
def wg:au:=(.seq (Zs [Zm 32 9,Za 33 1 4,Zl 34 33,Zk 35 34,Zb 36 .lss 32 35] (.cond 36 .skip (.exit 0))) (.seq (.blk 1 (.seq (.drw [Za 39 1 4,Zl 40 39,Zm 41 9,Zx 42 1 40 41,Zl 43 42,Za 44 1 5,Zl 45 44,Zm 46 9,Zx 47 1 45 46,Zl 48 47,Zb 49 .neq 43 48] []) (.cond 49 (.seq (.drw [Za 50 1 4,Zl 51 50,Zm 52 9,Zx 53 1 51 52,Zl 54 53,Za 55 1 5,Zl 56 55,Zm 57 9,Zx 58 1 56 57,Zl 59 58,Zb 60 .sub 54 59,Zo 61 (.call 278 [60]),Zm 6 61] []) .ret) .skip))) (.reg [Zm 37 9,Zd 38 .add 37 1,Zm 9 38] [])))
def Ph:au:=(Zs [Za 62 0 4,Zl 63 62,Za 64 0 5,Zl 65 64,Zb 66 .sub 63 65,Zo 67 (.call 278 [66]),Zm 6 67] .ret)
def A274:au:=(Zs [Zo 3 (.box 2 0),Zo 4 (.box 2 1),Zo 5 (.box 2 2),Zn 6 0] (.seq (.seq (.drw [Zv 10 2 3,Zv 11 2 4,Zo 12 (.call 91 [10,11]),Zv 13 2 3,Zv 14 2 5,Zo 15 (.call 91 [13,14]),Zb 16 .sub 12 15,Zm 7 16] []) (Zs [Zm 17 7,Zd 18 .neq 17 0] (.cond 18 (Zs [Zm 19 7,Zo 20 (.call 278 [19]),Zm 6 20] .ret) .skip))) (.seq (Zs [Za 21 1 4,Zl 22 21,Zk 23 22,Za 24 1 5,Zl 25 24,Zk 26 25,Zb 27 .sub 23 26,Zm 8 27] (Zs [Zm 28 8,Zd 29 .neq 28 0] (.cond 29 (Zs [Zm 30 8,Zo 31 (.call 278 [30]),Zm 6 31] .ret) .skip))) (.seqa (.reg [Zn 9 0] []) (.blk 0 (.loop wg)) [4,5] [4,5] Ph))))
def m274:ba A1 274 3 A274 dt=true:=by kernel_rfl
def A107:au:=(.seq (.reg [Zo 2 (.mv (.c (.lst .u 1 [])))] [.s 2]) (.seq (.reg [Zo 3 (.bsl 1 false []),Zm 4 0,Zo 5 (.app 1 8 false 3 4),Zm 2 5] [.s 2]) .ret))
def m107:ba A1 107 1 A107 V10=true:=by kernel_rfl
def wJ:au:=(.seq (Zs [Zm 7 6,Zm 8 0,Zk 9 8,Zb 10 .lss 7 9] (.cond 10 .skip (.exit 0))) (.seq (.blk 1 (Zs [Zm 13 0,Zm 14 6,Zx 15 2 13 14,Za 16 0 15,Zl 17 16,Zm 18 1,Zb 19 .geq 17 18] (.cond 19 (.reg [Zm 20 6,Zm 5 20] []) .skip))) (.reg [Zm 11 6,Zd 12 .add 11 1,Zm 6 12] [])))
def Si:au:=(Zs [Zm 21 5,Zm 4 21] .ret)
def A165:au:=(Zs [Zn 4 0] (Zs [Zn 5 (-1)] (.seqa (.reg [Zn 6 0] []) (.blk 0 (.loop wJ)) [5] [] Si)))
def m165:ba A1 165 2 A165 aK=true:=by kernel_rfl
def A90:au:=(Zs [Zn 6 0] (Zs [Zm 9 0,Zm 10 1,Zo 11 (.call 165 [9,10]),Zm 7 11] (.seq (Zs [Zm 12 7,Zd 13 .lss 12 0] (.cond 13 (Zs [Zn 6 0] .ret) .skip)) (.seq (.drw [Zm 14 2,Zm 15 0,Zm 16 7,Zx 17 2 15 16,Za 18 1 17,Zl 19 18,Zb 20 .add 14 19,Zd 21 .sub 20 1,Zm 22 0,Zm 23 7,Zx 24 2 22 23,Za 25 1 24,Zl 26 25,Zb 27 .quo 21 26,Zm 8 27] []) (.seq (Zs [Zm 28 8,Zd 29 .gtr 28 24] (.cond 29 (Zs [Zn 6 0] .ret) .skip)) (Zs [Zm 30 8,Zm 6 30] .ret))))))
def m90:ba A1 90 3 A90 dt=true:=by kernel_rfl
def Ql:au:=(.cond 39 (.reg [Zm 40 6,Zm 5 40] []) .skip)
def xb:au:=(.seq (Zs [Zm 7 6,Zm 8 0,Zk 9 8,Zb 10 .lss 7 9] (.cond 10 .skip (.exit 0))) (.seq (.blk 1 (.seqr (.drw [Zm 13 5,Zd 14 .lss 13 0,Zm 15 14,Zg 16 (.mv 1) 15 false,Zg 17 (.mv 6) 15 false,Zg 18 (.idx 1 16 17) 15 false,Zg 19 (.load 1 false 18) 15 false,Zg 20 (.mv 0) 15 false,Zg 21 (.mv 6) 15 false,Zg 22 (.idx 2 20 21) 15 false,Zg 23 (.fad 1 22) 15 false,Zg 24 (.load 1 false 23) 15 false,Zg 25 (.len 24) 15 false,Zg 26 (.bin .mul 19 25) 15 false,Zg 27 (.mv 1) 15 false,Zg 28 (.mv 5) 15 false,Zg 29 (.idx 1 27 28) 15 false,Zg 30 (.load 1 false 29) 15 false,Zg 31 (.mv 0) 15 false,Zg 32 (.mv 5) 15 false,Zg 33 (.idx 2 31 32) 15 false,Zg 34 (.fad 1 33) 15 false,Zg 35 (.load 1 false 34) 15 false,Zg 36 (.len 35) 15 false,Zg 37 (.bin .mul 30 36) 15 false,Zg 38 (.bin .lss 26 37) 15 false,Zo 39 (.pick 15 (Zy true) 38)] []) [0,1,5,6,39] [] Ql)) (.reg [Zm 11 6,Zd 12 .add 11 1,Zm 6 12] [])))
def Mz:au:=(Zs [Zm 41 5,Zm 4 41] .ret)
def A164:au:=(Zs [Zn 4 0] (Zs [Zn 5 (-1)] (.seqa (.reg [Zn 6 0] []) (.blk 0 (.loop xb)) [5] [] Mz)))
def m164:ba A1 164 2 A164 aK=true:=by kernel_rfl
def SX:au:=(.cond 79 (.exit 3) .skip)
def OO:au:=(.cond 88 (Zs [Zm 89 11,Zm 8 89] (Zs [Zm 90 12,Zm 9 90] (.reg [Zm 91 13,Zm 92 14,Zb 93 .add 91 92,Zm 10 93] []))) .skip)
def Cb:au:=(.seq (Zs [Zm 21 12,Zm 22 1,Zk 23 22,Zb 24 .lss 21 23] (.cond 24 .skip (.exit 2))) (.seq (.blk 3 (.seq (.drw [Zm 27 2,Zm 28 11,Zx 29 1 27 28,Zl 30 29,Zm 31 1,Zm 32 11,Zx 33 2 31 32,Za 34 1 33,Zl 35 34,Zk 36 35,Zb 37 .mul 30 36,Zm 38 2,Zm 39 12,Zx 40 1 38 39,Zl 41 40,Zm 42 1,Zm 43 12,Zx 44 2 42 43,Za 45 1 44,Zl 46 45,Zk 47 46,Zb 48 .mul 41 47,Zm 13 37,Zm 14 48] []) (.seq (.seqr (.drw [Zm 49 11,Zm 50 12,Zb 51 .eql 49 50,Zm 52 51,Zg 53 (.mv 13) 52 false,Zg 54 (.mv 14) 52 false,Zg 55 (.bin .gtr 53 54) 52 false,Zo 56 (.pick 52 (Zy true) 55),Zm 57 56,Zg 58 (.mv 13) 57 false,Zg 59 (.mv 14) 57 false,Zg 60 (.bin .eql 58 59) 57 false,Zg 61 (.mv 60) 57 false,Zg 62 (.mv 11) 61 true,Zg 63 (.mv 12) 61 true,Zg 64 (.bin .gtr 62 63) 61 true,Zg 65 (.pick 61 64 (Zy false)) 57 false,Zo 66 (.pick 57 (Zy true) 65),Zm 67 66,Zg 68 (.load 2 true 3) 67 false,Zg 69 (.mv 1) 67 false,Zg 70 (.mv 11) 67 false,Zg 71 (.idx 2 69 70) 67 false,Zg 72 (.load 2 true 71) 67 false,Zg 73 (.mv 1) 67 false,Zg 74 (.mv 12) 67 false,Zg 75 (.idx 2 73 74) 67 false,Zg 76 (.load 2 true 75) 67 false,Zg 77 (.call 185 [68,72,76]) 67 false,Zg 78 (.un .not 77) 67 false,Zo 79 (.pick 67 (Zy true) 78)] []) [1,2,3,8,9,10,11,12,13,14,79] [3] SX) (.seqr (.reg [Zm 80 8,Zd 81 .lss 80 0,Zm 82 81,Zg 83 (.mv 13) 82 false,Zg 84 (.mv 14) 82 false,Zg 85 (.bin .add 83 84) 82 false,Zg 86 (.mv 10) 82 false,Zg 87 (.bin .lss 85 86) 82 false,Zo 88 (.pick 82 (Zy true) 87)] []) [1,2,3,8,9,10,11,12,13,14,88] [3] OO)))) (.reg [Zm 25 12,Zd 26 .add 25 1,Zm 12 26] [])))
def Mw:au:=(.reg [Zm 19 11,Zd 20 .add 19 1,Zm 11 20] [])
def CY:au:=(.seq (Zs [Zm 15 11,Zm 16 1,Zk 17 16,Zb 18 .lss 15 17] (.cond 18 .skip (.exit 0))) (.seqr (.blk 1 (Zs [Zn 12 0] (.blk 2 (.loop Cb)))) [1,2,3,8,9,10,11] [3] Mw))
def PG:au:=(Zs [Zm 94 8,Zm 95 9,Zm 6 94,Zm 7 95] .ret)
def A122:au:=(Zs [Zo 3 (.box 2 0),Zn 6 0,Zn 7 0] (Zs [Zn 8 (-1),Zn 9 (-1),Zn 10 0] (.seqa (.reg [Zn 11 0] []) (.blk 0 (.loop CY)) [8,9] [] PG)))
def gt:List RV:=[.t 6,.t 7]
def m122:ba A1 122 3 A122 gt=true:=by kernel_rfl
def xg:au:=(.seq (Zs [Zm 8 7,Zm 9 1,Zk 10 9,Zb 11 .lss 8 10] (.cond 11 .skip (.exit 0))) (.seq (.blk 1 (.seq (.drw [Zv 14 2 3,Zm 15 1,Zm 16 7,Zx 17 10 15 16,Zv 18 10 17,Zv 19 10 5,Zo 20 (.call 133 [14,18,19]),Zo 21 (.un .not 20)] []) (.cond 21 (Zs [Zh 6 false] .ret) .skip))) (.reg [Zm 12 7,Zd 13 .add 12 1,Zm 7 13] [])))
def Lb:au:=(Zs [Zh 6 true] .ret)
def A166:au:=(Zs [Zo 3 (.box 2 0),Zo 5 (.box 10 2),Zh 6 false] (.seqa (.reg [Zn 7 0] []) (.blk 0 (.loop xg)) [] [] Lb))
def m166:ba A1 166 3 A166 dt=true:=by kernel_rfl
def sF:au:=(.seq (.seq (.drw [Zm 10 4,Zd 11 .gtr 10 0,Zm 12 11,Zg 13 (.mv 0) 12 true,Zg 14 (.nilc 13) 12 true,Zg 15 (.fad 0 14) 12 true,Zg 16 (.load 2 true 15) 12 true,Zg 17 (.load 2 true 3) 12 true,Zg 18 (.mv 0) 12 true,Zg 19 (.nilc 18) 12 true,Zg 20 (.fad 3 19) 12 true,Zg 21 (.load 1 false 20) 12 true,Zg 22 (.mv 4) 12 true,Zg 23 (.bin .sub 22 (.c (.i 1))) 12 true,Zg 24 (.idx 2 21 23) 12 true,Zg 25 (.load 2 true 24) 12 true,Zg 26 (.call 274 [16,17,25]) 12 true,Zg 27 (.bin .lss 26 (.c (.i 0))) 12 true,Zo 28 (.pick 12 27 (Zy false))] []) (.cond 28 .skip (.exit 0))) (.blk 1 (.reg [Zm 29 4,Zd 30 .sub 29 1,Zm 4 30] [])))
def xJ:au:=(.drw [Zm 31 0,Zo 32 (.bsl 2 true []),Zm 33 0,Zo 34 (.nilc 33),Za 35 3 34,Zl 36 35,Zm 37 4,Zo 38 (.slc 2 36 none (some 37) none),Zo 39 (.app 2 32 false 32 38),Zv 40 2 3,Zo 41 (.bsl 2 true [40]),Zo 42 (.app 2 32 true 39 41),Zm 43 0,Zo 44 (.nilc 43),Za 45 3 44,Zl 46 45,Zm 47 4,Zo 48 (.slc 2 46 (some 47) none none),Zo 49 (.app 2 32 false 42 48),Zo 50 (.nilc 31),Za 51 3 50,Zw (.store 1 51 49)] [])
def QO:au:=(Zs [Zo 3 (.box 2 1)] (Zs [Zm 5 0,Zo 6 (.nilc 5),Za 7 3 6,Zl 8 7,Zk 9 8,Zm 4 9] (.seqr (.blk 0 (.loop sF)) [0,3,4] [3,1000000000,1000000001] xJ)))
def bM:List RV:=[]
def abq:ba A1 261 2 QO bM=true:=by kernel_rfl
def sO:au:=(.seq (.seq (.drw [Zm 10 4,Zd 11 .gtr 10 0,Zm 12 11,Zg 13 (.mv 0) 12 true,Zg 14 (.nilc 13) 12 true,Zg 15 (.fad 0 14) 12 true,Zg 16 (.load 2 true 15) 12 true,Zg 17 (.load 2 true 3) 12 true,Zg 18 (.mv 0) 12 true,Zg 19 (.nilc 18) 12 true,Zg 20 (.fad 3 19) 12 true,Zg 21 (.load 1 false 20) 12 true,Zg 22 (.mv 4) 12 true,Zg 23 (.bin .sub 22 (.c (.i 1))) 12 true,Zg 24 (.idx 2 21 23) 12 true,Zg 25 (.load 2 true 24) 12 true,Zg 26 (.call 274 [16,17,25]) 12 true,Zg 27 (.bin .lss 26 (.c (.i 0))) 12 true,Zo 28 (.pick 12 27 (Zy false))] []) (.cond 28 .skip (.exit 0))) (.blk 1 (.reg [Zm 29 4,Zd 30 .sub 29 1,Zm 4 30] [])))
def Ag:au:=(.drw [Zm 31 0,Zo 32 (.bsl 2 true []),Zm 33 0,Zo 34 (.nilc 33),Za 35 3 34,Zl 36 35,Zm 37 4,Zo 38 (.slc 2 36 none (some 37) none),Zo 39 (.app 2 32 false 32 38),Zv 40 2 3,Zo 41 (.bsl 2 true [40]),Zo 42 (.app 2 32 true 39 41),Zm 43 0,Zo 44 (.nilc 43),Za 45 3 44,Zl 46 45,Zm 47 4,Zo 48 (.slc 2 46 (some 47) none none),Zo 49 (.app 2 32 false 42 48),Zo 50 (.nilc 31),Za 51 3 50,Zw (.store 1 51 49)] [])
def QL:au:=(Zs [Zo 3 (.box 2 1)] (Zs [Zm 5 0,Zo 6 (.nilc 5),Za 7 3 6,Zl 8 7,Zk 9 8,Zm 4 9] (.seqr (.blk 0 (.loop sO)) [0,3,4] [3,1000000000,1000000001] Ag)))
def abw:ba A1 261 2 QL bM=true:=by kernel_rfl
def uc:au:=(.cond 39 .skip (.exit 0))
def ve:au:=(.cond 56 (.drw [Zm 57 0,Zo 58 (.fdv [65,71,470000003,1000000000] 0 4),Zo 59 (.ldv [65,71,470000003,1000000000] 1 false 58),Zo 60 (.fdv [65,71,470000003,1000000000] 1 4),Zo 61 (.ldv [65,71,470000003,1000000000] 1 false 60),Zo 62 (.call 107 [61]),Zm 63 7,Zo 64 (.bsl 1 true [63]),Zo 65 (.app 1 8 true 62 64),Zo 66 (.build [.i 0,.lst .u 1 []] [(0,1,59),(1,1,65)]),Zm 67 2,Zo 68 (.call 107 [67]),Zm 69 8,Zo 70 (.bsl 1 true [69]),Zo 71 (.app 1 8 true 68 70),Zo 72 (.callM 240 [57,66,71] [1000000000,470000003,65,71])] [.f true 470000003 1000000000 3]) .skip)
def oa:au:=(.seq (.seqr (.reg [Zm 24 7,Zm 25 0,Zo 26 (.nilc 25),Za 27 0 26,Za 28 1 27,Zl 29 28,Zk 30 29,Zb 31 .lss 24 30,Zm 32 31,Zg 33 (.mv 0) 32 true,Zg 34 (.nilc 33) 32 true,Zg 35 (.fad 3 34) 32 true,Zg 36 (.load 1 false 35) 32 true,Zg 37 (.len 36) 32 true,Zg 38 (.bin .leq 37 (.c (.i 200))) 32 true,Zo 39 (.pick 32 38 (Zy false))] []) [0,2,4,6,7,39] [4,470000003,1000000000,1000000003] uc) (.seq (.blk 1 (Zs [Zm 42 0,Zo 43 (.nilc 42),Za 44 0 43,Zv 45 2 44,Zm 46 7,Zm 47 6,Zo 48 (.call 233 [45,46,47]),Zm 8 48] (.seqr (.reg [Zm 49 8,Zd 50 .geq 49 0,Zm 51 50,Zg 52 (.mv 2) 51 true,Zg 53 (.mv 8) 51 true,Zg 54 (.call 74 [52,53]) 51 true,Zg 55 (.un .not 54) 51 true,Zo 56 (.pick 51 55 (Zy false))] []) [0,2,4,6,7,8,56] [4,470000003,1000000000,1000000003] ve))) (.reg [Zm 40 7,Zd 41 .add 40 1,Zm 7 41] [])))
def FG:au:=(.seq (.reg [Zo 4 (.box 2 1)] [.w 4,.f true 470000003 1000000000 3,.f true 500000257 4 1]) (Zs [Zm 9 2,Zm 10 2,Zk 11 10,Zd 12 .sub 11 1,Zx 13 1 9 12,Zl 14 13,Zm 6 14] (.seq (Zs [Zm 15 6,Zm 16 0,Zo 17 (.nilc 16),Za 18 2 17,Zl 19 18,Zb 20 .eql 15 19] (.cond 20 (.seq (.reg [Zm 21 0,Zv 22 2 4,Zo 23 (.callM 261 [21,22] [1000000000,470000003])] [.f true 470000003 1000000000 3]) .ret) .skip)) (Zs [Zn 7 0] (.blk 0 (.loop oa))))))
def Yc:ba A1 240 3 FG bM=true:=by kernel_rfl
def zC:au:=(.cond 39 .skip (.exit 0))
def AJ:au:=(.cond 56 (.drw [Zm 57 0,Zo 58 (.fdv [65,71,470000003,1000000000] 0 4),Zo 59 (.ldv [65,71,470000003,1000000000] 1 false 58),Zo 60 (.fdv [65,71,470000003,1000000000] 1 4),Zo 61 (.ldv [65,71,470000003,1000000000] 1 false 60),Zo 62 (.call 107 [61]),Zm 63 7,Zo 64 (.bsl 1 true [63]),Zo 65 (.app 1 8 true 62 64),Zo 66 (.build [.i 0,.lst .u 1 []] [(0,1,59),(1,1,65)]),Zm 67 2,Zo 68 (.call 107 [67]),Zm 69 8,Zo 70 (.bsl 1 true [69]),Zo 71 (.app 1 8 true 68 70),Zo 72 (.callM 240 [57,66,71] [1000000000,470000003,65,71])] [.f true 470000003 1000000000 3]) .skip)
def qz:au:=(.seq (.seqr (.reg [Zm 24 7,Zm 25 0,Zo 26 (.nilc 25),Za 27 0 26,Za 28 1 27,Zl 29 28,Zk 30 29,Zb 31 .lss 24 30,Zm 32 31,Zg 33 (.mv 0) 32 true,Zg 34 (.nilc 33) 32 true,Zg 35 (.fad 3 34) 32 true,Zg 36 (.load 1 false 35) 32 true,Zg 37 (.len 36) 32 true,Zg 38 (.bin .leq 37 (.c (.i 200))) 32 true,Zo 39 (.pick 32 38 (Zy false))] []) [0,2,4,6,7,39] [4,470000003,1000000000,1000000001] zC) (.seq (.blk 1 (Zs [Zm 42 0,Zo 43 (.nilc 42),Za 44 0 43,Zv 45 2 44,Zm 46 7,Zm 47 6,Zo 48 (.call 233 [45,46,47]),Zm 8 48] (.seqr (.reg [Zm 49 8,Zd 50 .geq 49 0,Zm 51 50,Zg 52 (.mv 2) 51 true,Zg 53 (.mv 8) 51 true,Zg 54 (.call 74 [52,53]) 51 true,Zg 55 (.un .not 54) 51 true,Zo 56 (.pick 51 55 (Zy false))] []) [0,2,4,6,7,8,56] [4,470000003,1000000000,1000000001] AJ))) (.reg [Zm 40 7,Zd 41 .add 40 1,Zm 7 41] [])))
def Ky:au:=(.seq (.reg [Zo 4 (.box 2 1)] [.w 4,.f true 470000003 1000000000 3]) (Zs [Zm 9 2,Zm 10 2,Zk 11 10,Zd 12 .sub 11 1,Zx 13 1 9 12,Zl 14 13,Zm 6 14] (.seq (Zs [Zm 15 6,Zm 16 0,Zo 17 (.nilc 16),Za 18 2 17,Zl 19 18,Zb 20 .eql 15 19] (.cond 20 (.seq (.reg [Zm 21 0,Zv 22 2 4,Zo 23 (.callM 261 [21,22] [1000000000,470000003])] [.f true 470000003 1000000000 3]) .ret) .skip)) (Zs [Zn 7 0] (.blk 0 (.loop qz))))))
def agb:ba A1 240 3 Ky bM=true:=by kernel_rfl
def Md:au:=(.seq (.reg [Zo 3 (.box 2 0),Zo 6 (.mv (.c (.lst .u 2 []))),Zh 7 false] [.s 6]) (Zs [Zv 9 2 3,Zm 10 2,Zo 11 (.build [.lst .u 1 [],.lst .u 4 [],.i 0,.lst .u 2 []] [(0,2,9),(2,1,10)]),Zo 12 (.box 4 11),Zm 8 12] (Zs [Zm 13 8,Zm 14 1,Zo 15 (.build [.i 0,.lst .u 1 []] [(0,1,14)]),Zm 16 1,Zo 17 (.bsl 1 false [16]),Zo 18 (.callM 240 [13,15,17] [12,17])] (.seq (Zs [Zm 19 8,Zo 20 (.nilc 19),Za 21 3 20,Zl 22 21,Zk 23 22,Zd 24 .gtr 23 200] (.cond 24 (.seq (.reg [Zo 25 (.bsl 2 false []),Zm 6 25,Zh 7 false] [.s 6]) .ret) .skip)) (.seq (.reg [Zo 26 (.bsl 2 false []),Zm 27 8,Zo 28 (.nilc 27),Za 29 3 28,Zl 30 29,Zo 31 (.app 2 32 false 26 30),Zm 6 31,Zh 7 true] [.s 6]) .ret)))))
def acs:ba A1 218 3 Md gt=true:=by kernel_rfl
def nH:au:=(.seq (Zs [Zm 30 13,Zm 31 11,Zk 32 31,Zb 33 .lss 30 32] (.cond 33 .skip (.exit 0))) (.seq (.blk 1 (.seq (.drw [Zm 36 1,Zv 37 2 3,Zm 38 11,Zm 39 13,Zx 40 2 38 39,Zv 41 2 40,Zo 42 (.call 91 [37,41]),Za 43 2 5,Zl 44 43,Zo 45 (.call 90 [36,42,44]),Zm 14 45] []) (Zs [Zm 46 14,Zd 47 .gtr 46 0] (.cond 47 (.seq (.reg [Zm 48 9,Zm 49 11,Zm 50 13,Zx 51 2 49 50,Zv 52 2 51,Zo 53 (.bsl 2 false [52]),Zo 54 (.app 2 32 true 48 53),Zm 9 54] [.s 9]) (.reg [Zm 55 10,Zm 56 14,Zo 57 (.bsl 1 false [56]),Zo 58 (.app 1 8 true 55 57),Zm 10 58] [.s 10])) .skip)))) (.reg [Zm 34 13,Zd 35 .add 34 1,Zm 13 35] [])))
def Ae:au:=(.seq (.reg [Zm 59 9,Zm 60 10,Zm 6 59,Zm 7 60,Zh 8 true] [.s 6,.s 7]) .ret)
def Pi:au:=(.seq (.reg [Zo 3 (.box 2 0),Zo 5 (.box 4 2),Zo 6 (.mv (.c (.lst .u 2 []))),Zo 7 (.mv (.c (.lst .u 1 []))),Zh 8 false] [.s 6,.s 7,.w 3,.w 3]) (.seq (.reg [Zo 15 (.bsl 2 false []),Zo 16 (.bsl 1 false []),Zm 9 15,Zm 10 16] [.s 9,.s 10]) (.seq (.reg [Zv 18 2 3,Za 19 0 5,Zl 20 19,Za 21 1 5,Zl 22 21,Zo 23 (.callM 218 [18,20,22] []),Zm 17 23,Ze 24 17 0,Ze 25 17 1,Zm 11 24,Zm 12 25] [.s 11]) (.seq (Zs [Zm 26 12,Zo 27 (.un .not 26)] (.cond 27 (.seq (.reg [Zm 28 9,Zm 29 10,Zm 6 28,Zm 7 29,Zh 8 false] [.s 6,.s 7]) .ret) .skip)) (.seqa (.reg [Zn 13 0] []) (.blk 0 (.loop nH)) [9,10] [9,10,1000000000] Ae)))))
def kn:List RV:=[.t 6,.t 7,.t 8]
def aej:ba A1 184 3 Pi kn=true:=by kernel_rfl
def xG:au:=(.cond 22 (.seq (.reg [Zo 23 (.bsl 2 false []),Zo 24 (.bsl 1 false []),Zm 6 23,Zm 7 24,Zh 8 false] [.s 6,.s 7]) .ret) .skip)
def Sv:au:=(.seq (.reg [Zo 3 (.box 2 0),Zo 5 (.box 4 2),Zo 6 (.mv (.c (.lst .u 2 []))),Zo 7 (.mv (.c (.lst .u 1 []))),Zh 8 false] [.s 6,.s 7]) (.seq (.seqr (.reg [Zv 9 2 3,Zo 10 (.call 131 [9]),Zo 11 (.un .not 10),Zm 12 11,Zg 13 (.mv 1) 12 false,Zg 14 (.call 182 [13]) 12 false,Zg 15 (.un .not 14) 12 false,Zo 16 (.pick 12 (Zy true) 15),Zm 17 16,Zg 18 (.load 2 true 3) 17 false,Zg 19 (.load 4 true 5) 17 false,Zg 20 (.call 183 [18,19]) 17 false,Zg 21 (.un .not 20) 17 false,Zo 22 (.pick 17 (Zy true) 21)] []) [1,3,5,22] [3,5,1000000000] xG) (.seq (.reg [Zv 25 2 3,Zm 26 1,Zv 27 4 5,Zo 28 (.callM 184 [25,26,27] [1000000000]),Ze 29 28 0,Ze 30 28 1,Ze 31 28 2,Zm 6 29,Zm 7 30,Zm 8 31] [.s 6,.s 7]) .ret)))
def agj:ba A1 121 3 Sv kn=true:=by kernel_rfl
def Yr:au:=(Zs [Zo 3 (.box 2 0),Zo 5 (.box 4 2),Zo 6 (.alloc (.agg [.i 0,.lst .u 1 []])),Zo 7 (.alloc (.agg [.i 0,.lst .u 1 []])),Zh 8 false] (.seq (.reg [Zv 15 2 3,Zm 16 1,Zv 17 4 5,Zo 18 (.callM 121 [15,16,17] [1000000000]),Zm 14 18,Ze 19 14 0,Ze 20 14 1,Ze 21 14 2,Zm 9 19,Zm 10 20,Zm 11 21] [.s 9,.s 10]) (.seq (Zs [Zm 22 11,Zo 23 (.un .not 22)] (.cond 23 (.seq (.reg [Zo 24 (.build [.i 0,.lst .u 1 []] []),Zo 25 (.build [.i 0,.lst .u 1 []] []),Zw (.store 2 6 24),Zw (.store 2 7 25),Zh 8 false] [.w 6,.w 7]) .ret) .skip)) (Zs [Zv 27 2 3,Zm 28 9,Zm 29 10,Zo 30 (.call 122 [27,28,29]),Zm 26 30,Ze 31 26 0,Ze 32 26 1,Zm 12 31,Zm 13 32] (.seq (Zs [Zm 33 12,Zd 34 .lss 33 0] (.cond 34 (.seq (.reg [Zo 35 (.build [.i 0,.lst .u 1 []] []),Zo 36 (.build [.i 0,.lst .u 1 []] []),Zw (.store 2 6 35),Zw (.store 2 7 36),Zh 8 false] [.w 6,.w 7]) .ret) .skip)) (.seq (.drw [Zm 37 9,Zm 38 12,Zx 39 2 37 38,Zv 40 2 39,Zm 41 9,Zm 42 13,Zo 43 (.idv [6] 2 41 42),Zo 44 (.lde [6] 2 true 43),Zw (.stw 6 2 6 40),Zw (.stv 2 7 44),Zh 8 true] [.w 6,.w 7]) .ret))))))
def zO:List RV:=[.c 6 2 true,.c 7 2 true,.t 8]
def aij:ba A1 44 3 Yr zO=true:=by kernel_rfl
def A214:au:=(Zs [Zo 1 (.box 2 0),Zo 2 (.alloc (.agg [.i 0,.lst .u 1 []]))] (.seq (.drw [Za 3 0 1,Zl 4 3,Za 5 1 1,Zl 6 5,Zo 7 (.call 107 [6]),Zo 8 (.build [.i 0,.lst .u 1 []] [(0,1,4),(1,1,7)]),Zw (.store 2 2 8)] []) .ret))
def m214:ba A1 214 1 A214 dL=true:=by kernel_rfl
def A167:au:=(Zs [Zo 1 (.box 10 0),Zo 2 (.alloc (.agg [.i 0,.i 0,.i 0,.lst .u 1 [],.i 0,.i 0,.i 0,.lst .u 1 [],.i 0,.i 0]))] (Zs [Za 3 2 1,Zv 4 2 3,Zo 5 (.call 214 [4]),Za 6 2 1,Zw (.store 2 6 5)] (Zs [Za 7 6 1,Zv 8 2 7,Zo 9 (.call 214 [8]),Za 10 6 1,Zw (.store 2 10 9)] (Zs [Zv 11 10 1,Zw (.store 10 2 11)] .ret))))
def V167:List RV:=[.c 2 10 true]
def m167:ba A1 167 1 A167 V167=true:=by kernel_rfl
def YS:au:=(.cond 21 .skip (.exit 0))
def PL:au:=(.seq (.seqr (.drw [Zm 8 6,Zm 9 0,Zk 10 9,Zb 11 .lss 8 10,Zm 12 11,Zg 13 (.mv 0) 12 true,Zg 14 (.mv 6) 12 true,Zg 15 (.idx 10 13 14) 12 true,Zg 16 (.fad 0 15) 12 true,Zg 17 (.load 1 false 16) 12 true,Zg 18 (.fad 0 3) 12 true,Zg 19 (.load 1 false 18) 12 true,Zg 20 (.bin .lss 17 19) 12 true,Zo 21 (.pick 12 20 (Zy false))] []) [0,3,5,6,21] [3,5] YS) (.seq (.blk 1 (.reg [Zm 24 5,Zm 25 0,Zm 26 6,Zx 27 10 25 26,Zv 28 10 27,Zo 29 (.call 167 [28]),Zo 30 (.bsl 10 false [29]),Zo 31 (.app 10 112 true 24 30),Zm 5 31] [.s 5])) (.reg [Zm 22 6,Zd 23 .add 22 1,Zm 6 23] [])))
def FV:au:=(.seq (Zs [Zm 37 6,Zm 38 0,Zk 39 38,Zb 40 .lss 37 39] (.cond 40 .skip (.exit 2))) (.seq (.blk 3 (.reg [Zm 43 5,Zm 44 0,Zm 45 6,Zx 46 10 44 45,Zv 47 10 46,Zo 48 (.call 167 [47]),Zo 49 (.bsl 10 false [48]),Zo 50 (.app 10 112 true 43 49),Zm 5 50] [.s 5])) (.reg [Zm 41 6,Zd 42 .add 41 1,Zm 6 42] [])))
def YF:au:=(.seq (.reg [Zm 51 5,Zm 4 51] [.s 4]) .ret)
def ZV:au:=(.seq (.reg [Zm 32 5,Zv 33 10 3,Zo 34 (.call 167 [33]),Zo 35 (.bsl 10 false [34]),Zo 36 (.app 10 112 true 32 35),Zm 5 36] [.s 5]) (.seqr (.blk 2 (.loop FV)) [5] [5] YF))
def A93:au:=(.seq (.reg [Zo 3 (.box 10 1),Zo 4 (.mv (.c (.lst .u 10 [])))] [.s 4]) (.seq (.reg [Zo 7 (.bsl 10 false []),Zm 5 7] [.s 5]) (Zs [Zn 6 0] (.seqr (.blk 0 (.loop PL)) [0,3,5,6] [3,5] ZV))))
def m93:ba A1 93 2 A93 aK=true:=by kernel_rfl
def Zq:au:=(Zs [Zo 3 (.box 2 1),Zo 4 (.alloc (.agg [.i 0,.i 0,.i 0,.i 0]))] (Zs [Zm 7 0,Za 8 0 3,Zl 9 8,Zk 10 9,Zo 11 (.callM 129 [7,10] [1000000000]),Zm 5 11] (.seq (.drw [Zm 12 5,Zm 13 5,Zd 14 .add 13 1,Zm 15 0,Zo 16 (.fdv [27,1000000000] 0 3),Zo 17 (.ldv [27,1000000000] 1 false 16),Zk 18 17,Zd 19 .sub 18 1,Zo 20 (.callM 129 [15,19] [1000000000]),Zb 21 .add 14 20,Zo 22 (.fdv [27,1000000000] 0 3),Zo 23 (.ldv [27,1000000000] 1 false 22),Zo 24 (.lnv [27,1000000000] 23),Zb 25 .rem 21 24,Zm 26 0,Zo 27 (.bsl 1 true [(.c (.i 10)),(.c (.i 20)),(.c (.i 40)),(.c (.i 50)),(.c (.i 90)),(.c (.i 120))]),Zo 28 (.callM 151 [26,27] [1000000000,27]),Zm 29 0,Zo 30 (.callM 129 [29,(.c (.i 3))] [1000000000]),Zo 31 (.build [.i 0,.i 0,.i 0,.i 0] [(0,1,12),(1,1,25),(2,1,28),(3,1,30)]),Zo 6 (.alloc (.agg [.i 0,.i 0,.i 0,.i 0])),Zw (.store 4 6 31)] []) (.seq (Zs [Zm 32 0,Zo 33 (.callM 129 [32,(.c (.i 48))] [1000000000])] (.blk 0 (Zs [Zd 35 .eql 33 0,Zm 34 35] (.cond 34 (.reg [Zm 36 0,Zo 37 (.callM 129 [36,(.c (.i 10))] [1000000000]),Zd 38 .sub 37 1,Za 39 1 6,Zw (.store 1 39 38)] []) (Zs [Zd 41 .eql 33 1,Zm 40 41] (.cond 40 (.reg [Zm 42 0,Zo 43 (.bsl 1 false [(.c (.i 0)),(.c (.i 1)),(.c (.i 1000)),(.c (.i 1001))]),Zo 44 (.callM 151 [42,43] [1000000000,43]),Za 45 2 6,Zw (.store 1 45 44)] []) (Zs [Zd 47 .eql 33 2,Zm 46 47] (.cond 46 (.reg [Zm 48 0,Zo 49 (.bsl 1 false [(.c (.i (-1))),(.c (.i 3))]),Zo 50 (.callM 151 [48,49] [1000000000,49]),Za 51 3 6,Zw (.store 1 51 50)] []) .skip)))))))) (Zs [Zv 52 4 6,Zw (.store 4 4 52)] .ret)))))
def Lz:List RV:=[.c 4 4 true]
def ajn:ba A1 84 2 Zq Lz=true:=by kernel_rfl
def DM:au:=(.cond 29 (.seq (.reg [Zo 30 (.build [.i 0,.lst .u 1 []] []),Zw (.store 2 6 30),Zn 7 0,Zh 8 false] [.w 6]) .ret) .skip)
def YH:au:=(Zs [Zo 3 (.box 2 0),Zo 5 (.box 4 2),Zo 6 (.alloc (.agg [.i 0,.lst .u 1 []])),Zn 7 0,Zh 8 false] (.seq (.reg [Zv 14 2 3,Zm 15 1,Zv 16 4 5,Zo 17 (.callM 121 [14,15,16] [1000000000]),Zm 13 17,Ze 18 13 0,Ze 19 13 1,Ze 20 13 2,Zm 9 18,Zm 10 19,Zm 11 20] [.s 9,.s 10]) (Zs [Zm 21 9,Zm 22 10,Zo 23 (.call 164 [21,22]),Zm 12 23] (.seq (.seqr (.reg [Zm 24 11,Zo 25 (.un .not 24),Zm 26 25,Zg 27 (.mv 12) 26 false,Zg 28 (.bin .lss 27 (.c (.i 0))) 26 false,Zo 29 (.pick 26 (Zy true) 28)] []) [6,9,10,12,29] [6,9,10,1000000000] DM) (.seq (.drw [Zm 31 9,Zm 32 12,Zx 33 2 31 32,Zv 34 2 33,Zm 35 10,Zm 36 12,Zo 37 (.idv [6] 1 35 36),Zo 38 (.lde [6] 1 false 37),Zw (.stw 6 2 6 34),Zm 7 38,Zh 8 true] [.w 6]) .ret)))))
def Dw:List RV:=[.c 6 2 true,.t 7,.t 8]
def ajd:ba A1 89 3 YH Dw=true:=by kernel_rfl
def pM:au:=(.seq (.blk 1 (.seq (Zs [Zm 20 13,Zm 21 3,Zb 22 .add 20 21,Zd 23 .gtr 22 24] (.cond 23 (Zs [Zv 24 10 7,Zw (.store 10 10 24),Zh 11 false] .ret) .skip)) (Zs [Zm 25 13,Zm 26 3,Zo 27 (.build [.i 0,.i 0] [(0,1,25),(1,1,26)]),Za 28 4 12,Zw (.store 2 28 27)] (Zs [Zv 29 2 5,Zm 30 1,Zv 31 10 12,Zo 32 (.call 166 [29,30,31])] (.cond 32 (.exit 0) .skip))))) (.reg [Zm 18 13,Zd 19 .add 18 1,Zm 13 19] []))
def pT:au:=(.seq (Zs [Zm 40 14,Zm 41 4,Zb 42 .add 40 41,Zd 43 .leq 42 24] (.cond 43 .skip (.exit 2))) (.seq (.blk 3 (Zs [Zm 46 14,Zm 47 4,Zo 48 (.build [.i 0,.i 0] [(0,1,46),(1,1,47)]),Za 49 8 7,Zw (.store 2 49 48)] (Zs [Zv 50 2 5,Zm 51 1,Zv 52 10 7,Zo 53 (.call 166 [50,51,52])] (.cond 53 (Zs [Zv 54 10 7,Zw (.store 10 10 54),Zh 11 true] .ret) .skip)))) (.reg [Zm 44 14,Zd 45 .add 44 1,Zm 14 45] [])))
def El:au:=(Zs [Zv 55 10 7,Zw (.store 10 10 55),Zh 11 false] .ret)
def EI:au:=(Zs [Za 33 4 12,Zv 34 2 33,Za 35 4 7,Zw (.store 2 35 34)] (.seq (Zs [Za 36 1 7,Zl 37 36,Zd 38 .eql 37 0] (.cond 38 (Zs [Zv 39 10 7,Zw (.store 10 10 39),Zh 11 true] .ret) .skip)) (.seqa (.reg [Zn 14 0] []) (.blk 2 (.loop pT)) [7,10] [7,10,1000000000] El)))
def ZP:au:=(Zs [Zo 5 (.box 2 0),Zo 7 (.box 10 2),Zo 10 (.alloc (.agg [.i 0,.i 0,.i 0,.lst .u 1 [],.i 0,.i 0,.i 0,.lst .u 1 [],.i 0,.i 0])),Zh 11 false] (Zs [Za 15 2 7,Zv 16 2 15,Zo 17 (.build [.i 0,.i 0,.i 0,.lst .u 1 [],.i 0,.i 0,.i 0,.lst .u 1 [],.i 0,.i 0] [(1,1,(.c (.i 0))),(2,2,16)]),Zo 12 (.alloc (.agg [.i 0,.i 0,.i 0,.lst .u 1 [],.i 0,.i 0,.i 0,.lst .u 1 [],.i 0,.i 0])),Zw (.store 10 12 17)] (.seqa (.reg [Zn 13 0] []) (.blk 0 (.loop pM)) [1,4,5,7,10,12] [5,7,10,12,1000000000] EI)))
def gB:List RV:=[.c 10 10 true,.t 11]
def air:ba A1 92 5 ZP gB=true:=by kernel_rfl
def FI:au:=(.cond 32 (.seq (.reg [Zm 33 11,Zm 8 33,Zn 9 0,Zh 10 false] [.s 8]) .ret) .skip)
def Du:au:=(.cond 50 .skip (.exit 0))
def vO:au:=(.seq (.seqr (.drw [Zm 37 13,Zm 38 2,Zk 39 38,Zb 40 .lss 37 39,Zm 41 40,Zg 42 (.mv 2) 41 true,Zg 43 (.mv 13) 41 true,Zg 44 (.idx 10 42 43) 41 true,Zg 45 (.fad 0 44) 41 true,Zg 46 (.load 1 false 45) 41 true,Zg 47 (.fad 0 12) 41 true,Zg 48 (.load 1 false 47) 41 true,Zg 49 (.bin .eql 46 48) 41 true,Zo 50 (.pick 41 49 (Zy false))] []) [1,2,4,7,11,12,13,50] [4,7,11,12,1000000000,1000000001] Du) (.seq (.blk 1 (.reg [Za 53 0 12,Zl 54 53,Zd 55 .add 54 1,Za 56 0 12,Zw (.store 1 56 55)] [])) (.reg [Zm 51 13,Zd 52 .add 51 1,Zm 13 52] [])))
def Ec:au:=(.seq (.reg [Zv 94 2 14,Za 95 2 12,Zw (.store 2 95 94)] [.w 12]) (.seq (.drw [Zv 97 2 4,Zm 98 2,Zv 99 10 12,Zm 100 1,Zv 101 2 4,Zv 102 2 14,Zo 103 (.call 91 [101,102]),Za 104 2 7,Zl 105 104,Zo 106 (.call 90 [100,103,105]),Zm 107 17,Zo 108 (.callM 92 [97,98,99,106,107] [1000000001]),Zm 96 108,Ze 109 96 0,Ze 110 96 1,Zo 21 (.alloc (.agg [.i 0,.i 0,.i 0,.lst .u 1 [],.i 0,.i 0,.i 0,.lst .u 1 [],.i 0,.i 0])),Zw (.store 10 21 109),Zm 22 110] []) (.seq (Zs [Zm 111 22,Zo 112 (.un .not 111)] (.cond 112 (.seq (.reg [Zm 113 11,Zm 8 113,Zn 9 0,Zh 10 false] [.s 8]) .ret) .skip)) (.seq (.drw [Zm 114 2,Zv 115 10 21,Zo 116 (.call 93 [114,115]),Za 117 0 21,Zl 118 117,Zm 8 116,Zm 9 118,Zh 10 true] [.s 8]) .ret))))
def Er:au:=(.seq (Zs [Zm 80 16,Zo 81 (.un .not 80)] (.cond 81 (.seq (.reg [Zm 82 11,Zm 8 82,Zn 9 0,Zh 10 false] [.s 8]) .ret) .skip)) (.seqr (Zs [Za 83 3 7,Zl 84 83,Zd 85 .neq 84 0] (.cond 85 (.drw [Zm 86 1,Zv 87 2 4,Za 88 6 12,Zv 89 2 88,Zo 90 (.call 91 [87,89]),Za 91 2 7,Zl 92 91,Zo 93 (.call 90 [86,90,92]),Zm 17 93] []) .skip)) [1,2,4,7,11,12,14,17] [4,7,11,12,14,1000000000,1000000001] Ec))
def Eg:au:=(Zs [Zv 58 2 4,Zm 59 1,Zv 60 4 7,Zo 61 (.callM 89 [58,59,60] [1000000000]),Zm 57 61,Ze 62 57 0,Ze 63 57 1,Ze 64 57 2,Zo 14 (.alloc (.agg [.i 0,.lst .u 1 []])),Zw (.store 2 14 62),Zm 15 63,Zm 16 64] (Zs [Zn 17 0] (.seqr (Zs [Za 65 3 7,Zl 66 65,Zd 67 .neq 66 0] (.cond 67 (Zs [Zv 69 2 4,Zm 70 1,Zv 71 4 7,Zo 72 (.callM 44 [69,70,71] [1000000000]),Zm 68 72,Ze 73 68 0,Ze 74 68 1,Ze 75 68 2,Zo 18 (.alloc (.agg [.i 0,.lst .u 1 []])),Zo 19 (.alloc (.agg [.i 0,.lst .u 1 []])),Zw (.store 2 18 73),Zw (.store 2 19 74),Zm 20 75] (Zs [Zv 76 2 18,Zw (.store 2 14 76)] (Zs [Zm 77 20,Zm 16 77] (.reg [Zv 78 2 19,Za 79 6 12,Zw (.store 2 79 78)] [.w 12])))) .skip)) [1,2,4,7,11,12,14,16,17] [4,7,11,12,14,1000000000,1000000001] Er)))
def YE:au:=(.seq (.reg [Zo 4 (.box 2 0),Zo 7 (.box 4 3),Zo 8 (.mv (.c (.lst .u 10 []))),Zn 9 0,Zh 10 false] [.s 8,.w 4,.w 4]) (.seq (.reg [Zo 23 (.bsl 10 false []),Zm 11 23] [.s 11]) (.seq (.seqr (.reg [Zv 24 2 4,Zm 25 2,Zo 26 (.call 88 [24,25]),Zo 27 (.un .not 26),Zm 28 27,Zg 29 (.mv 2) 28 false,Zg 30 (.len 29) 28 false,Zg 31 (.bin .eql 30 (.c (.i 8))) 28 false,Zo 32 (.pick 28 (Zy true) 31)] []) [1,2,4,7,11,32] [4,7,11,1000000000,1000000001] FI) (.seq (.reg [Za 34 3 7,Zl 35 34,Zo 36 (.build [.i 0,.i 0,.i 0,.lst .u 1 [],.i 0,.i 0,.i 0,.lst .u 1 [],.i 0,.i 0] [(0,1,(.c (.i 1))),(1,1,35)]),Zo 12 (.alloc (.agg [.i 0,.i 0,.i 0,.lst .u 1 [],.i 0,.i 0,.i 0,.lst .u 1 [],.i 0,.i 0])),Zw (.store 10 12 36)] [.w 12,.w 12]) (.seqa (.reg [Zn 13 0] []) (.blk 0 (.loop vO)) [1,2,4,7,11,12] [4,7,11,12,1000000000,1000000001] Eg)))))
def kr:List RV:=[.t 8,.t 9,.t 10]
def ajp:ba A1 23 4 YE kr=true:=by kernel_rfl
def qC:au:=(.seq (Zs [Zm 19 7,Zd 20 .gtr 19 0] (.cond 20 .skip (.exit 0))) (.seq (.blk 1 (.seq (.drw [Zo 24 (.ldv [5,6,1000000000] 2 true 4),Zm 25 6,Zm 26 5,Zm 27 0,Zv 28 2 4,Zo 29 (.callM 84 [27,28] [1000000000]),Zo 30 (.callM 23 [24,25,26,29] [6,5]),Zm 23 30,Ze 31 23 0,Ze 32 23 1,Ze 33 23 2,Zm 8 31,Zm 9 32,Zm 10 33] [.s 8]) (Zs [Zm 34 10] (.cond 34 (.reg [Zm 35 8,Zm 5 35] [.s 5]) .skip)))) (.reg [Zm 21 7,Zd 22 .sub 21 1,Zm 7 22] [])))
def yL:au:=(.seq (.reg [Zv 36 2 4,Zm 37 5,Zw (.store 2 2 36),Zm 3 37] [.s 3]) .ret)
def Sh:au:=(.seq (.reg [Zo 2 (.alloc (.agg [.lst .u 1 [],.lst .u 4 []])),Zo 3 (.mv (.c (.lst .u 10 [])))] [.s 3]) (.seq (.reg [Zm 11 0,Zo 12 (.callM 207 [11] [1000000000]),Zo 4 (.alloc (.agg [.lst .u 1 [],.lst .u 4 []])),Zw (.store 2 4 12)] [.w 4,.w 4]) (.seq (.reg [Zo 13 (.bsl 10 false []),Zm 5 13] [.s 5]) (.seq (.reg [Zo 14 (.build [.i 0,.i 0] [(0,1,(.c (.i 3000))),(1,1,(.c (.i 10)))]),Zo 15 (.build [.i 0,.i 0] [(0,1,(.c (.i 900))),(1,1,(.c (.i 20)))]),Zo 16 (.bsl 2 false [14,15]),Zm 6 16] [.s 6]) (.seqa (.reg [Zm 17 0,Zo 18 (.callM 129 [17,(.c (.i 6))] [1000000000]),Zm 7 18] []) (.blk 0 (.loop qC)) [2,4,5] [2,4,5,1000000000] yL)))))
def mA:List RV:=[.c 2 2 true,.t 3]
def aez:ba A1 150 1 Sh mA=true:=by kernel_rfl
def Aa:au:=(.cond 53 (.reg [Zm 54 9,Zm 55 10,Zo 56 (.bsl 1 false [55]),Zo 57 (.app 1 8 true 54 56),Zm 9 57] [.s 9]) .skip)
def nA:au:=(.seq (Zs [Zm 30 10,Za 31 1 3,Zl 32 31,Zk 33 32,Zb 34 .lss 30 33] (.cond 34 .skip (.exit 2))) (.seq (.blk 3 (.seq (.drw [Zv 37 2 3,Zm 38 10,Zm 39 7,Zm 40 7,Zk 41 40,Zd 42 .sub 41 1,Zx 43 1 39 42,Zl 44 43,Zo 45 (.call 233 [37,38,44]),Zm 11 45] []) (.seqr (.reg [Zm 46 11,Zd 47 .geq 46 0,Zm 48 47,Zg 49 (.mv 7) 48 true,Zg 50 (.mv 11) 48 true,Zg 51 (.call 74 [49,50]) 48 true,Zg 52 (.un .not 51) 48 true,Zo 53 (.pick 48 52 (Zy false))] []) [0,3,4,6,7,8,9,10,53] [3,4,6,7,9,500000385,1000000000] Aa))) (.reg [Zm 35 10,Zd 36 .add 35 1,Zm 10 36] [])))
def zI:au:=(.seq (Zs [Zm 58 9,Zk 59 58,Zd 60 .eql 59 0] (.cond 60 (.exit 0) .skip)) (Zs [Zm 61 9,Zm 62 0,Zm 63 9,Zk 64 63,Zo 65 (.callM 129 [62,64] [1000000000]),Zx 66 1 61 65,Zl 67 66,Zm 12 67] (.seq (.reg [Za 68 1 6,Zl 69 68,Zm 70 12,Zo 71 (.bsl 1 false [70]),Zo 72 (.app 1 8 true 69 71),Za 73 1 6,Zw (.store 1 73 72)] [.f false 500000385 6 1]) (.drw [Zm 74 7,Zv 75 2 3,Zm 76 12,Zm 77 7,Zm 78 7,Zk 79 78,Zd 80 .sub 79 1,Zx 81 1 77 80,Zl 82 81,Zo 83 (.call 233 [75,76,82]),Zo 84 (.bsl 1 true [83]),Zo 85 (.app 1 8 true 74 84),Zm 7 85] [.s 7]))))
def nD:au:=(.seq (Zs [Zm 25 8,Zd 26 .gtr 25 0] (.cond 26 .skip (.exit 0))) (.seq (.blk 1 (.seq (.reg [Zo 29 (.bsl 1 false []),Zm 9 29] [.s 9]) (.seqa (.reg [Zn 10 0] []) (.blk 2 (.loop nA)) [0,3,4,6,7,8,9] [3,4,6,7,9,500000385,1000000000] zI))) (.reg [Zm 27 8,Zd 28 .sub 27 1,Zm 8 28] [])))
def zm:au:=(.seq (.reg [Zv 86 2 6,Zw (.store 2 4 86)] [.f false 500000257 4 1]) .ret)
def MY:au:=(Zs [Zo 3 (.box 2 1),Zo 4 (.alloc (.agg [.i 0,.lst .u 1 []]))] (Zs [Zm 13 0,Za 14 0 3,Zl 15 14,Zk 16 15,Zo 17 (.callM 129 [13,16] [1000000000]),Zm 5 17] (.seq (.reg [Zm 18 5,Zo 19 (.build [.i 0,.lst .u 1 []] [(0,1,18)]),Zo 6 (.alloc (.agg [.i 0,.lst .u 1 []])),Zw (.store 2 6 19)] [.f false 500000385 6 1]) (.seq (.reg [Zm 20 5,Zo 21 (.bsl 1 false [20]),Zm 7 21] [.s 7]) (.seqa (.reg [Zm 22 0,Zo 23 (.callM 129 [22,(.c (.i 4))] [1000000000]),Zo 24 (.bin .add (.c (.i 1)) 23),Zm 8 24] []) (.blk 0 (.loop nD)) [4,6] [4,6,500000385,1000000000] zm)))))
def oq:List RV:=[.c 4 2 true]
def agz:ba A1 208 2 MY oq=true:=by kernel_rfl
def RG:au:=(Zs [Zo 3 (.box 2 1),Zo 4 (.alloc (.agg [.i 0,.lst .u 1 []]))] (.seq (.reg [Zm 6 0,Zv 7 2 3,Zo 8 (.callM 208 [6,7] [1000000000]),Zo 5 (.alloc (.agg [.i 0,.lst .u 1 []])),Zw (.store 2 5 8)] [.f false 500000321 5 1]) (.seq (Zs [Zm 9 0,Zo 10 (.callM 129 [9,(.c (.i 16))] [1000000000])] (.blk 0 (Zs [Zd 12 .eql 10 0,Zm 11 12] (.cond 11 (.reg [Zm 13 0,Zo 14 (.callM 129 [13,(.c (.i 8))] [1000000000]),Zd 15 .sub 14 1,Za 16 0 5,Zw (.store 1 16 15)] []) (Zs [Zd 18 .eql 10 1,Zm 17 18] (.cond 17 (.drw [Zo 19 (.fdv [1000000000] 1 5),Zo 20 (.ldv [1000000000] 1 false 19),Zm 21 0,Zo 22 (.callM 129 [21,(.c (.i 8))] [1000000000]),Zd 23 .sub 22 1,Zo 24 (.bsl 1 true [23]),Zo 25 (.app 1 8 true 20 24),Za 26 1 5,Zw (.store 1 26 25)] [.f false 500000321 5 1]) (Zs [Zd 28 .eql 10 2,Zm 27 28] (.cond 27 (.reg [Zo 29 (.bsl 1 false []),Za 30 1 5,Zw (.store 1 30 29)] [.f false 500000321 5 1]) (Zs [Zd 32 .eql 10 3,Zm 31 32] (.cond 31 (Zs [Za 33 1 5,Zl 34 33,Zk 35 34,Zd 36 .gtr 35 1] (.cond 36 (.drw [Za 37 1 5,Zl 38 37,Za 39 1 5,Zl 40 39,Za 41 1 5,Zl 42 41,Zk 43 42,Zd 44 .sub 43 1,Zx 45 1 40 44,Zl 46 45,Zo 47 (.bsl 1 true [46]),Zo 48 (.app 1 8 true 38 47),Za 49 1 5,Zw (.store 1 49 48)] [.f false 500000321 5 1]) .skip)) .skip)))))))))) (.seq (.reg [Zv 50 2 5,Zw (.store 2 4 50)] [.f false 500000257 4 1]) .ret))))
def acv:ba A1 152 2 RG oq=true:=by kernel_rfl
def MO:au:=(Zs [Zo 2 (.alloc (.agg [.i 0,.i 0]))] (.seq (Zs [Zm 4 0,Zo 5 (.callM 130 [4,(.c (.i 12))] [1000000000])] (.cond 5 (Zs [Zm 6 0,Zo 7 (.callM 129 [6,(.c (.i 26))] [1000000000]),Zd 8 .sub 7 1,Zm 9 0,Zo 10 (.callM 129 [9,(.c (.i 27))] [1000000000]),Zd 11 .sub 10 1,Zo 12 (.build [.i 0,.i 0] [(0,1,8),(1,1,11)]),Zw (.store 2 2 12)] .ret) .skip)) (Zs [Zm 13 0,Zo 14 (.callM 129 [13,(.c (.i 6))] [1000000000]),Zo 15 (.bin .add (.c (.i 1)) 14),Zm 3 15] (Zs [Zm 16 0,Zm 17 3,Zo 18 (.bin .sub (.c (.i 24)) 17),Zd 19 .add 18 1,Zo 20 (.callM 129 [16,19] [1000000000]),Zm 21 3,Zo 22 (.build [.i 0,.i 0] [(0,1,20),(1,1,21)]),Zw (.store 2 2 22)] .ret))))
def afb:ba A1 153 1 MO dL=true:=by kernel_rfl
def MR:au:=(Zs [Zo 4 (.mv (.c (.z ⟨#[]⟩)))] (Zs [Zm 5 1,Zm 6 0,Zm 7 1,Zk 8 7,Zo 9 (.callM 129 [6,8] [1000000000]),Zx 10 1 5 9,Zl 11 10,Zm 4 11] .ret))
def adh:ba A1 210 2 MR aK=true:=by kernel_rfl
def mL:au:=(.seq (.seq (.drw [Zo 70 (.fdv [1000000000] 1 3),Zo 71 (.ldv [1000000000] 1 false 70),Zo 72 (.lnv [1000000000] 71),Zm 73 0,Zo 74 (.callM 129 [73,(.c (.i 2))] [1000000000]),Zo 75 (.bin .add (.c (.i 14)) 74),Zb 76 .lss 72 75] []) (.cond 76 .skip (.exit 1))) (.blk 2 (.drw [Za 77 1 3,Zl 78 77,Za 79 1 3,Zl 80 79,Za 81 1 3,Zl 82 81,Zk 83 82,Zd 84 .sub 83 1,Zx 85 4 80 84,Zv 86 4 85,Zo 87 (.bsl 4 true [86]),Zo 88 (.app 4 32 true 78 87),Za 89 1 3,Zw (.store 1 89 88)] [.f false 500000193 3 1])))
def yG:au:=(.seq (.reg [Zv 90 2 3,Zw (.store 2 2 90)] [.f false 500000128 2 0,.f false 500000129 2 1]) .ret)
def AQ:au:=(Zs [Za 98 1 3,Zl 99 98,Zm 100 4,Zv 101 4 5,Zx 102 4 99 100,Zw (.store 4 102 101)] (.seq (.reg [Zv 103 2 3,Zw (.store 2 2 103)] [.f false 500000128 2 0,.f false 500000129 2 1]) .ret))
def Qw:au:=(Zs [Zo 2 (.alloc (.agg [.lst .u 1 [],.lst .u 4 []]))] (.seq (.reg [Zm 6 0,Zo 7 (.callM 209 [6] [1000000000]),Zo 3 (.alloc (.agg [.lst .u 1 [],.lst .u 4 []])),Zw (.store 2 3 7)] [.f false 500000192 3 0,.f false 500000193 3 1]) (.seq (Zs [Za 8 1 3,Zl 9 8,Zk 10 9,Zd 11 .eql 10 0] (.cond 11 (.seq (.reg [Zv 12 2 3,Zw (.store 2 2 12)] [.f false 500000128 2 0,.f false 500000129 2 1]) .ret) .skip)) (Zs [Zm 13 0,Za 14 1 3,Zl 15 14,Zk 16 15,Zo 17 (.callM 129 [13,16] [1000000000]),Zm 4 17] (Zs [Za 18 1 3,Zl 19 18,Zm 20 4,Zx 21 4 19 20,Zv 22 4 21,Zo 5 (.alloc (.agg [.i 0,.i 0,.i 0,.i 0])),Zw (.store 4 5 22)] (.seqr (Zs [Zm 23 0,Zo 24 (.callM 129 [23,(.c (.i 24))] [1000000000])] (.blk 0 (Zs [Zd 26 .eql 24 0,Zm 25 26] (.cond 25 (.drw [Zo 27 (.fdv [30,1000000000] 0 3),Zo 28 (.ldv [30,1000000000] 1 false 27),Zm 29 0,Zo 30 (.bsl 1 true [(.c (.z ⟨#[98]⟩)),(.c (.z ⟨#[]⟩)),(.c (.z ⟨#[65]⟩)),(.c (.z ⟨#[97,98,99,100,101,102,103,104]⟩)),(.c (.z ⟨#[97,98,99,100,101,102,103,104,105]⟩)),(.c (.z ⟨#[120,49]⟩))]),Zo 31 (.callM 210 [29,30] [1000000000,30]),Zo 32 (.idx 1 28 (.c (.i 0))),Zw (.store 1 32 31)] []) (Zs [Zd 34 .eql 24 1,Zm 33 34] (.cond 33 (.reg [Zm 35 0,Zo 36 (.callM 129 [35,(.c (.i 8))] [1000000000]),Zd 37 .sub 36 1,Za 38 0 5,Zw (.store 1 38 37)] []) (Zs [Zd 40 .eql 24 2,Zm 39 40] (.cond 39 (.reg [Zm 41 0,Zo 42 (.callM 129 [41,(.c (.i 10))] [1000000000]),Zd 43 .sub 42 1,Za 44 1 5,Zw (.store 1 44 43)] []) (Zs [Zd 46 .eql 24 3,Zm 45 46] (.cond 45 (.reg [Zm 47 0,Zo 48 (.bsl 1 false [(.c (.i 0)),(.c (.i 1)),(.c (.i 5000)),(.c (.i 5001))]),Zo 49 (.callM 151 [47,48] [1000000000,48]),Za 50 2 5,Zw (.store 1 50 49)] []) (Zs [Zd 52 .eql 24 4,Zm 51 52] (.cond 51 (.reg [Zm 53 0,Zo 54 (.bsl 1 false [(.c (.i (-1))),(.c (.i 9)),(.c (.i 10))]),Zo 55 (.callM 151 [53,54] [1000000000,54]),Za 56 3 5,Zw (.store 1 56 55)] []) (Zs [Zd 58 .eql 24 5,Zm 57 58] (.cond 57 (.drw [Za 59 1 3,Zl 60 59,Za 61 1 3,Zl 62 61,Zo 63 (.idx 4 62 (.c (.i 0))),Zv 64 4 63,Zo 65 (.bsl 4 true [64]),Zo 66 (.app 4 32 true 60 65),Za 67 1 3,Zw (.store 1 67 66)] [.f false 500000193 3 1]) (Zs [Zd 69 .eql 24 6,Zm 68 69] (.cond 68 (.seqr (.blk 1 (.loop mL)) [2,3] [2,3,500000192,500000193,1000000000] yG) (Zs [Zd 92 .eql 24 7,Zm 91 92] (.cond 91 (.reg [Za 93 0 3,Zl 94 93,Zo 95 (.bsl 1 false [(.c (.z ⟨#[112]⟩)),(.c (.z ⟨#[113]⟩)),(.c (.z ⟨#[114]⟩)),(.c (.z ⟨#[115]⟩))]),Zo 96 (.app 1 16 true 94 95),Za 97 0 3,Zw (.store 1 97 96)] [.f false 500000192 3 0]) .skip)))))))))))))))))) [2,3,4,5] [2,3,5,500000192,500000193,1000000000] AQ))))))
def acq:ba A1 154 1 Qw dL=true:=by kernel_rfl
def DD:au:=(Zs [Zm 72 5,Zm 73 6,Zv 74 10 7,Zx 75 10 72 73,Zw (.store 10 75 74)] (.seq (.reg [Zv 76 2 4,Zm 77 5,Zw (.store 2 2 76),Zm 3 77] [.s 3]) .ret))
def ZR:au:=(.seq (.reg [Zo 2 (.alloc (.agg [.lst .u 1 [],.lst .u 4 []])),Zo 3 (.mv (.c (.lst .u 10 [])))] [.s 3]) (.seq (.reg [Zm 9 0,Zo 10 (.callM 150 [9] [1000000000]),Zm 8 10,Ze 11 8 0,Ze 12 8 1,Zo 4 (.alloc (.agg [.lst .u 1 [],.lst .u 4 []])),Zw (.store 2 4 11),Zm 5 12] [.s 5,.w 4,.w 4,.w 5]) (.seq (Zs [Zm 13 5,Zk 14 13,Zd 15 .eql 14 0] (.cond 15 (.seq (.reg [Zv 16 2 4,Zm 17 5,Zw (.store 2 2 16),Zm 3 17] [.s 3]) .ret) .skip)) (Zs [Zm 18 0,Zm 19 5,Zk 20 19,Zo 21 (.callM 129 [18,20] [1000000000]),Zm 6 21] (.seq (.reg [Zm 22 5,Zm 23 6,Zx 24 10 22 23,Zv 25 10 24,Zo 7 (.alloc (.agg [.i 0,.i 0,.i 0,.lst .u 1 [],.i 0,.i 0,.i 0,.lst .u 1 [],.i 0,.i 0])),Zw (.store 10 7 25)] [.w 7,.w 7]) (.seqr (Zs [Zm 26 0,Zo 27 (.callM 129 [26,(.c (.i 24))] [1000000000])] (.blk 0 (Zs [Zd 29 .eql 27 0,Zm 28 29] (.cond 28 (.reg [Zm 30 0,Zo 31 (.bsl 1 false [(.c (.i 0)),(.c (.i 999)),(.c (.i 1000)),(.c (.i 500)),(.c (.i 1))]),Zo 32 (.callM 151 [30,31] [1000000000,31]),Za 33 0 7,Zw (.store 1 33 32)] []) (Zs [Zd 35 .eql 27 1,Zm 34 35] (.cond 34 (.reg [Zm 36 0,Zo 37 (.callM 129 [36,(.c (.i 5))] [1000000000]),Zd 38 .sub 37 1,Za 39 1 7,Zw (.store 1 39 38)] []) (Zs [Zd 41 .eql 27 2,Zm 40 41] (.cond 40 (.reg [Zm 42 0,Zv 43 2 4,Zo 44 (.callM 152 [42,43] [1000000000]),Za 45 2 7,Zw (.store 2 45 44)] [.w 7]) (Zs [Zd 47 .eql 27 3,Zm 46 47] (.cond 46 (.reg [Zm 48 0,Zo 49 (.callM 153 [48] [1000000000]),Za 50 4 7,Zw (.store 2 50 49)] []) (Zs [Zd 52 .eql 27 4,Zm 51 52] (.cond 51 (.reg [Zm 53 0,Zv 54 2 4,Zo 55 (.callM 152 [53,54] [1000000000]),Za 56 6 7,Zw (.store 2 56 55)] [.w 7]) (Zs [Zd 58 .eql 27 5,Zm 57 58] (.cond 57 (.reg [Zm 59 0,Zo 60 (.callM 153 [59] [1000000000]),Za 61 8 7,Zw (.store 2 61 60)] []) (Zs [Zd 63 .eql 27 6,Zm 62 63] (.cond 62 (.reg [Zm 64 5,Zv 65 10 7,Zo 66 (.bsl 10 false [65]),Zo 67 (.app 10 112 true 64 66),Zm 5 67] [.s 5]) (Zs [Zd 69 .eql 27 7,Zm 68 69] (.cond 68 (.reg [Zm 70 0,Zo 71 (.callM 154 [70] [1000000000]),Zw (.store 2 4 71)] [.w 4,.w 4]) .skip)))))))))))))))))) [2,4,5,6,7] [2,4,5,7,1000000000] DD))))))
def aid:ba A1 82 1 ZR mA=true:=by kernel_rfl
def vH:au:=(.cond 23 (.reg [Zm 24 3,Zo 25 (.slc 2 24 (some (.c (.i 1))) none none),Zm 3 25] [.s 3]) .skip)
def pW:au:=(.seq (Zs [Zm 53 3,Zk 54 53,Zm 55 0,Zo 56 (.callM 129 [55,(.c (.i 2))] [1000000000]),Zo 57 (.bin .add (.c (.i 6)) 56),Zb 58 .lss 54 57] (.cond 58 .skip (.exit 1))) (.seq (.blk 2 (.reg [Zm 61 3,Zm 62 6,Zo 63 (.bin .mul (.c (.i 10)) 62),Zo 64 (.bin .sub (.c (.i 200)) 63),Zm 65 6,Zo 66 (.bin .add (.c (.i 90)) 65),Zo 67 (.build [.i 0,.i 0] [(0,1,64),(1,1,66)]),Zo 68 (.bsl 2 false [67]),Zo 69 (.app 2 16 true 61 68),Zm 3 69] [.s 3])) (.reg [Zm 59 6,Zd 60 .add 59 1,Zm 6 60] [])))
def Eb:au:=(.seq (.reg [Zm 70 3,Zm 2 70] [.s 2]) .ret)
def FA:au:=(Zs [Zm 71 3,Zm 72 4,Zv 73 2 5,Zx 74 2 71 72,Zw (.store 2 74 73)] (.seq (.reg [Zm 75 3,Zm 2 75] [.s 2]) .ret))
def Ez:au:=(Zs [Zm 26 0,Zm 27 3,Zk 28 27,Zo 29 (.callM 129 [26,28] [1000000000]),Zm 4 29] (Zs [Zm 30 3,Zm 31 4,Zx 32 2 30 31,Zv 33 2 32,Zo 5 (.alloc (.agg [.i 0,.i 0])),Zw (.store 2 5 33)] (.seqr (Zs [Zm 34 0,Zo 35 (.callM 129 [34,(.c (.i 24))] [1000000000])] (.blk 0 (Zs [Zd 37 .eql 35 0,Zm 36 37] (.cond 36 (.reg [Zm 38 0,Zo 39 (.bsl 1 false [(.c (.i 0)),(.c (.i 20000)),(.c (.i 20001)),(.c (.i 250))]),Zo 40 (.callM 151 [38,39] [1000000000,39]),Za 41 0 5,Zw (.store 1 41 40)] []) (Zs [Zd 43 .eql 35 1,Zm 42 43] (.cond 42 (.reg [Zm 44 0,Zo 45 (.bsl 1 false [(.c (.i 0)),(.c (.i 1000)),(.c (.i 1001)),(.c (.i 10))]),Zo 46 (.callM 151 [44,45] [1000000000,45]),Za 47 1 5,Zw (.store 1 47 46)] []) (Zs [Zd 49 .eql 35 2,Zm 48 49] (.cond 48 (.seq (.reg [Zo 50 (.bsl 2 false []),Zm 2 50] [.s 2]) .ret) (Zs [Zd 52 .eql 35 3,Zm 51 52] (.cond 51 (.seqa (.reg [Zn 6 0] []) (.blk 1 (.loop pW)) [3] [3,1000000000] Eb) .skip)))))))))) [3,4,5] [3,5,1000000000] FA)))
def YK:au:=(.seq (.reg [Zo 2 (.mv (.c (.lst .u 2 [])))] [.s 2]) (.seq (.reg [Zo 7 (.build [.i 0,.i 0] [(0,1,(.c (.i 3000))),(1,1,(.c (.i 10)))]),Zo 8 (.build [.i 0,.i 0] [(0,1,(.c (.i 1200))),(1,1,(.c (.i 20)))]),Zo 9 (.build [.i 0,.i 0] [(0,1,(.c (.i 600))),(1,1,(.c (.i 40)))]),Zo 10 (.build [.i 0,.i 0] [(0,1,(.c (.i 250))),(1,1,(.c (.i 80)))]),Zo 11 (.bsl 2 false [7,8,9,10]),Zm 3 11] [.s 3]) (.seq (.reg [Zm 12 3,Zm 13 0,Zo 14 (.callM 129 [13,(.c (.i 4))] [1000000000]),Zo 15 (.bin .add (.c (.i 1)) 14),Zo 16 (.slc 2 12 none (some 15) none),Zm 3 16] [.s 3]) (.seqr (Zs [Zm 17 0,Zo 18 (.callM 130 [17,(.c (.i 3))] [1000000000]),Zm 19 18,Zg 20 (.mv 3) 19 true,Zg 21 (.len 20) 19 true,Zg 22 (.bin .gtr 21 (.c (.i 1))) 19 true,Zo 23 (.pick 19 22 (Zy false))] vH) [0,3] [3,1000000000] Ez))))
def ahb:ba A1 83 1 YK V10=true:=by kernel_rfl
def YZ:au:=(.seq (.reg [Zo 2 (.alloc (.agg [.lst .u 1 [],.lst .u 4 []])),Zo 3 (.mv (.c (.lst .u 2 []))),Zo 4 (.mv (.c (.lst .u 10 []))),Zo 5 (.alloc (.agg [.i 0,.i 0,.i 0,.i 0]))] [.s 3,.s 4]) (Zs [Zm 9 0,Zo 10 (.build [.lst .u 1 [],.i 0,.sc (.int .u64 0)] [(0,1,9)]),Zo 11 (.box 3 10),Zm 6 11] (.seq (.reg [Zm 13 6,Zo 14 (.callM 82 [13] [11]),Zm 12 14,Ze 15 12 0,Ze 16 12 1,Zo 7 (.alloc (.agg [.lst .u 1 [],.lst .u 4 []])),Zw (.store 2 7 15),Zm 8 16] [.s 8]) (.seq (.drw [Zo 17 (.ldv [11] 2 true 7),Zm 18 6,Zo 19 (.callM 83 [18] [11]),Zm 20 8,Zm 21 6,Zo 22 (.ldv [11] 2 true 7),Zo 23 (.callM 84 [21,22] [11]),Zw (.stv 2 2 17),Zm 3 19,Zm 4 20,Zw (.store 4 5 23)] [.s 3,.s 4]) .ret))))
def QU:List RV:=[.c 2 2 true,.t 3,.t 4,.c 5 4 true]
def ahh:ba A1 21 1 YZ QU=true:=by kernel_rfl
def A76:au:=(Zs [Zh 6 false] (Zs [Zm 7 1,Zm 8 0,Zb 9 .leq 7 8,Zm 10 9,Zg 11 (.mv 0) 10 true,Zg 12 (.mv 2) 10 true,Zg 13 (.bin .leq 11 12) 10 true,Zo 14 (.pick 10 13 (Zy false)),Zm 6 14] .ret))
def m76:ba A1 76 3 A76 dt=true:=by kernel_rfl
def Kt:au:=(Zs [Zm 31 4,Zo 32 (.un .not 31),Zm 33 32,Zg 34 (.mv 5) 33 true,Zg 35 (.un .not 34) 33 true,Zg 36 (.mv 35) 33 true,Zg 37 (.mv 3) 36 false,Zg 38 (.bin .eql 37 (.c (.i 0))) 36 false,Zg 39 (.pick 36 (Zy true) 38) 33 true,Zo 40 (.pick 33 39 (Zy false))] (.cond 40 (Zs [Zh 2 false] .ret) .skip))
def BA:au:=(Zs [Zb 9 .lss 8 7] (.seq (.cond 9 .skip (.exit 0)) (.seq (.blk 1 (Zs [Zm 10 8,Zm 3 10] (.seqr (.drw [Zm 11 0,Zm 12 3,Zo 13 (.stri 11 12),Zo 14 (.bin .geq 13 (.c (.sc (.int .u8 97)))),Zm 15 14,Zg 16 (.mv 0) 15 true,Zg 17 (.mv 3) 15 true,Zg 18 (.stri 16 17) 15 true,Zg 19 (.bin .leq 18 (.c (.sc (.int .u8 122)))) 15 true,Zo 20 (.pick 15 19 (Zy false)),Zm 21 0,Zm 22 3,Zo 23 (.stri 21 22),Zo 24 (.bin .geq 23 (.c (.sc (.int .u8 48)))),Zm 25 24,Zg 26 (.mv 0) 25 true,Zg 27 (.mv 3) 25 true,Zg 28 (.stri 26 27) 25 true,Zg 29 (.bin .leq 28 (.c (.sc (.int .u8 57)))) 25 true,Zo 30 (.pick 25 29 (Zy false)),Zm 4 20,Zm 5 30] []) [0,3,4,5,7,8] [] Kt))) (.reg [Zd 41 .add 8 1,Zm 8 41] []))))
def QB:au:=(Zs [Zm 42 0,Zo 43 (.lenz 42),Zo 44 (.call 76 [43,(.c (.i 1)),(.c (.i 8))]),Zm 2 44] .ret)
def A147:au:=(Zs [Zh 2 false] (.seqa (.reg [Zm 6 0,Zo 7 (.lenz 6),Zn 8 0] []) (.blk 0 (.loop BA)) [0] [] QB))
def m147:ba A1 147 1 A147 V10=true:=by kernel_rfl
def vK:au:=(Zs [Zb 9 .lss 8 7] (.seq (.cond 9 .skip (.exit 0)) (.seq (.blk 1 (Zs [Zm 10 8,Zm 5 10] (Zs [Zm 11 1,Zm 12 0,Zm 13 5,Zx 14 1 12 13,Zl 15 14,Zb 16 .eql 11 15] (.cond 16 (Zs [Zm 17 5,Zm 4 17] .ret) .skip)))) (.reg [Zd 18 .add 8 1,Zm 8 18] []))))
def Rf:au:=(Zs [Zn 4 (-1)] .ret)
def A206:au:=(Zs [Zn 4 0] (.seqa (.reg [Zm 6 0,Zk 7 6,Zn 8 0] []) (.blk 0 (.loop vK)) [] [] Rf))
def m206:ba A1 206 2 A206 aK=true:=by kernel_rfl
def A148:au:=(Zs [Zh 4 false] (Zs [Zm 5 0,Zm 6 1,Zo 7 (.call 206 [5,6]),Zd 8 .geq 7 0,Zm 4 8] .ret))
def m148:ba A1 148 2 A148 aK=true:=by kernel_rfl
def A224:au:=(Zs [Zh 2 false] (Zs [Zm 3 0,Zm 4 0,Zb 5 .neq 3 4,Zm 2 5] .ret))
def m224:ba A1 224 1 A224 V10=true:=by kernel_rfl
def adx:au:=(Zs [Zn 4 0] (Zs [Zm 7 0,Zo 8 (.call 224 [7]),Zm 5 8] (Zs [Zm 9 1,Zo 10 (.call 224 [9]),Zm 6 10] (.seq (Zs [Zm 11 5] (.cond 11 (.seq (Zs [Zm 12 6] (.cond 12 (Zs [Zn 4 0] .ret) .skip)) (Zs [Zn 4 (-1)] .ret)) .skip)) (.seq (Zs [Zm 13 6] (.cond 13 (Zs [Zn 4 1] .ret) .skip)) (.seq (Zs [Zm 14 0,Zm 15 1,Zb 16 .lss 14 15] (.cond 16 (Zs [Zn 4 (-1)] .ret) .skip)) (.seq (Zs [Zm 17 0,Zm 18 1,Zb 19 .gtr 17 18] (.cond 19 (Zs [Zn 4 1] .ret) .skip)) (Zs [Zn 4 0] .ret))))))))
def m189:ba A1 189 2 adx aK=true:=by kernel_rfl
def wQ:au:=(Zs [Zb 9 .lss 8 7] (.seq (.cond 9 .skip (.exit 0)) (.seq (.blk 1 (Zs [Zx 10 1 6 8,Zl 11 10,Zm 5 11] (Zs [Zm 12 5,Zm 13 3,Zb 14 .neq 12 13] (.cond 14 (Zs [Zm 15 5,Zm 2 15] .ret) .skip)))) (.reg [Zd 16 .add 8 1,Zm 8 16] []))))
def MG:au:=(Zs [Zm 17 3,Zm 2 17] .ret)
def A188:au:=(Zs [Zn 2 0] (Zs [Zn 3 0] (.seqa (.reg [Zm 6 0,Zk 7 6,Zn 8 0] []) (.blk 0 (.loop wQ)) [3] [] MG)))
def m188:ba A1 188 1 A188 V10=true:=by kernel_rfl
def A149:au:=(Zs [Zo 2 (.box 4 0),Zo 3 (.box 4 1),Zn 4 0] (.seq (.drw [Za 5 0 2,Zl 6 5,Za 7 0 3,Zl 8 7,Zo 9 (.call 189 [6,8]),Za 10 1 2,Zl 11 10,Za 12 1 3,Zl 13 12,Zo 14 (.call 189 [11,13]),Za 15 2 2,Zl 16 15,Za 17 2 3,Zl 18 17,Zo 19 (.call 189 [16,18]),Za 20 3 2,Zl 21 20,Za 22 3 3,Zl 23 22,Zo 24 (.call 189 [21,23]),Zo 25 (.bsl 1 true [9,14,19,24]),Zo 26 (.call 188 [25]),Zm 4 26] []) .ret))
def m149:ba A1 149 2 A149 aK=true:=by kernel_rfl
def RI:au:=(Zs [Zb 11 .lss 10 9] (.seq (.cond 11 .skip (.exit 0)) (.seq (.blk 1 (Zs [Zm 12 10,Zx 13 1 8 10,Zl 14 13,Zm 3 12,Zm 4 14] (Zs [Zm 15 4,Zo 16 (.call 147 [15]),Zo 17 (.un .not 16),Zm 18 17,Zg 19 (.fad 0 1) 18 false,Zg 20 (.load 1 false 19) 18 false,Zg 21 (.mv 3) 18 false,Zg 22 (.slc 1 20 none (some 21) none) 18 false,Zg 23 (.mv 4) 18 false,Zg 24 (.call 148 [22,23]) 18 false,Zo 25 (.pick 18 (Zy true) 24)] (.cond 25 (Zs [Zh 2 false] .ret) .skip)))) (.reg [Zd 26 .add 10 1,Zm 10 26] []))))
def EP:au:=(Zs [Zb 31 .lss 30 29] (.seq (.cond 31 .skip (.exit 2)) (.seq (.blk 3 (Zs [Zm 32 30,Zx 33 4 28 30,Zv 34 4 33,Zo 6 (.alloc (.agg [.i 0,.i 0,.i 0,.i 0])),Zm 5 32,Zw (.store 4 6 34)] (.seq (.drw [Za 35 0 6,Zl 36 35,Zd 37 .lss 36 0,Zm 38 37,Zg 39 (.fad 0 6) 38 false,Zg 40 (.load 1 false 39) 38 false,Zg 41 (.fad 1 6) 38 false,Zg 42 (.load 1 false 41) 38 false,Zg 43 (.bin .geq 40 42) 38 false,Zo 44 (.pick 38 (Zy true) 43),Zm 45 44,Zg 46 (.fad 1 6) 45 false,Zg 47 (.load 1 false 46) 45 false,Zg 48 (.fad 0 1) 45 false,Zg 49 (.load 1 false 48) 45 false,Zg 50 (.len 49) 45 false,Zg 51 (.bin .geq 47 50) 45 false,Zo 52 (.pick 45 (Zy true) 51),Zm 53 52,Zg 54 (.fad 2 6) 53 false,Zg 55 (.load 1 false 54) 53 false,Zg 56 (.call 76 [55,(.c (.i 1)),(.c (.i 5000))]) 53 false,Zg 57 (.un .not 56) 53 false,Zo 58 (.pick 53 (Zy true) 57),Zm 59 58,Zg 60 (.fad 3 6) 59 false,Zg 61 (.load 1 false 60) 59 false,Zg 62 (.call 76 [61,(.c (.i 0)),(.c (.i 9))]) 59 false,Zg 63 (.un .not 62) 59 false,Zo 64 (.pick 59 (Zy true) 63),Zm 65 64,Zg 66 (.mv 5) 65 false,Zg 67 (.bin .gtr 66 (.c (.i 0))) 65 false,Zg 68 (.mv 67) 65 false,Zg 69 (.fad 1 1) 68 true,Zg 70 (.load 1 false 69) 68 true,Zg 71 (.mv 5) 68 true,Zg 72 (.bin .sub 71 (.c (.i 1))) 68 true,Zg 73 (.idx 4 70 72) 68 true,Zg 74 (.load 4 true 73) 68 true,Zg 75 (.load 4 true 6) 68 true,Zg 76 (.call 149 [74,75]) 68 true,Zg 77 (.bin .gtr 76 (.c (.i 0))) 68 true,Zg 78 (.pick 68 77 (Zy false)) 65 false,Zo 79 (.pick 65 (Zy true) 78)] []) (.cond 79 (Zs [Zh 2 false] .ret) .skip)))) (.reg [Zd 80 .add 30 1,Zm 30 80] []))))
def Zc:au:=(Zs [Za 81 0 1,Zl 82 81,Zk 83 82,Zo 84 (.call 76 [83,(.c (.i 2)),(.c (.i 8))]),Zm 85 84,Zg 86 (.fad 1 1) 85 true,Zg 87 (.load 1 false 86) 85 true,Zg 88 (.len 87) 85 true,Zg 89 (.bin .leq 88 (.c (.i 14))) 85 true,Zo 90 (.pick 85 89 (Zy false)),Zm 2 90] .ret)
def YL:au:=(.seqa (.reg [Za 27 1 1,Zl 28 27,Zk 29 28,Zn 30 0] []) (.blk 2 (.loop EP)) [1] [1] Zc)
def A81:au:=(Zs [Zo 1 (.box 2 0),Zh 2 false] (.seqa (.reg [Za 7 0 1,Zl 8 7,Zk 9 8,Zn 10 0] []) (.blk 0 (.loop RI)) [1] [1] YL))
def m81:ba A1 81 1 A81 V10=true:=by kernel_rfl
def A215:au:=(Zs [Zo 2 (.box 4 0),Zn 4 0] (.seq (Zs [Zm 5 1] (.blk 0 (Zs [Za 7 0 2,Zl 8 7,Zb 9 .eql 5 8,Zm 6 9] (.cond 6 (Zs [Za 10 1 2,Zl 11 10,Zm 4 11] .ret) (Zs [Za 13 1 2,Zl 14 13,Zb 15 .eql 5 14,Zm 12 15] (.cond 12 (Zs [Za 16 0 2,Zl 17 16,Zm 4 17] .ret) .skip)))))) (Zs [Zn 4 (-1)] .ret)))
def m215:ba A1 215 2 A215 aK=true:=by kernel_rfl
def wm:au:=(Zs [Zb 9 .lss 8 7] (.seq (.cond 9 .skip (.exit 0)) (.seq (.blk 1 (Zs [Zm 10 8,Zm 5 10] (Zs [Zm 11 1,Zm 12 0,Zm 13 5,Zx 14 1 12 13,Zl 15 14,Zb 16 .eql 11 15] (.cond 16 (Zs [Zm 17 5,Zm 4 17] .ret) .skip)))) (.reg [Zd 18 .add 8 1,Zm 8 18] []))))
def Se:au:=(Zs [Zn 4 (-1)] .ret)
def A139:au:=(Zs [Zn 4 0] (.seqa (.reg [Zm 6 0,Zk 7 6,Zn 8 0] []) (.blk 0 (.loop wm)) [] [] Se))
def m139:ba A1 139 2 A139 aK=true:=by kernel_rfl
def A68:au:=(Zs [Zh 4 false] (Zs [Zm 5 0,Zm 6 1,Zo 7 (.call 139 [5,6]),Zd 8 .geq 7 0,Zm 4 8] .ret))
def m68:ba A1 68 2 A68 aK=true:=by kernel_rfl
def RH:au:=(.cond 23 (.seq (.reg [Zo 4 (.mv (.c (.lst .u 1 []))),Zh 5 false] [.s 4]) .ret) .skip)
def PH:au:=(.cond 56 (.seq (.reg [Zo 4 (.mv (.c (.lst .u 1 []))),Zh 5 false] [.s 4]) .ret) .skip)
def Bz:au:=(Zs [Zb 33 .lss 32 31] (.seq (.cond 33 .skip (.exit 0)) (.seq (.blk 1 (Zs [Zx 34 1 30 32,Zl 35 34,Zm 9 35] (.seq (Zs [Zm 36 9,Za 37 1 2,Zl 38 37,Zk 39 38,Zd 40 .sub 39 1,Zo 41 (.call 76 [36,(.c (.i 0)),40]),Zo 42 (.un .not 41)] (.cond 42 (.seq (.reg [Zo 4 (.mv (.c (.lst .u 1 []))),Zh 5 false] [.s 4]) .ret) .skip)) (Zs [Za 43 1 2,Zl 44 43,Zm 45 9,Zx 46 4 44 45,Zv 47 4 46,Zm 48 7,Zo 49 (.call 215 [47,48]),Zm 7 49] (.seq (.seqr (.reg [Zm 50 7,Zd 51 .lss 50 0,Zm 52 51,Zg 53 (.mv 6) 52 false,Zg 54 (.mv 7) 52 false,Zg 55 (.call 68 [53,54]) 52 false,Zo 56 (.pick 52 (Zy true) 55)] []) [2,6,7,30,31,32,56] [2,6] PH) (.reg [Zm 57 6,Zm 58 7,Zo 59 (.bsl 1 false [58]),Zo 60 (.app 1 8 true 57 59),Zm 6 60] [.s 6])))))) (.reg [Zd 61 .add 32 1,Zm 32 61] []))))
def Mo:au:=(.seq (.reg [Zm 62 6,Zm 4 62,Zh 5 true] [.s 4]) .ret)
def A168:au:=(.seq (.reg [Zo 2 (.box 2 0),Zo 3 (.box 2 1),Zo 4 (.mv (.c (.lst .u 1 []))),Zh 5 false] [.s 4]) (.seq (.seqr (.reg [Za 10 0 3,Zl 11 10,Za 12 0 2,Zl 13 12,Zk 14 13,Zd 15 .sub 14 1,Zo 16 (.call 76 [11,(.c (.i 0)),15]),Zo 17 (.un .not 16),Zm 18 17,Zg 19 (.fad 1 3) 18 false,Zg 20 (.load 1 false 19) 18 false,Zg 21 (.len 20) 18 false,Zg 22 (.bin .eql 21 (.c (.i 0))) 18 false,Zo 23 (.pick 18 (Zy true) 22)] []) [2,3,23] [2,3] RH) (.seq (.drw [Za 24 0 3,Zl 25 24,Zo 26 (.bsl 1 true [25]),Za 27 0 3,Zl 28 27,Zm 6 26,Zm 7 28] [.s 6]) (.seqa (.reg [Za 29 1 3,Zl 30 29,Zk 31 30,Zn 32 0] []) (.blk 0 (.loop Bz)) [6] [6] Mo))))
def m168:ba A1 168 2 A168 lC=true:=by kernel_rfl
def A169:au:=(Zs [Zo 1 (.box 2 0),Zh 2 false] (Zs [Za 3 0 1,Zl 4 3,Zd 5 .geq 4 0,Zm 6 5,Zg 7 (.fad 1 1) 6 true,Zg 8 (.load 1 false 7) 6 true,Zg 9 (.call 76 [8,(.c (.i 1)),(.c (.i 24))]) 6 true,Zo 10 (.pick 6 9 (Zy false)),Zm 11 10,Zg 12 (.fad 0 1) 11 true,Zg 13 (.load 1 false 12) 11 true,Zg 14 (.fad 1 1) 11 true,Zg 15 (.load 1 false 14) 11 true,Zg 16 (.bin .sub (.c (.i 24)) 15) 11 true,Zg 17 (.bin .leq 13 16) 11 true,Zo 18 (.pick 11 17 (Zy false)),Zm 2 18] .ret))
def m169:ba A1 169 1 A169 V10=true:=by kernel_rfl
def DY:au:=(Zs [Zb 20 .lss 19 18] (.seq (.cond 20 .skip (.exit 2)) (.seq (.blk 3 (Zs [Zm 21 19,Zx 22 4 17 19,Zv 23 4 22,Zo 7 (.alloc (.agg [.i 0,.i 0,.i 0,.i 0])),Zm 6 21,Zw (.store 4 7 23)] (Zs [Za 24 3 7,Zl 25 24,Zm 26 4,Zb 27 .eql 25 26] (.cond 27 (.reg [Zm 28 5,Zm 29 6,Zo 30 (.bsl 1 false [29]),Zo 31 (.app 1 8 true 28 30),Zm 5 31] [.s 5]) .skip)))) (.reg [Zd 32 .add 19 1,Zm 19 32] []))))
def aaa:au:=(Zs [Zm 33 5,Zk 34 33,Zd 35 .gtr 34 0] (.cond 35 (.reg [Zm 36 3,Zm 37 5,Zo 38 (.bsl 1 false [37]),Zo 39 (.app 1 24 true 36 38),Zm 3 39] [.s 3]) .skip))
def Ed:au:=(.seq (Zs [Zm 11 4,Zd 12 .leq 11 9] (.cond 12 .skip (.exit 0))) (.seq (.blk 1 (.seq (.reg [Zo 15 (.bsl 1 false []),Zm 5 15] [.s 5]) (.seqa (.reg [Za 16 1 1,Zl 17 16,Zk 18 17,Zn 19 0] []) (.blk 2 (.loop DY)) [1,3,4,5] [1,3,5] aaa))) (.reg [Zm 13 4,Zd 14 .add 13 1,Zm 4 14] [])))
def DR:au:=(Zs [Zb 44 .lss 43 42] (.seq (.cond 44 .skip (.exit 4)) (.seq (.blk 5 (Zs [Zm 45 43,Zx 46 4 41 43,Zv 47 4 46,Zo 9 (.alloc (.agg [.i 0,.i 0,.i 0,.i 0])),Zm 8 45,Zw (.store 4 9 47)] (Zs [Za 48 3 9,Zl 49 48,Zd 50 .eql 49 0] (.cond 50 (.reg [Zm 51 3,Zm 52 8,Zo 53 (.bsl 1 false [52]),Zo 54 (.bsl 1 false [53]),Zo 55 (.app 1 24 true 51 54),Zm 3 55] [.s 3]) .skip)))) (.reg [Zd 56 .add 43 1,Zm 43 56] []))))
def Yv:au:=(.seq (.reg [Zm 57 3,Zm 2 57] [.s 2]) .ret)
def YN:au:=(.seqa (.reg [Za 40 1 1,Zl 41 40,Zk 42 41,Zn 43 0] []) (.blk 4 (.loop DR)) [3] [3] Yv)
def A78:au:=(.seq (.reg [Zo 1 (.box 2 0),Zo 2 (.mv (.c (.lst .u 1 [])))] [.s 2]) (.seq (.reg [Zo 10 (.bsl 1 false []),Zm 3 10] [.s 3]) (.seqa (.reg [Zn 4 1] []) (.blk 0 (.loop Ed)) [1,3] [1,3] YN)))
def m78:ba A1 78 1 A78 V10=true:=by kernel_rfl
def A248:au:=(Zs [Zh 3 false] (Zs [Zm 4 0,Zl 5 1,Zo 6 (.call 68 [4,5]),Zm 3 6] .ret))
def tU:List RV:=[.t 3]
def m248:ba A1 248 2 A248 tU=true:=by kernel_rfl
def CQ:au:=(Zs [Zb 9 .lss 8 7] (.seq (.cond 9 .skip (.exit 0)) (.seq (.blk 1 (Zs [Zm 10 8,Zm 5 10] (Zs [Zm 11 1,Zm 12 0,Zm 13 5,Zx 14 1 12 13,Zl 15 14,Zo 16 (.dyn 11 [15])] (.cond 16 (Zs [Zm 17 5,Zm 4 17] .ret) .skip)))) (.reg [Zd 18 .add 8 1,Zm 8 18] []))))
def Od:au:=(Zs [Zn 4 (-1)] .ret)
def A247:au:=(Zs [Zn 4 0] (.seqa (.reg [Zm 6 0,Zk 7 6,Zn 8 0] []) (.blk 0 (.loop CQ)) [] [] Od))
def m247:ba A1 247 2 A247 aK=true:=by kernel_rfl
def A230:au:=(Zs [Zo 2 (.box 2 0),Zo 3 (.box 1 1),Zn 4 0] (Zs [Zv 5 2 2,Zo 6 (.call 78 [5]),Zo 7 (.mkf 248 [3]),Zo 8 (.call 247 [6,7]),Zm 4 8] .ret))
def m230:ba A1 230 2 A230 aK=true:=by kernel_rfl
def wh:au:=(Zs [Zb 12 .lss 11 10] (.seq (.cond 12 .skip (.exit 0)) (.seq (.blk 1 (Zs [Zx 13 1 9 11,Zl 14 13,Zm 7 14] (.reg [Zm 15 5,Zv 16 2 2,Zm 17 7,Zo 18 (.call 230 [16,17]),Zo 19 (.bsl 1 false [18]),Zo 20 (.app 1 8 true 15 19),Zm 5 20] [.s 5]))) (.reg [Zd 21 .add 11 1,Zm 11 21] []))))
def PB:au:=(.seq (.reg [Zm 22 5,Zm 4 22] [.s 4]) .ret)
def A202:au:=(.seq (.reg [Zo 2 (.box 2 0),Zo 4 (.mv (.c (.lst .u 1 [])))] [.s 4]) (.seq (.reg [Zo 8 (.bsl 1 false []),Zm 5 8] [.s 5]) (.seqa (.reg [Zm 9 1,Zk 10 9,Zn 11 0] []) (.blk 0 (.loop wh)) [5] [5] PB)))
def m202:ba A1 202 2 A202 aK=true:=by kernel_rfl
def nQ:au:=(.seq (Zs [Zm 29 5,Zm 30 4,Zk 31 30,Zb 32 .lss 29 31] (.cond 32 .skip (.exit 2))) (.seq (.blk 3 (.seq (.drw [Zm 35 4,Zm 36 5,Zx 37 1 35 36,Zl 38 37,Zm 39 4,Zm 40 5,Zd 41 .sub 40 1,Zx 42 1 39 41,Zl 43 42,Zb 44 .neq 38 43] []) (.cond 44 (Zs [Zm 45 0,Zm 46 3,Zm 47 4,Zm 48 5,Zx 49 1 47 48,Zl 50 49,Zx 51 1 45 46,Zw (.store 1 51 50)] (.reg [Zm 52 3,Zd 53 .add 52 1,Zm 3 53] [])) .skip))) (.reg [Zm 33 5,Zd 34 .add 33 1,Zm 5 34] [])))
def yD:au:=(Zs [Zm 54 0,Zm 55 3,Zo 56 (.slc 1 54 (some 55) none none),Zw (.clr 1 (.i 0) 56)] (.seq (.reg [Zm 57 0,Zm 58 3,Zo 59 (.slc 1 57 none (some 58) none),Zm 2 59] [.s 2]) .ret))
def rT:au:=(.seq (Zs [Zm 10 3,Zm 11 0,Zk 12 11,Zb 13 .lss 10 12] (.cond 13 .skip (.exit 0))) (.seq (.blk 1 (.seq (.drw [Zm 16 0,Zm 17 3,Zx 18 1 16 17,Zl 19 18,Zm 20 0,Zm 21 3,Zd 22 .sub 21 1,Zx 23 1 20 22,Zl 24 23,Zb 25 .eql 19 24] []) (.cond 25 (.seq (.reg [Zm 26 0,Zm 27 3,Zo 28 (.slc 1 26 (some 27) none none),Zm 4 28] [.s 4]) (.seqa (.reg [Zn 5 1] []) (.blk 2 (.loop nQ)) [0,3] [1000000000] yD)) .skip))) (.reg [Zm 14 3,Zd 15 .add 14 1,Zm 3 15] [])))
def AO:au:=(.seq (.reg [Zm 60 0,Zm 2 60] [.s 2]) .ret)
def Qp:au:=(.seq (.reg [Zo 2 (.mv (.c (.lst .u 1 [])))] [.s 2]) (.seq (Zs [Zm 6 0,Zk 7 6,Zd 8 .lss 7 2] (.cond 8 (.seq (.reg [Zm 9 0,Zm 2 9] [.s 2]) .ret) .skip)) (.seqa (.reg [Zn 3 1] []) (.blk 0 (.loop rT)) [0] [1000000000] AO)))
def abs:ba A1 204 1 Qp V10=true:=by kernel_rfl
def wv:au:=(Zs [Zb 12 .lss 11 10] (.seq (.cond 12 .skip (.exit 0)) (.seq (.blk 1 (Zs [Zx 13 1 9 11,Zl 14 13,Zm 7 14] (Zs [Zm 15 1,Zm 16 7,Zo 17 (.call 68 [15,16])] (.cond 17 (.reg [Zm 18 5,Zm 19 7,Zo 20 (.bsl 1 false [19]),Zo 21 (.app 1 8 true 18 20),Zm 5 21] [.s 5]) .skip)))) (.reg [Zd 22 .add 11 1,Zm 11 22] []))))
def Np:au:=(Zs [Zm 23 5,Zo 24 (.callM 203 [23] [5])] (.seq (.reg [Zm 25 5,Zo 26 (.callM 204 [25] [5]),Zm 4 26] [.s 4]) .ret))
def A140:au:=(.seq (.reg [Zo 4 (.mv (.c (.lst .u 1 [])))] [.s 4]) (.seq (.reg [Zo 8 (.bsl 1 false []),Zm 5 8] [.s 5]) (.seqa (.reg [Zm 9 0,Zk 10 9,Zn 11 0] []) (.blk 0 (.loop wv)) [5] [5] Np)))
def m140:ba A1 140 2 A140 aK=true:=by kernel_rfl
def A136:au:=(Zs [Zo 3 (.box 2 0),Zh 6 false] (.seq (.drw [Zv 7 2 3,Zm 8 1,Zo 9 (.call 202 [7,8]),Zv 10 2 3,Zm 11 2,Zo 12 (.call 202 [10,11]),Zo 13 (.call 140 [9,12]),Zk 14 13,Zd 15 .eql 14 0,Zm 6 15] []) .ret))
def m136:ba A1 136 3 A136 dt=true:=by kernel_rfl
def YJ:au:=(.cond 35 (Zs [Zh 4 false] .ret) .skip)
def YX:au:=.ret
def A94:au:=(Zs [Zo 2 (.box 2 0),Zo 3 (.box 10 1),Zh 4 false] (.seq (.reg [Zv 10 2 2,Za 11 2 3,Zv 12 2 11,Zo 13 (.call 168 [10,12]),Zm 9 13,Ze 14 9 0,Ze 15 9 1,Zm 5 14,Zm 6 15] [.s 5]) (.seq (.seqr (.reg [Za 16 0 3,Zl 17 16,Zo 18 (.call 76 [17,(.c (.i 1)),(.c (.i 999))]),Zo 19 (.un .not 18),Zm 20 19,Zg 21 (.fad 1 3) 20 false,Zg 22 (.load 1 false 21) 20 false,Zg 23 (.call 76 [22,(.c (.i 0)),(.c (.i 2))]) 20 false,Zg 24 (.un .not 23) 20 false,Zo 25 (.pick 20 (Zy true) 24),Zm 26 25,Zg 27 (.mv 6) 26 false,Zg 28 (.un .not 27) 26 false,Zo 29 (.pick 26 (Zy true) 28),Zm 30 29,Zg 31 (.fad 4 3) 30 false,Zg 32 (.load 2 true 31) 30 false,Zg 33 (.call 169 [32]) 30 false,Zg 34 (.un .not 33) 30 false,Zo 35 (.pick 30 (Zy true) 34)] []) [2,3,5,35] [2,3,5] YJ) (.seq (Zs [Za 36 1 3,Zl 37 36,Zd 38 .eql 37 0] (.cond 38 (.seqr (.reg [Za 39 6 3,Za 40 0 39,Zl 41 40,Zd 42 .eql 41 0,Zm 43 42,Zg 44 (.fad 6 3) 43 true,Zg 45 (.fad 1 44) 43 true,Zg 46 (.load 1 false 45) 43 true,Zg 47 (.len 46) 43 true,Zg 48 (.bin .eql 47 (.c (.i 0))) 43 true,Zo 49 (.pick 43 48 (Zy false)),Zm 50 49,Zg 51 (.fad 8 3) 50 true,Zg 52 (.load 2 true 51) 50 true,Zg 53 (.build [.i 0,.i 0] []) 50 true,Zg 54 (.aeq false 52 53) 50 true,Zo 55 (.pick 50 54 (Zy false)),Zm 4 55] []) [4] [] YX) .skip)) (.seq (.reg [Zv 57 2 2,Za 58 6 3,Zv 59 2 58,Zo 60 (.call 168 [57,59]),Zm 56 60,Ze 61 56 0,Ze 62 56 1,Zm 7 61,Zm 8 62] [.s 7]) (.seq (.drw [Zm 63 8,Zm 64 63,Zg 65 (.fad 8 3) 64 true,Zg 66 (.load 2 true 65) 64 true,Zg 67 (.call 169 [66]) 64 true,Zo 68 (.pick 64 67 (Zy false)),Zm 69 68,Zg 70 (.mv 7) 69 true,Zg 71 (.idx 1 70 (.c (.i 0))) 69 true,Zg 72 (.load 1 false 71) 69 true,Zg 73 (.mv 5) 69 true,Zg 74 (.idx 1 73 (.c (.i 0))) 69 true,Zg 75 (.load 1 false 74) 69 true,Zg 76 (.bin .eql 72 75) 69 true,Zo 77 (.pick 69 76 (Zy false)),Zm 78 77,Zg 79 (.mv 7) 78 true,Zg 80 (.mv 7) 78 true,Zg 81 (.len 80) 78 true,Zg 82 (.bin .sub 81 (.c (.i 1))) 78 true,Zg 83 (.idx 1 79 82) 78 true,Zg 84 (.load 1 false 83) 78 true,Zg 85 (.mv 5) 78 true,Zg 86 (.mv 5) 78 true,Zg 87 (.len 86) 78 true,Zg 88 (.bin .sub 87 (.c (.i 1))) 78 true,Zg 89 (.idx 1 85 88) 78 true,Zg 90 (.load 1 false 89) 78 true,Zg 91 (.bin .eql 84 90) 78 true,Zo 92 (.pick 78 91 (Zy false)),Zm 93 92,Zg 94 (.load 2 true 2) 93 true,Zg 95 (.fad 2 3) 93 true,Zg 96 (.fad 1 95) 93 true,Zg 97 (.load 1 false 96) 93 true,Zg 98 (.fad 6 3) 93 true,Zg 99 (.fad 1 98) 93 true,Zg 100 (.load 1 false 99) 93 true,Zg 101 (.call 136 [94,97,100]) 93 true,Zo 102 (.pick 93 101 (Zy false)),Zm 4 102] []) .ret))))))
def m94:ba A1 94 2 A94 aK=true:=by kernel_rfl
def A69:au:=(Zs [Zo 1 (.box 2 0),Zn 2 0] (.seq (.drw [Za 3 1 1,Zl 4 3,Zo 5 (.bin .shl (.c (.i 1)) 4),Zd 6 .sub 5 1,Za 7 0 1,Zl 8 7,Zb 9 .shl 6 8,Zm 2 9] []) .ret))
def m69:ba A1 69 1 A69 V10=true:=by kernel_rfl
def A205:au:=(Zs [Zo 2 (.box 5 0),Zo 3 (.box 5 1),Zh 4 false] (.seq (.drw [Za 5 3 2,Zv 6 2 5,Zo 7 (.call 69 [6]),Za 8 3 3,Zv 9 2 8,Zo 10 (.call 69 [9]),Zb 11 .and 7 10,Zd 12 .neq 11 0,Zm 13 12,Zg 14 (.fad 1 2) 13 true,Zg 15 (.fad 1 14) 13 true,Zg 16 (.load 1 false 15) 13 true,Zg 17 (.fad 1 3) 13 true,Zg 18 (.fad 1 17) 13 true,Zg 19 (.load 1 false 18) 13 true,Zg 20 (.call 140 [16,19]) 13 true,Zg 21 (.len 20) 13 true,Zg 22 (.bin .gtr 21 (.c (.i 0))) 13 true,Zo 23 (.pick 13 22 (Zy false)),Zm 4 23] []) .ret))
def m205:ba A1 205 2 A205 aK=true:=by kernel_rfl
def A142:au:=(Zs [Zo 4 (.box 2 0),Zo 5 (.box 2 1),Zo 6 (.box 2 2),Zo 7 (.box 2 3),Zh 8 false] (Zs [Zv 9 2 4,Zv 10 2 5,Zo 11 (.build [.i 0,.i 0,.lst .u 1 [],.i 0,.i 0] [(1,2,9),(3,2,10)]),Zv 12 2 6,Zv 13 2 7,Zo 14 (.build [.i 0,.i 0,.lst .u 1 [],.i 0,.i 0] [(1,2,12),(3,2,13)]),Zo 15 (.call 205 [11,14]),Zm 8 15] .ret))
def m142:ba A1 142 4 A142 WV=true:=by kernel_rfl
def Zj:au:=(.cond 38 (Zs [Zh 6 false] .ret) .skip)
def Yx:au:=(Zs [Zm 57 7,Zm 58 57,Zg 59 (.fad 6 4) 58 false,Zg 60 (.load 2 true 59) 58 false,Zg 61 (.fad 8 4) 58 false,Zg 62 (.load 2 true 61) 58 false,Zg 63 (.fad 6 5) 58 false,Zg 64 (.load 2 true 63) 58 false,Zg 65 (.fad 8 5) 58 false,Zg 66 (.load 2 true 65) 58 false,Zg 67 (.call 142 [60,62,64,66]) 58 false,Zg 68 (.un .not 67) 58 false,Zo 69 (.pick 58 (Zy true) 68),Zm 6 69] .ret)
def A97:au:=(Zs [Zo 3 (.box 2 0),Zo 4 (.box 10 1),Zo 5 (.box 10 2),Zh 6 false] (.seq (.seqr (.reg [Za 8 2 4,Zv 9 2 8,Za 10 4 4,Zv 11 2 10,Za 12 2 5,Zv 13 2 12,Za 14 4 5,Zv 15 2 14,Zo 16 (.call 142 [9,11,13,15]),Zm 17 16,Zg 18 (.fad 2 4) 17 false,Zg 19 (.load 2 true 18) 17 false,Zg 20 (.fad 4 4) 17 false,Zg 21 (.load 2 true 20) 17 false,Zg 22 (.fad 6 5) 17 false,Zg 23 (.load 2 true 22) 17 false,Zg 24 (.fad 8 5) 17 false,Zg 25 (.load 2 true 24) 17 false,Zg 26 (.call 142 [19,21,23,25]) 17 false,Zo 27 (.pick 17 (Zy true) 26),Zm 28 27,Zg 29 (.fad 6 4) 28 false,Zg 30 (.load 2 true 29) 28 false,Zg 31 (.fad 8 4) 28 false,Zg 32 (.load 2 true 31) 28 false,Zg 33 (.fad 2 5) 28 false,Zg 34 (.load 2 true 33) 28 false,Zg 35 (.fad 4 5) 28 false,Zg 36 (.load 2 true 35) 28 false,Zg 37 (.call 142 [30,32,34,36]) 28 false,Zo 38 (.pick 28 (Zy true) 37)] []) [3,4,5,38] [3,4,5] Zj) (.seqr (.reg [Za 39 1 4,Zl 40 39,Zd 41 .eql 40 2,Zm 42 41,Zg 43 (.fad 1 5) 42 true,Zg 44 (.load 1 false 43) 42 true,Zg 45 (.bin .eql 44 (.c (.i 2))) 42 true,Zo 46 (.pick 42 45 (Zy false)),Zm 47 46,Zg 48 (.load 2 true 3) 47 true,Zg 49 (.fad 2 4) 47 true,Zg 50 (.fad 1 49) 47 true,Zg 51 (.load 1 false 50) 47 true,Zg 52 (.fad 2 5) 47 true,Zg 53 (.fad 1 52) 47 true,Zg 54 (.load 1 false 53) 47 true,Zg 55 (.call 136 [48,51,54]) 47 true,Zo 56 (.pick 47 55 (Zy false)),Zm 7 56] []) [4,5,7] [4,5] Yx)))
def m97:ba A1 97 3 A97 dt=true:=by kernel_rfl
def A96:au:=(Zs [Zo 3 (.box 10 0),Zh 4 false] (Zs [Zv 5 2 1,Zv 6 10 3,Zv 7 10 2,Zo 8 (.call 97 [5,6,7]),Zo 9 (.un .not 8),Zm 4 9] .ret))
def m96:ba A1 96 3 A96 aK=true:=by kernel_rfl
def QC:au:=(Zs [Zb 9 .lss 8 7] (.seq (.cond 9 .skip (.exit 0)) (.seq (.blk 1 (Zs [Zm 10 8,Zm 5 10] (Zs [Zm 11 1,Zm 12 0,Zm 13 5,Zx 14 10 12 13,Zv 15 10 14,Zo 16 (.dyn 11 [15])] (.cond 16 (Zs [Zm 17 5,Zm 4 17] .ret) .skip)))) (.reg [Zd 18 .add 8 1,Zm 8 18] []))))
def YC:au:=(Zs [Zn 4 (-1)] .ret)
def A98:au:=(Zs [Zn 4 0] (.seqa (.reg [Zm 6 0,Zk 7 6,Zn 8 0] []) (.blk 0 (.loop QC)) [] [] YC))
def m98:ba A1 98 2 A98 aK=true:=by kernel_rfl
def A95:au:=(Zs [Zh 4 false] (Zs [Zm 5 0,Zm 6 1,Zo 7 (.call 98 [5,6]),Zd 8 .geq 7 0,Zm 4 8] .ret))
def m95:ba A1 95 2 A95 aK=true:=by kernel_rfl
def YB:au:=(.cond 14 (Zs [Zh 4 false] .ret) .skip)
def OA:au:=(Zs [Zb 18 .lss 17 16] (.seq (.cond 18 .skip (.exit 0)) (.seq (.blk 1 (Zs [Zm 19 17,Zx 20 10 15 17,Zv 21 10 20,Zo 6 (.alloc (.agg [.i 0,.i 0,.i 0,.lst .u 1 [],.i 0,.i 0,.i 0,.lst .u 1 [],.i 0,.i 0])),Zm 5 19,Zw (.store 10 6 21)] (.seq (.drw [Zv 22 2 2,Zv 23 10 6,Zo 24 (.call 94 [22,23]),Zo 25 (.un .not 24),Zm 26 25,Zg 27 (.mv 5) 26 false,Zg 28 (.bin .gtr 27 (.c (.i 0))) 26 false,Zg 29 (.mv 28) 26 false,Zg 30 (.mv 1) 29 true,Zg 31 (.mv 5) 29 true,Zg 32 (.bin .sub 31 (.c (.i 1))) 29 true,Zg 33 (.idx 10 30 32) 29 true,Zg 34 (.fad 0 33) 29 true,Zg 35 (.load 1 false 34) 29 true,Zg 36 (.fad 0 6) 29 true,Zg 37 (.load 1 false 36) 29 true,Zg 38 (.bin .geq 35 37) 29 true,Zg 39 (.pick 29 38 (Zy false)) 26 false,Zo 40 (.pick 26 (Zy true) 39),Zm 41 40,Zg 42 (.mv 1) 41 false,Zg 43 (.mv 5) 41 false,Zg 44 (.slc 10 42 none (some 43) none) 41 false,Zg 45 (.mkf 96 [2,6]) 41 false,Zg 46 (.call 95 [44,45]) 41 false,Zo 47 (.pick 41 (Zy true) 46)] []) (.cond 47 (Zs [Zh 4 false] .ret) .skip)))) (.reg [Zd 48 .add 17 1,Zm 17 48] []))))
def YO:au:=(Zs [Zh 4 true] .ret)
def A24:au:=(Zs [Zo 2 (.box 2 0),Zh 4 false] (.seq (.seqr (.reg [Zv 7 2 2,Zo 8 (.call 81 [7]),Zo 9 (.un .not 8),Zm 10 9,Zg 11 (.mv 1) 10 false,Zg 12 (.len 11) 10 false,Zg 13 (.bin .gtr 12 (.c (.i 8))) 10 false,Zo 14 (.pick 10 (Zy true) 13)] []) [1,2,14] [2] YB) (.seqa (.reg [Zm 15 1,Zk 16 15,Zn 17 0] []) (.blk 0 (.loop OA)) [] [] YO)))
def m24:ba A1 24 2 A24 aK=true:=by kernel_rfl
def A155:au:=(Zs [Zo 2 (.box 10 0),Zh 3 false] (Zs [Za 4 0 2,Zl 5 4,Za 6 0 1,Zl 7 6,Zb 8 .eql 5 7,Zm 3 8] .ret))
def m155:ba A1 155 2 A155 tU=true:=by kernel_rfl
def wH:au:=(Zs [Zb 8 .lss 7 6] (.seq (.cond 8 .skip (.exit 0)) (.seq (.blk 1 (Zs [Zm 9 7,Zx 10 2 5 7,Zv 11 2 10,Zo 4 (.alloc (.agg [.i 0,.i 0])),Zm 3 9,Zw (.store 2 4 11)] (.seq (.drw [Za 12 0 4,Zl 13 12,Zo 14 (.call 76 [13,(.c (.i 1)),(.c (.i 20000))]),Zo 15 (.un .not 14),Zm 16 15,Zg 17 (.fad 1 4) 16 false,Zg 18 (.load 1 false 17) 16 false,Zg 19 (.call 76 [18,(.c (.i 1)),(.c (.i 1000))]) 16 false,Zg 20 (.un .not 19) 16 false,Zo 21 (.pick 16 (Zy true) 20),Zm 22 21,Zg 23 (.mv 3) 22 false,Zg 24 (.bin .gtr 23 (.c (.i 0))) 22 false,Zg 25 (.mv 24) 22 false,Zg 26 (.mv 0) 25 true,Zg 27 (.mv 3) 25 true,Zg 28 (.bin .sub 27 (.c (.i 1))) 25 true,Zg 29 (.idx 2 26 28) 25 true,Zg 30 (.fad 0 29) 25 true,Zg 31 (.load 1 false 30) 25 true,Zg 32 (.fad 0 4) 25 true,Zg 33 (.load 1 false 32) 25 true,Zg 34 (.bin .leq 31 33) 25 true,Zg 35 (.mv 34) 25 true,Zg 36 (.mv 0) 35 false,Zg 37 (.mv 3) 35 false,Zg 38 (.bin .sub 37 (.c (.i 1))) 35 false,Zg 39 (.idx 2 36 38) 35 false,Zg 40 (.fad 1 39) 35 false,Zg 41 (.load 1 false 40) 35 false,Zg 42 (.fad 1 4) 35 false,Zg 43 (.load 1 false 42) 35 false,Zg 44 (.bin .geq 41 43) 35 false,Zg 45 (.pick 35 (Zy true) 44) 25 true,Zg 46 (.pick 25 45 (Zy false)) 22 false,Zo 47 (.pick 22 (Zy true) 46)] []) (.cond 47 (Zs [Zh 2 false] .ret) .skip)))) (.reg [Zd 48 .add 7 1,Zm 7 48] []))))
def KQ:au:=(Zs [Zm 49 0,Zk 50 49,Zo 51 (.call 76 [50,(.c (.i 1)),(.c (.i 6))]),Zm 2 51] .ret)
def A219:au:=(Zs [Zh 2 false] (.seqa (.reg [Zm 5 0,Zk 6 5,Zn 7 0] []) (.blk 0 (.loop wH)) [0] [] KQ))
def m219:ba A1 219 1 A219 V10=true:=by kernel_rfl
def abk:au:=(Zs [Zo 2 (.box 2 0),Zo 3 (.box 4 1),Zh 4 false] (Zs [Za 6 0 2,Zl 7 6,Zk 8 7,Zd 9 .sub 8 1,Zm 5 9] (Zs [Za 10 0 3,Zl 11 10,Zm 12 5,Zo 13 (.call 76 [11,(.c (.i 0)),12]),Zm 14 13,Zg 15 (.fad 1 3) 14 true,Zg 16 (.load 1 false 15) 14 true,Zg 17 (.mv 5) 14 true,Zg 18 (.call 76 [16,(.c (.i 0)),17]) 14 true,Zo 19 (.pick 14 18 (Zy false)),Zm 20 19,Zg 21 (.fad 0 3) 20 true,Zg 22 (.load 1 false 21) 20 true,Zg 23 (.fad 1 3) 20 true,Zg 24 (.load 1 false 23) 20 true,Zg 25 (.bin .neq 22 24) 20 true,Zo 26 (.pick 20 25 (Zy false)),Zm 27 26,Zg 28 (.fad 2 3) 27 true,Zg 29 (.load 1 false 28) 27 true,Zg 30 (.call 76 [29,(.c (.i 1)),(.c (.i 1000))]) 27 true,Zo 31 (.pick 27 30 (Zy false)),Zm 32 31,Zg 33 (.fad 3 3) 32 true,Zg 34 (.load 1 false 33) 32 true,Zg 35 (.call 76 [34,(.c (.i 0)),(.c (.i 2))]) 32 true,Zo 36 (.pick 32 35 (Zy false)),Zm 4 36] .ret)))
def m243:ba A1 243 2 abk aK=true:=by kernel_rfl
def A242:au:=(Zs [Zo 2 (.box 4 0),Zh 3 false] (Zs [Zv 4 2 1,Zv 5 4 2,Zo 6 (.call 243 [4,5]),Zo 7 (.un .not 6),Zm 3 7] .ret))
def m242:ba A1 242 2 A242 tU=true:=by kernel_rfl
def BP:au:=(Zs [Zb 9 .lss 8 7] (.seq (.cond 9 .skip (.exit 0)) (.seq (.blk 1 (Zs [Zm 10 8,Zm 5 10] (Zs [Zm 11 1,Zm 12 0,Zm 13 5,Zx 14 4 12 13,Zv 15 4 14,Zo 16 (.dyn 11 [15])] (.cond 16 (Zs [Zm 17 5,Zm 4 17] .ret) .skip)))) (.reg [Zd 18 .add 8 1,Zm 8 18] []))))
def RA:au:=(Zs [Zn 4 (-1)] .ret)
def A262:au:=(Zs [Zn 4 0] (.seqa (.reg [Zm 6 0,Zk 7 6,Zn 8 0] []) (.blk 0 (.loop BP)) [] [] RA))
def m262:ba A1 262 2 A262 aK=true:=by kernel_rfl
def A241:au:=(Zs [Zh 4 false] (Zs [Zm 5 0,Zm 6 1,Zo 7 (.call 262 [5,6]),Zd 8 .geq 7 0,Zm 4 8] .ret))
def m241:ba A1 241 2 A241 aK=true:=by kernel_rfl
def A220:au:=(Zs [Zo 2 (.box 2 0),Zh 4 false] (Zs [Zv 5 2 2,Zo 6 (.call 81 [5]),Zm 7 6,Zg 8 (.mv 1) 7 true,Zg 9 (.len 8) 7 true,Zg 10 (.bin .leq 9 (.c (.i 12))) 7 true,Zo 11 (.pick 7 10 (Zy false)),Zm 12 11,Zg 13 (.mv 1) 12 true,Zg 14 (.mkf 242 [2]) 12 true,Zg 15 (.call 241 [13,14]) 12 true,Zg 16 (.un .not 15) 12 true,Zo 17 (.pick 12 16 (Zy false)),Zm 4 17] .ret))
def m220:ba A1 220 2 A220 aK=true:=by kernel_rfl
def A263:au:=(Zs [Zh 3 false] (Zs [Zm 4 0,Za 5 0 1,Zl 6 5,Zk 7 6,Zd 8 .sub 7 1,Zo 9 (.call 76 [4,(.c (.i 0)),8]),Zo 10 (.un .not 9),Zm 3 10] .ret))
def m263:ba A1 263 2 A263 tU=true:=by kernel_rfl
def Cn:au:=(Zs [Zb 9 .lss 8 7] (.seq (.cond 9 .skip (.exit 0)) (.seq (.blk 1 (Zs [Zm 10 8,Zm 5 10] (Zs [Zm 11 1,Zm 12 0,Zm 13 5,Zx 14 1 12 13,Zl 15 14,Zo 16 (.dyn 11 [15])] (.cond 16 (Zs [Zm 17 5,Zm 4 17] .ret) .skip)))) (.reg [Zd 18 .add 8 1,Zm 8 18] []))))
def RC:au:=(Zs [Zn 4 (-1)] .ret)
def A217:au:=(Zs [Zn 4 0] (.seqa (.reg [Zm 6 0,Zk 7 6,Zn 8 0] []) (.blk 0 (.loop Cn)) [] [] RC))
def m217:ba A1 217 2 A217 aK=true:=by kernel_rfl
def A177:au:=(Zs [Zh 4 false] (Zs [Zm 5 0,Zm 6 1,Zo 7 (.call 217 [5,6]),Zd 8 .geq 7 0,Zm 4 8] .ret))
def m177:ba A1 177 2 A177 aK=true:=by kernel_rfl
def A244:au:=(Zs [Zo 2 (.box 2 0),Zh 4 false] (Zs [Zv 5 2 2,Zo 6 (.call 81 [5]),Zm 7 6,Zg 8 (.mv 1) 7 true,Zg 9 (.mkf 263 [2]) 7 true,Zg 10 (.call 177 [8,9]) 7 true,Zg 11 (.un .not 10) 7 true,Zo 12 (.pick 7 11 (Zy false)),Zm 4 12] .ret))
def m244:ba A1 244 2 A244 aK=true:=by kernel_rfl
def A80:au:=(.seq (.reg [Zo 2 (.mv (.c (.lst .u 1 [])))] [.s 2]) (.seq (Zs [Zm 3 0,Zo 4 (.isn false 3)] (.cond 4 (.seq (.reg [Zo 2 (.mv (.c (.lst .u 1 [])))] [.s 2]) .ret) .skip)) (.seq (.reg [Zo 5 (.bsl 1 false []),Zm 6 0,Zo 7 (.app 1 8 false 5 6),Zm 2 7] [.s 2]) .ret)))
def m80:ba A1 80 1 A80 V10=true:=by kernel_rfl
def xy:au:=(.cond 43 (.drw [Zo 44 (.ldv [] 1 false 7),Zm 45 13,Zm 46 1,Zm 47 13,Zo 48 (.bin .shl (.c (.i 1)) 47),Zb 49 .or 46 48,Zm 50 2,Zm 51 2,Zk 52 51,Zm 53 2,Zk 54 53,Zo 55 (.slc 1 50 none (some 52) (some 54)),Zm 56 11,Zo 57 (.bsl 1 true [56]),Zo 58 (.app 1 8 true 55 57),Zo 59 (.dynM 44 [45,49,58] [58,1000000001,1000000002,470000128,1000000004,1000000005,1000000006])] [.f true 470000128 1000000002 0]) .skip)
def rD:au:=(Zs [Zb 28 .lss 27 26] (.seq (.cond 28 .skip (.exit 0)) (.seq (.blk 1 (Zs [Zm 29 27,Zx 30 4 25 27,Zv 31 4 30,Zo 12 (.alloc (.agg [.i 0,.i 0,.i 0,.i 0])),Zm 11 29,Zw (.store 4 12 31)] (Zs [Zv 32 4 12,Zm 33 0,Zo 34 (.call 215 [32,33]),Zm 13 34] (.seqr (.reg [Zm 35 13,Zd 36 .geq 35 0,Zm 37 36,Zg 38 (.mv 1) 37 true,Zg 39 (.mv 13) 37 true,Zg 40 (.bin .shr 38 39) 37 true,Zg 41 (.bin .and 40 (.c (.i 1))) 37 true,Zg 42 (.bin .eql 41 (.c (.i 0))) 37 true,Zo 43 (.pick 37 42 (Zy false))] []) [0,1,2,7,11,13,25,26,27,43] [470000128,1000000001,1000000002,1000000004,1000000005,1000000006] xy)))) (.reg [Zd 60 .add 27 1,Zm 27 60] []))))
def Mj:au:=(.seq (.seq (.reg [Zm 14 0,Zl 15 3,Zb 16 .eql 14 15] [.z 2,.f true 470000128 1000000002 0]) (.cond 16 (.seq (.drw [Zo 17 (.ldv [] 1 false 4),Zl 18 5,Zm 19 2,Zo 20 (.call 80 [19]),Zo 21 (.build [.i 0,.lst .u 1 []] [(0,1,18),(1,1,20)]),Zo 22 (.bsm 2 [21]),Zo 23 (.app 2 32 true 17 22),Zw (.store 1 4 23)] [.f true 470000128 1000000002 0]) .ret) .skip)) (Zs [Za 24 1 6,Zl 25 24,Zk 26 25,Zn 27 0] (.blk 0 (.loop rD))))
def aca:ba A1 264 8 Mj bM=true:=by kernel_rfl
def Ah:au:=(.cond 43 (.drw [Zo 44 (.ldv [] 1 false 7),Zm 45 13,Zm 46 1,Zm 47 13,Zo 48 (.bin .shl (.c (.i 1)) 47),Zb 49 .or 46 48,Zm 50 2,Zm 51 2,Zk 52 51,Zm 53 2,Zk 54 53,Zo 55 (.slc 1 50 none (some 52) (some 54)),Zm 56 11,Zo 57 (.bsl 1 true [56]),Zo 58 (.app 1 8 true 55 57),Zo 59 (.dynM 44 [45,49,58] [58,1000000000,1000000001,470000064,1000000003,1000000004,1000000005])] [.f true 470000064 1000000001 0]) .skip)
def qG:au:=(Zs [Zb 28 .lss 27 26] (.seq (.cond 28 .skip (.exit 0)) (.seq (.blk 1 (Zs [Zm 29 27,Zx 30 4 25 27,Zv 31 4 30,Zo 12 (.alloc (.agg [.i 0,.i 0,.i 0,.i 0])),Zm 11 29,Zw (.store 4 12 31)] (Zs [Zv 32 4 12,Zm 33 0,Zo 34 (.call 215 [32,33]),Zm 13 34] (.seqr (.reg [Zm 35 13,Zd 36 .geq 35 0,Zm 37 36,Zg 38 (.mv 1) 37 true,Zg 39 (.mv 13) 37 true,Zg 40 (.bin .shr 38 39) 37 true,Zg 41 (.bin .and 40 (.c (.i 1))) 37 true,Zg 42 (.bin .eql 41 (.c (.i 0))) 37 true,Zo 43 (.pick 37 42 (Zy false))] []) [0,1,2,7,11,13,25,26,27,43] [470000064,1000000000,1000000001,1000000003,1000000004,1000000005] Ah)))) (.reg [Zd 60 .add 27 1,Zm 27 60] []))))
def MI:au:=(.seq (.seq (.reg [Zm 14 0,Zl 15 3,Zb 16 .eql 14 15] [.z 2,.f true 470000064 1000000001 0]) (.cond 16 (.seq (.drw [Zo 17 (.ldv [] 1 false 4),Zl 18 5,Zm 19 2,Zo 20 (.call 80 [19]),Zo 21 (.build [.i 0,.lst .u 1 []] [(0,1,18),(1,1,20)]),Zo 22 (.bsm 2 [21]),Zo 23 (.app 2 32 true 17 22),Zw (.store 1 4 23)] [.f true 470000064 1000000001 0]) .ret) .skip)) (Zs [Za 24 1 6,Zl 25 24,Zk 26 25,Zn 27 0] (.blk 0 (.loop qG))))
def afq:ba A1 264 8 MI bM=true:=by kernel_rfl
def vZ:au:=(Zs [Zb 12 .lss 11 10] (.seq (.cond 12 .skip (.exit 0)) (.seq (.blk 1 (Zs [Zx 13 1 9 11,Zl 14 13,Zm 7 14] (.reg [Zm 15 5,Za 16 1 2,Zl 17 16,Zm 18 7,Zx 19 4 17 18,Za 20 2 19,Zl 21 20,Zb 22 .add 15 21,Zm 5 22] []))) (.reg [Zd 23 .add 11 1,Zm 11 23] []))))
def Ru:au:=(Zs [Zm 24 5,Zm 4 24] .ret)
def A223:au:=(Zs [Zo 2 (.box 2 0),Zo 3 (.box 2 1),Zn 4 0] (Zs [Zn 5 0] (.seqa (.reg [Za 8 1 3,Zl 9 8,Zk 10 9,Zn 11 0] []) (.blk 0 (.loop vZ)) [5] [] Ru)))
def m223:ba A1 223 2 A223 aK=true:=by kernel_rfl
def BS:au:=(Zs [Zb 12 .lss 11 10] (.seq (.cond 12 .skip (.exit 0)) (.seq (.blk 1 (Zs [Zm 13 11,Zx 14 1 9 11,Zl 15 14,Zm 5 13,Zm 6 15] (.seq (Zs [Zm 16 5,Zm 17 1,Zk 18 17,Zb 19 .geq 16 18] (.cond 19 (Zs [Zn 4 1] .ret) .skip)) (Zs [Zm 20 1,Zm 21 5,Zx 22 1 20 21,Zl 23 22,Zm 7 23] (Zs [Zm 24 6,Zm 25 7,Zo 26 (.call 189 [24,25]),Zm 8 26] (Zs [Zm 27 8,Zd 28 .neq 27 0] (.cond 28 (Zs [Zm 29 8,Zm 4 29] .ret) .skip))))))) (.reg [Zd 30 .add 11 1,Zm 11 30] []))))
def Na:au:=(.seq (Zs [Zm 31 0,Zk 32 31,Zm 33 1,Zk 34 33,Zb 35 .lss 32 34] (.cond 35 (Zs [Zn 4 (-1)] .ret) .skip)) (Zs [Zn 4 0] .ret))
def A225:au:=(Zs [Zn 4 0] (.seqa (.reg [Zm 9 0,Zk 10 9,Zn 11 0] []) (.blk 0 (.loop BS)) [0,1] [] Na))
def m225:ba A1 225 2 A225 aK=true:=by kernel_rfl
def A190:au:=(Zs [Zo 3 (.box 2 0),Zo 4 (.box 2 1),Zo 5 (.box 2 2),Zn 6 0] (.seq (.drw [Zv 7 2 3,Zv 8 2 4,Zo 9 (.call 223 [7,8]),Zv 10 2 3,Zv 11 2 5,Zo 12 (.call 223 [10,11]),Zo 13 (.call 189 [9,12]),Za 14 1 4,Zl 15 14,Zk 16 15,Za 17 1 5,Zl 18 17,Zk 19 18,Zo 20 (.call 189 [16,19]),Za 21 1 4,Zl 22 21,Za 23 1 5,Zl 24 23,Zo 25 (.call 225 [22,24]),Za 26 0 4,Zl 27 26,Za 28 0 5,Zl 29 28,Zo 30 (.call 189 [27,29]),Zo 31 (.bsl 1 true [13,20,25,30]),Zo 32 (.call 188 [31]),Zm 6 32] []) .ret))
def m190:ba A1 190 3 A190 dt=true:=by kernel_rfl
def A266:au:=(Zs [Zo 3 (.box 2 0),Zo 4 (.box 2 1),Zn 5 0] (Zs [Zv 6 2 2,Zv 7 2 3,Zv 8 2 4,Zo 9 (.call 190 [6,7,8]),Zm 5 9] .ret))
def An:List RV:=[.t 5]
def m266:ba A1 266 3 A266 An=true:=by kernel_rfl
def RU:au:=(Zs [Zl 19 7,Zo 20 (.mkf 266 [3]),Zo 21 (.callM 265 [19,20] [500000448,3])] (.seq (.reg [Zl 22 7,Zm 6 22] [.s 6]) .ret))
def A245:au:=(.seq (.reg [Zo 3 (.box 2 0),Zo 4 (.box 1 1),Zo 5 (.box 1 2),Zo 6 (.mv (.c (.lst .u 2 [])))] [.s 6]) (.seq (.reg [Zo 9 (.bsl 2 false []),Zo 7 (.alloc (.lst .u 2 [])),Zw (.store 1 7 9)] [.f false 500000448 7 0]) (Zs [Zo 8 (.alloc (.sc .nilFunc))] (Zs [Zo 10 (.mkf 264 [5,7,4,3,8]),Zw (.store 1 8 10)] (.seqr (Zs [Zl 11 4,Zl 12 5,Zb 13 .neq 11 12] (.cond 13 (.drw [Zl 14 8,Zl 15 4,Zl 16 4,Zo 17 (.bin .shl (.c (.i 1)) 16),Zo 18 (.dynM 14 [15,17,(.c (.lst .u 1 []))] [5,7,500000448,4,3,8])] [.f false 500000448 7 0]) .skip)) [3,7] [3,7,500000448] RU)))))
def m245:ba A1 245 3 A245 dt=true:=by kernel_rfl
def OL:au:=(.cond 19 (.seq (.reg [Zo 6 (.mv (.c (.lst .u 2 []))),Zh 7 false] [.s 6]) .ret) .skip)
def A221:au:=(.seq (.reg [Zo 3 (.box 2 0),Zo 6 (.mv (.c (.lst .u 2 []))),Zh 7 false] [.s 6]) (.seq (.seqr (.reg [Zv 9 2 3,Zm 10 1,Zm 11 2,Zo 12 (.bsl 1 false [10,11]),Zo 13 (.call 244 [9,12]),Zo 14 (.un .not 13),Zm 15 14,Zg 16 (.mv 1) 15 false,Zg 17 (.mv 2) 15 false,Zg 18 (.bin .eql 16 17) 15 false,Zo 19 (.pick 15 (Zy true) 18)] []) [1,2,3,19] [3] OL) (.seq (.reg [Zv 20 2 3,Zm 21 1,Zm 22 2,Zo 23 (.call 245 [20,21,22]),Zm 8 23] [.s 8]) (.seq (Zs [Zm 24 8,Zk 25 24,Zd 26 .gtr 25 200] (.cond 26 (.seq (.reg [Zo 6 (.mv (.c (.lst .u 2 []))),Zh 7 false] [.s 6]) .ret) .skip)) (.seq (.reg [Zm 27 8,Zm 6 27,Zh 7 true] [.s 6]) .ret)))))
def m221:ba A1 221 3 A221 gt=true:=by kernel_rfl
def QX:au:=(.cond 14 (Zs [Zn 4 0,Zh 5 false] .ret) .skip)
def vS:au:=(.seq (Zs [Zm 18 6,Zd 19 .geq 18 0] (.cond 19 .skip (.exit 0))) (.seq (.blk 1 (Zs [Zm 22 0,Zm 23 6,Zx 24 2 22 23,Za 25 0 24,Zl 26 25,Zm 27 1,Zb 28 .geq 26 27] (.cond 28 (Zs [Zm 29 6,Zm 4 29,Zh 5 true] .ret) .skip))) (.reg [Zm 20 6,Zd 21 .sub 20 1,Zm 6 21] [])))
def OC:au:=(Zs [Zn 4 0,Zh 5 false] .ret)
def A246:au:=(Zs [Zn 4 0,Zh 5 false] (.seq (.seqr (.reg [Zm 7 0,Zo 8 (.call 219 [7]),Zo 9 (.un .not 8),Zm 10 9,Zg 11 (.mv 1) 10 false,Zg 12 (.call 76 [11,(.c (.i 0)),(.c (.i 20000))]) 10 false,Zg 13 (.un .not 12) 10 false,Zo 14 (.pick 10 (Zy true) 13)] []) [0,1,14] [] QX) (.seqa (.reg [Zm 15 0,Zk 16 15,Zd 17 .sub 16 1,Zm 6 17] []) (.blk 0 (.loop vS)) [] [] OC)))
def m246:ba A1 246 2 A246 lC=true:=by kernel_rfl
def Lx:au:=(.cond 23 (Zs [Zn 6 0,Zh 7 false] .ret) .skip)
def A222:au:=(Zs [Zn 6 0,Zh 7 false] (Zs [Zm 12 0,Zm 13 1,Zo 14 (.call 246 [12,13]),Zm 11 14,Ze 15 11 0,Ze 16 11 1,Zm 8 15,Zm 9 16] (.seq (.seqr (.reg [Zm 17 9,Zo 18 (.un .not 17),Zm 19 18,Zg 20 (.mv 2) 19 false,Zg 21 (.call 76 [20,(.c (.i 1)),(.c (.i 1000))]) 19 false,Zg 22 (.un .not 21) 19 false,Zo 23 (.pick 19 (Zy true) 22)] []) [0,2,8,23] [] Lx) (.seq (.drw [Zm 24 2,Zm 25 0,Zm 26 8,Zx 27 2 25 26,Za 28 1 27,Zl 29 28,Zb 30 .add 24 29,Zd 31 .sub 30 1,Zm 32 0,Zm 33 8,Zx 34 2 32 33,Za 35 1 34,Zl 36 35,Zb 37 .quo 31 36,Zm 10 37] []) (.seq (Zs [Zm 38 10,Zd 39 .gtr 38 24] (.cond 39 (Zs [Zn 6 0,Zh 7 false] .ret) .skip)) (Zs [Zm 40 10,Zm 6 40,Zh 7 true] .ret))))))
def m222:ba A1 222 3 A222 gt=true:=by kernel_rfl
def xt:au:=(.cond 24 (.seq (.reg [Zo 6 (.mv (.c (.lst .u 3 []))),Zh 7 false] [.s 6]) .ret) .skip)
def nB:au:=(Zs [Zb 40 .lss 39 38] (.seq (.cond 40 .skip (.exit 0)) (.seq (.blk 1 (Zs [Zx 41 2 37 39,Zv 42 2 41,Zo 12 (.alloc (.agg [.i 0,.lst .u 1 []])),Zw (.store 2 12 42)] (.seq (.drw [Zm 44 1,Zv 45 2 3,Zv 46 2 12,Zo 47 (.call 223 [45,46]),Za 48 2 5,Zl 49 48,Zo 50 (.call 222 [44,47,49]),Zm 43 50,Ze 51 43 0,Ze 52 43 1,Zm 13 51,Zm 14 52] []) (Zs [Zm 53 14] (.cond 53 (.reg [Zm 54 10,Zv 55 2 12,Zm 56 13,Zo 57 (.build [.i 0,.lst .u 1 [],.i 0] [(0,2,55),(2,1,56)]),Zo 58 (.bsl 3 false [57]),Zo 59 (.app 3 40 true 54 58),Zm 10 59] [.s 10]) .skip))))) (.reg [Zd 60 .add 39 1,Zm 39 60] []))))
def yB:au:=(.seq (.reg [Zm 61 10,Zm 6 61,Zh 7 true] [.s 6]) .ret)
def SU:au:=(.seq (.reg [Zo 3 (.box 2 0),Zo 5 (.box 4 2),Zo 6 (.mv (.c (.lst .u 3 []))),Zh 7 false] [.s 6]) (.seq (.seqr (.reg [Zm 15 1,Zo 16 (.call 219 [15]),Zo 17 (.un .not 16),Zm 18 17,Zg 19 (.load 2 true 3) 18 false,Zg 20 (.load 4 true 5) 18 false,Zg 21 (.bsl 4 false [20]) 18 false,Zg 22 (.call 220 [19,21]) 18 false,Zg 23 (.un .not 22) 18 false,Zo 24 (.pick 18 (Zy true) 23)] []) [1,3,5,24] [3,5] xt) (.seq (.reg [Zv 26 2 3,Za 27 0 5,Zl 28 27,Za 29 1 5,Zl 30 29,Zo 31 (.call 221 [26,28,30]),Zm 25 31,Ze 32 25 0,Ze 33 25 1,Zm 8 32,Zm 9 33] [.s 8]) (.seq (Zs [Zm 34 9,Zo 35 (.un .not 34)] (.cond 35 (.seq (.reg [Zo 6 (.mv (.c (.lst .u 3 []))),Zh 7 false] [.s 6]) .ret) .skip)) (.seq (.reg [Zo 36 (.bsl 3 false []),Zm 10 36] [.s 10]) (.seqa (.reg [Zm 37 8,Zk 38 37,Zn 39 0] []) (.blk 0 (.loop nB)) [10] [10] yB))))))
def aav:ba A1 186 3 SU gt=true:=by kernel_rfl
def A187:au:=(Zs [Zo 1 (.box 3 0),Zn 2 0] (Zs [Za 3 2 1,Zl 4 3,Za 5 0 1,Za 6 1 5,Zl 7 6,Zk 8 7,Zb 9 .mul 4 8,Zm 2 9] .ret))
def m187:ba A1 187 1 A187 V10=true:=by kernel_rfl
def A238:au:=(Zs [Zo 2 (.box 3 0),Zo 3 (.box 3 1),Zn 4 0] (.seq (.drw [Zv 5 3 2,Zo 6 (.call 187 [5]),Zv 7 3 3,Zo 8 (.call 187 [7]),Zo 9 (.call 189 [6,8]),Zm 4 9] []) .ret))
def m238:ba A1 238 2 A238 aK=true:=by kernel_rfl
def zD:au:=(.cond 34 .skip (.exit 2))
def rB:au:=(.seq (.seqr (.drw [Zm 18 9,Zm 19 1,Zb 20 .gtr 18 19,Zm 21 20,Zg 22 (.mv 3) 21 true,Zg 23 (.mv 0) 21 true,Zg 24 (.mv 9) 21 true,Zg 25 (.idx 3 23 24) 21 true,Zg 26 (.load 3 true 25) 21 true,Zg 27 (.mv 0) 21 true,Zg 28 (.mv 9) 21 true,Zg 29 (.bin .sub 28 (.c (.i 1))) 21 true,Zg 30 (.idx 3 27 29) 21 true,Zg 31 (.load 3 true 30) 21 true,Zg 32 (.dyn 22 [26,31]) 21 true,Zg 33 (.bin .lss 32 (.c (.i 0))) 21 true,Zo 34 (.pick 21 33 (Zy false))] []) [0,1,2,3,8,9,34] [1000000000] zD) (.seq (.blk 3 (.drw [Zm 37 0,Zm 38 9,Zm 39 0,Zm 40 9,Zd 41 .sub 40 1,Zm 42 0,Zm 43 9,Zd 44 .sub 43 1,Zx 45 3 42 44,Zv 46 3 45,Zm 47 0,Zm 48 9,Zx 49 3 47 48,Zv 50 3 49,Zx 51 3 37 38,Zw (.store 3 51 46),Zx 52 3 39 41,Zw (.store 3 52 50)] [])) (.reg [Zm 35 9,Zd 36 .sub 35 1,Zm 9 36] [])))
def Aj:au:=(.reg [Zm 15 8,Zd 16 .add 15 1,Zm 8 16] [])
def rZ:au:=(.seq (Zs [Zm 12 8,Zm 13 2,Zb 14 .lss 12 13] (.cond 14 .skip (.exit 0))) (.seqr (.blk 1 (Zs [Zm 17 8,Zm 9 17] (.blk 2 (.loop rB)))) [0,1,2,3,8] [1000000000] Aj))
def SG:au:=(Zs [Zm 10 1,Zd 11 .add 10 1,Zm 8 11] (.blk 0 (.loop rZ)))
def afd:ba A1 272 4 SG bM=true:=by kernel_rfl
def sN:au:=(.seq (Zs [Zm 11 10,Zm 12 3,Zb 13 .lss 11 12] (.cond 13 .skip (.exit 0))) (.seq (.blk 1 (.drw [Zm 16 0,Zm 17 1,Zm 18 10,Zb 19 .add 17 18,Zm 20 0,Zm 21 2,Zm 22 10,Zb 23 .add 21 22,Zm 24 0,Zm 25 2,Zm 26 10,Zb 27 .add 25 26,Zx 28 3 24 27,Zv 29 3 28,Zm 30 0,Zm 31 1,Zm 32 10,Zb 33 .add 31 32,Zx 34 3 30 33,Zv 35 3 34,Zx 36 3 16 19,Zw (.store 3 36 29),Zx 37 3 20 23,Zw (.store 3 37 35)] [])) (.reg [Zm 14 10,Zd 15 .add 14 1,Zm 10 15] [])))
def Lc:au:=(Zs [Zn 10 0] (.blk 0 (.loop sN)))
def age:ba A1 287 5 Lc bM=true:=by kernel_rfl
def nc:au:=(.seq (Zs [Zm 18 10,Zm 19 11,Zb 20 .neq 18 19] (.cond 20 .skip (.exit 0))) (.blk 1 (Zs [Zm 21 10,Zm 22 11,Zb 23 .gtr 21 22] (.cond 23 (Zs [Zm 24 0,Zm 25 2,Zm 26 10,Zb 27 .sub 25 26,Zm 28 2,Zm 29 11,Zm 30 4,Zo 31 (.callM 287 [24,27,28,29,30] [1000000000])] (.reg [Zm 32 10,Zm 33 11,Zb 34 .sub 32 33,Zm 10 34] [])) (Zs [Zm 35 0,Zm 36 2,Zm 37 10,Zb 38 .sub 36 37,Zm 39 2,Zm 40 11,Zb 41 .add 39 40,Zm 42 10,Zb 43 .sub 41 42,Zm 44 10,Zm 45 4,Zo 46 (.callM 287 [35,38,43,44,45] [1000000000])] (.reg [Zm 47 11,Zm 48 10,Zb 49 .sub 47 48,Zm 11 49] []))))))
def xZ:au:=(.reg [Zm 50 0,Zm 51 2,Zm 52 10,Zb 53 .sub 51 52,Zm 54 2,Zm 55 10,Zm 56 4,Zo 57 (.callM 287 [50,53,54,55,56] [1000000000])] [])
def Ry:au:=(Zs [Zm 12 2,Zm 13 1,Zb 14 .sub 12 13,Zm 10 14] (Zs [Zm 15 3,Zm 16 2,Zb 17 .sub 15 16,Zm 11 17] (.seqr (.blk 0 (.loop nc)) [0,2,4,10] [1000000000] xZ)))
def aef:ba A1 277 5 Ry bM=true:=by kernel_rfl
def rL:au:=(.seq (Zs [Zm 31 10,Zm 32 11,Zb 33 .lss 31 32] (.cond 33 .skip (.exit 0))) (.blk 1 (Zs [Zm 34 10,Zm 35 11,Zb 36 .add 34 35,Zo 37 (.conv .u64 36),Zo 38 (.bin .shr 37 (.c (.sc (.int .u64 1)))),Zo 39 (.conv .i64 38),Zm 12 39] (.seq (.drw [Zm 40 4,Zm 41 0,Zm 42 12,Zx 43 3 41 42,Zv 44 3 43,Zm 45 0,Zm 46 1,Zx 47 3 45 46,Zv 48 3 47,Zo 49 (.dyn 40 [44,48]),Zd 50 .lss 49 0] []) (.cond 50 (.reg [Zm 51 12,Zd 52 .add 51 1,Zm 10 52] []) (.reg [Zm 53 12,Zm 11 53] []))))))
def rh:au:=(.seq (Zs [Zm 55 13,Zm 56 10,Zd 57 .sub 56 1,Zb 58 .lss 55 57] (.cond 58 .skip (.exit 2))) (.seq (.blk 3 (.drw [Zm 61 0,Zm 62 13,Zm 63 0,Zm 64 13,Zd 65 .add 64 1,Zm 66 0,Zm 67 13,Zd 68 .add 67 1,Zx 69 3 66 68,Zv 70 3 69,Zm 71 0,Zm 72 13,Zx 73 3 71 72,Zv 74 3 73,Zx 75 3 61 62,Zw (.store 3 75 70),Zx 76 3 63 65,Zw (.store 3 76 74)] [])) (.reg [Zm 59 13,Zd 60 .add 59 1,Zm 13 60] [])))
def zx:au:=.ret
def yN:au:=(.seqa (.reg [Zm 54 1,Zm 13 54] []) (.blk 2 (.loop rh)) [] [1000000000] zx)
def sw:au:=(.seq (Zs [Zm 83 14,Zm 84 15,Zb 85 .lss 83 84] (.cond 85 .skip (.exit 4))) (.blk 5 (Zs [Zm 86 14,Zm 87 15,Zb 88 .add 86 87,Zo 89 (.conv .u64 88),Zo 90 (.bin .shr 89 (.c (.sc (.int .u64 1)))),Zo 91 (.conv .i64 90),Zm 16 91] (.seq (.drw [Zm 92 4,Zm 93 0,Zm 94 2,Zx 95 3 93 94,Zv 96 3 95,Zm 97 0,Zm 98 16,Zx 99 3 97 98,Zv 100 3 99,Zo 101 (.dyn 92 [96,100]),Zd 102 .lss 101 0,Zo 103 (.un .not 102)] []) (.cond 103 (.reg [Zm 104 16,Zd 105 .add 104 1,Zm 14 105] []) (.reg [Zm 106 16,Zm 15 106] []))))))
def sZ:au:=(.seq (Zs [Zm 108 17,Zm 109 14,Zb 110 .gtr 108 109] (.cond 110 .skip (.exit 6))) (.seq (.blk 7 (.drw [Zm 113 0,Zm 114 17,Zm 115 0,Zm 116 17,Zd 117 .sub 116 1,Zm 118 0,Zm 119 17,Zd 120 .sub 119 1,Zx 121 3 118 120,Zv 122 3 121,Zm 123 0,Zm 124 17,Zx 125 3 123 124,Zv 126 3 125,Zx 127 3 113 114,Zw (.store 3 127 122),Zx 128 3 115 117,Zw (.store 3 128 126)] [])) (.reg [Zm 111 17,Zd 112 .sub 111 1,Zm 17 112] [])))
def Ao:au:=.ret
def Af:au:=(.seqa (.reg [Zm 107 2,Zm 17 107] []) (.blk 6 (.loop sZ)) [] [1000000000] Ao)
def nT:au:=(.seq (Zs [Zm 149 20,Zm 150 21,Zb 151 .lss 149 150] (.cond 151 .skip (.exit 8))) (.blk 9 (Zs [Zm 152 20,Zm 153 21,Zb 154 .add 152 153,Zo 155 (.conv .u64 154),Zo 156 (.bin .shr 155 (.c (.sc (.int .u64 1)))),Zo 157 (.conv .i64 156),Zm 23 157] (.seq (.drw [Zm 158 4,Zm 159 0,Zm 160 22,Zm 161 23,Zb 162 .sub 160 161,Zx 163 3 159 162,Zv 164 3 163,Zm 165 0,Zm 166 23,Zx 167 3 165 166,Zv 168 3 167,Zo 169 (.dyn 158 [164,168]),Zd 170 .lss 169 0,Zo 171 (.un .not 170)] []) (.cond 171 (.reg [Zm 172 23,Zd 173 .add 172 1,Zm 20 173] []) (.reg [Zm 174 23,Zm 21 174] []))))))
def uT:au:=(.cond 185 (.reg [Zm 186 0,Zm 187 20,Zm 188 2,Zm 189 24,Zm 190 4,Zo 191 (.callM 277 [186,187,188,189,190] [1000000000])] []) .skip)
def uI:au:=(.cond 199 (.reg [Zm 200 0,Zm 201 1,Zm 202 20,Zm 203 18,Zm 204 4,Zo 205 (.callM 273 [200,201,202,203,204] [1000000000])] []) .skip)
def uR:au:=(.cond 213 (.reg [Zm 214 0,Zm 215 18,Zm 216 24,Zm 217 3,Zm 218 4,Zo 219 (.callM 273 [214,215,216,217,218] [1000000000])] []) .skip)
def va:au:=(.seqr (.reg [Zm 206 18,Zm 207 24,Zb 208 .lss 206 207,Zm 209 208,Zg 210 (.mv 24) 209 true,Zg 211 (.mv 3) 209 true,Zg 212 (.bin .lss 210 211) 209 true,Zo 213 (.pick 209 212 (Zy false))] []) [0,3,4,18,24,213] [1000000000] uR)
def uW:au:=(.seqr (.seqr (.reg [Zm 192 1,Zm 193 20,Zb 194 .lss 192 193,Zm 195 194,Zg 196 (.mv 20) 195 true,Zg 197 (.mv 18) 195 true,Zg 198 (.bin .lss 196 197) 195 true,Zo 199 (.pick 195 198 (Zy false))] []) [0,1,3,4,18,20,24,199] [1000000000] uI) [0,3,4,18,24] [1000000000] va)
def vf:au:=(Zs [Zm 175 19,Zm 176 20,Zb 177 .sub 175 176,Zm 24 177] (.seqr (.seqr (.reg [Zm 178 20,Zm 179 2,Zb 180 .lss 178 179,Zm 181 180,Zg 182 (.mv 2) 181 true,Zg 183 (.mv 24) 181 true,Zg 184 (.bin .lss 182 183) 181 true,Zo 185 (.pick 181 184 (Zy false))] []) [0,1,2,3,4,18,20,24,185] [1000000000] uT) [0,1,3,4,18,20,24] [1000000000] uW))
def yh:au:=(Zs [Zm 147 19,Zd 148 .sub 147 1,Zm 22 148] (.seqr (.blk 8 (.loop nT)) [0,1,2,3,4,18,19,20] [1000000000] vf))
def LU:au:=(.seq (Zs [Zm 25 2,Zm 26 1,Zb 27 .sub 25 26,Zd 28 .eql 27 1] (.cond 28 (Zs [Zm 29 2,Zm 10 29] (Zs [Zm 30 3,Zm 11 30] (.seqr (.blk 0 (.loop rL)) [0,1,10] [1000000000] yN))) .skip)) (.seq (Zs [Zm 77 3,Zm 78 2,Zb 79 .sub 77 78,Zd 80 .eql 79 1] (.cond 80 (Zs [Zm 81 1,Zm 14 81] (Zs [Zm 82 2,Zm 15 82] (.seqr (.blk 4 (.loop sw)) [0,2,14] [1000000000] Af))) .skip)) (Zs [Zm 129 1,Zm 130 3,Zb 131 .add 129 130,Zo 132 (.conv .u64 131),Zo 133 (.bin .shr 132 (.c (.sc (.int .u64 1)))),Zo 134 (.conv .i64 133),Zm 18 134] (Zs [Zm 135 18,Zm 136 2,Zb 137 .add 135 136,Zm 19 137] (Zs [Zn 20 0,Zn 21 0] (.seqr (Zs [Zm 138 2,Zm 139 18,Zb 140 .gtr 138 139] (.cond 140 (Zs [Zm 141 19,Zm 142 3,Zb 143 .sub 141 142,Zm 20 143] (.reg [Zm 144 18,Zm 21 144] [])) (Zs [Zm 145 1,Zm 20 145] (.reg [Zm 146 2,Zm 21 146] [])))) [0,1,2,3,4,18,19,20,21] [1000000000] yh))))))
def abi:ba A1 273 5 LU bM=true:=by kernel_rfl
def mY:au:=(.seq (Zs [Zm 11 8,Zm 12 1,Zb 13 .leq 11 12] (.cond 13 .skip (.exit 0))) (.blk 1 (Zs [Zm 14 0,Zm 15 7,Zm 16 8,Zm 17 2,Zo 18 (.callM 272 [14,15,16,17] [1000000000])] (Zs [Zm 19 8,Zm 7 19] (.reg [Zm 20 8,Zm 21 6,Zb 22 .add 20 21,Zm 8 22] [])))))
def qo:au:=(.seq (Zs [Zm 33 8,Zm 34 1,Zb 35 .leq 33 34] (.cond 35 .skip (.exit 4))) (.blk 5 (Zs [Zm 36 0,Zm 37 7,Zm 38 7,Zm 39 6,Zb 40 .add 38 39,Zm 41 8,Zm 42 2,Zo 43 (.callM 273 [36,37,40,41,42] [1000000000])] (Zs [Zm 44 8,Zm 7 44] (.reg [Zm 45 8,Zm 46 6,Zo 47 (.bin .mul (.c (.i 2)) 46),Zb 48 .add 45 47,Zm 8 48] [])))))
def yE:au:=(.seq (Zs [Zm 49 7,Zm 50 6,Zb 51 .add 49 50,Zm 9 51] (Zs [Zm 52 9,Zm 53 1,Zb 54 .lss 52 53] (.cond 54 (.reg [Zm 55 0,Zm 56 7,Zm 57 9,Zm 58 1,Zm 59 2,Zo 60 (.callM 273 [55,56,57,58,59] [1000000000])] []) .skip))) (.reg [Zm 61 6,Zd 62 .mul 61 2,Zm 6 62] []))
def rY:au:=(.seq (Zs [Zm 28 6,Zm 29 1,Zb 30 .lss 28 29] (.cond 30 .skip (.exit 2))) (.blk 3 (Zs [Zm 31 6,Zo 32 (.bin .mul (.c (.i 2)) 31),Zn 7 0,Zm 8 32] (.seqr (.blk 4 (.loop qo)) [0,1,2,6,7] [1000000000] yE))))
def zK:au:=(Zs [Zm 23 0,Zm 24 7,Zm 25 1,Zm 26 2,Zo 27 (.callM 272 [23,24,25,26] [1000000000])] (.blk 2 (.loop rY)))
def Lp:au:=(Zs [Zn 6 20] (Zs [Zm 10 6,Zn 7 0,Zm 8 10] (.seqr (.blk 0 (.loop mY)) [0,1,2,6,7] [1000000000] zK)))
def afu:ba A1 260 3 Lp bM=true:=by kernel_rfl
def OK:au:=(.reg [Zm 4 0,Zm 5 0,Zk 6 5,Zm 7 1,Zo 8 (.callM 260 [4,6,7] [1000000000])] [])
def adv:ba A1 237 2 OK bM=true:=by kernel_rfl
def OP:au:=(.seq (.reg [Zo 2 (.mv (.c (.lst .u 3 [])))] [.s 2]) (Zs [Zm 3 0,Zo 4 (.callM 237 [3,(.c (.fn 238 []))] [1000000000])] (.seq (.reg [Zm 5 0,Zm 2 5] [.s 2]) .ret)))
def aev:ba A1 211 1 OP V10=true:=by kernel_rfl
def Ai:au:=(.cond 23 (.seq (.reg [Zo 24 (.build [.i 0,.lst .u 1 [],.i 0] []),Zw (.store 3 6 24),Zh 7 false] [.w 6]) .ret) .skip)
def Nt:au:=(Zs [Zo 3 (.box 2 0),Zo 5 (.box 4 2),Zo 6 (.alloc (.agg [.i 0,.lst .u 1 [],.i 0])),Zh 7 false] (.seq (.reg [Zv 11 2 3,Zm 12 1,Zv 13 4 5,Zo 14 (.callM 186 [11,12,13] []),Zm 10 14,Ze 15 10 0,Ze 16 10 1,Zm 8 15,Zm 9 16] [.s 8]) (.seq (.seqr (.reg [Zm 17 9,Zo 18 (.un .not 17),Zm 19 18,Zg 20 (.mv 8) 19 false,Zg 21 (.len 20) 19 false,Zg 22 (.bin .eql 21 (.c (.i 0))) 19 false,Zo 23 (.pick 19 (Zy true) 22)] []) [6,8,23] [6,8] Ai) (.seq (.reg [Zm 25 8,Zo 26 (.callM 211 [25] [8]),Zo 27 (.idx 3 26 (.c (.i 0))),Zv 28 3 27,Zw (.store 3 6 28),Zh 7 true] [.w 6]) .ret))))
def wn:List RV:=[.c 6 3 true,.t 7]
def aep:ba A1 156 3 Nt wn=true:=by kernel_rfl
def Az:au:=(.cond 85 (.drw [Zv 86 2 3,Za 87 0 18,Zv 88 2 87,Za 89 0 11,Zv 90 2 89,Zo 91 (.call 190 [86,88,90]),Zv 92 2 3,Za 93 0 19,Zv 94 2 93,Za 95 0 12,Zv 96 2 95,Zo 97 (.call 190 [92,94,96]),Zo 98 (.bsl 1 true [91,97]),Zo 99 (.call 188 [98]),Zm 20 99] []) .skip)
def AB:au:=(.cond 105 (.drw [Zv 106 3 18,Zo 107 (.ldv [11] 3 true 19),Zw (.stw 11 3 11 106),Zw (.stv 3 12 107),Zh 13 true] [.w 11,.w 12]) .skip)
def zH:au:=(.seqr (.reg [Zm 100 13,Zo 101 (.un .not 100),Zm 102 101,Zg 103 (.mv 20) 102 false,Zg 104 (.bin .lss 103 (.c (.i 0))) 102 false,Zo 105 (.pick 102 (Zy true) 104)] []) [3,6,7,9,11,12,13,15,18,19,34,35,36,44,45,46,105] [3,6,7,9,11,12,15,18,19] AB)
def zW:au:=(.seq (.drw [Zv 68 3 18,Zo 69 (.call 187 [68]),Zv 70 3 19,Zo 71 (.call 187 [70]),Zb 72 .add 69 71,Zv 73 3 11,Zo 74 (.call 187 [73]),Zv 75 3 12,Zo 76 (.call 187 [75]),Zb 77 .add 74 76,Zo 78 (.call 189 [72,77]),Zo 79 (.bsl 1 true [78,(.c (.i 0))]),Zo 80 (.call 188 [79]),Zm 20 80] []) (.seqr (.seqr (.reg [Zm 81 13,Zm 82 81,Zg 83 (.mv 20) 82 true,Zg 84 (.bin .eql 83 (.c (.i 0))) 82 true,Zo 85 (.pick 82 84 (Zy false))] []) [3,6,7,9,11,12,13,15,18,19,20,34,35,36,44,45,46,85] [3,6,7,9,11,12,15,18,19] Az) [3,6,7,9,11,12,13,15,18,19,20,34,35,36,44,45,46] [3,6,7,9,11,12,15,18,19] zH))
def tc:au:=(Zs [Zb 47 .lss 46 45] (.seq (.cond 47 .skip (.exit 2)) (.seq (.blk 3 (Zs [Zx 48 3 44 46,Zv 49 3 48,Zo 17 (.alloc (.agg [.i 0,.lst .u 1 [],.i 0])),Zw (.store 3 17 49)] (.seq (Zs [Zv 50 2 3,Za 51 0 15,Za 52 1 51,Zl 53 52,Za 54 0 17,Za 55 1 54,Zl 56 55,Zo 57 (.call 136 [50,53,56]),Zo 58 (.un .not 57)] (.cond 58 (.exit 3) .skip)) (.seq (.drw [Zo 59 (.ldv [] 3 true 15),Zo 60 (.ldv [] 3 true 17),Zo 18 (.alloc (.agg [.i 0,.lst .u 1 [],.i 0])),Zo 19 (.alloc (.agg [.i 0,.lst .u 1 [],.i 0])),Zw (.stv 3 18 59),Zw (.store 3 19 60)] []) (.seqr (.seq (.drw [Zv 61 3 17,Zo 62 (.call 187 [61]),Zv 63 3 15,Zo 64 (.call 187 [63]),Zb 65 .lss 62 64] []) (.cond 65 (.drw [Zv 66 3 17,Zo 67 (.ldv [18] 3 true 15),Zw (.stw 18 3 18 66),Zw (.store 3 19 67)] []) .skip)) [3,6,7,9,11,12,13,15,18,19,34,35,36,44,45,46] [3,6,7,9,11,12,15,18,19] zW))))) (.reg [Zd 108 .add 46 1,Zm 46 108] []))))
def xX:au:=(.reg [Zd 109 .add 36 1,Zm 36 109] [])
def rS:au:=(Zs [Zb 37 .lss 36 35] (.seq (.cond 37 .skip (.exit 0)) (.seqr (.blk 1 (Zs [Zm 38 36,Zx 39 3 34 36,Zv 40 3 39,Zo 15 (.alloc (.agg [.i 0,.lst .u 1 [],.i 0])),Zm 14 38,Zw (.store 3 15 40)] (Zs [Zm 41 9,Zm 42 14,Zd 43 .add 42 1,Zo 44 (.slc 3 41 (some 43) none none),Zk 45 44,Zn 46 0] (.blk 2 (.loop tc))))) [3,6,7,9,11,12,13,34,35,36] [3,6,7,9,11,12] xX)))
def zr:au:=(.seq (.drw [Zv 110 3 11,Zo 111 (.ldv [6] 3 true 12),Zm 112 13,Zw (.stw 6 3 6 110),Zw (.stv 3 7 111),Zm 8 112] []) .ret)
def Qj:au:=(Zs [Zo 3 (.box 2 0),Zo 5 (.box 4 2),Zo 6 (.alloc (.agg [.i 0,.lst .u 1 [],.i 0])),Zo 7 (.alloc (.agg [.i 0,.lst .u 1 [],.i 0])),Zh 8 false] (.seq (.reg [Zv 22 2 3,Zm 23 1,Zv 24 4 5,Zo 25 (.callM 186 [22,23,24] []),Zm 21 25,Ze 26 21 0,Ze 27 21 1,Zm 9 26,Zm 10 27] [.s 9]) (.seq (.reg [Zo 28 (.build [.i 0,.lst .u 1 [],.i 0] []),Zo 29 (.build [.i 0,.lst .u 1 [],.i 0] []),Zo 11 (.alloc (.agg [.i 0,.lst .u 1 [],.i 0])),Zo 12 (.alloc (.agg [.i 0,.lst .u 1 [],.i 0])),Zw (.store 3 11 28),Zw (.store 3 12 29),Zh 13 false] [.w 11,.w 12]) (.seq (Zs [Zm 30 10,Zo 31 (.un .not 30)] (.cond 31 (.seq (.drw [Zv 32 3 11,Zo 33 (.ldv [6] 3 true 12),Zw (.stw 6 3 6 32),Zw (.stv 3 7 33),Zh 8 false] []) .ret) .skip)) (.seqa (.reg [Zm 34 9,Zk 35 34,Zn 36 0] []) (.blk 0 (.loop rS)) [6,7,11,12,13] [6,7,11,12] zr)))))
def vT:List RV:=[.c 6 3 true,.c 7 3 true,.t 8]
def aan:ba A1 124 3 Qj vT=true:=by kernel_rfl
def A212:au:=(Zs [Zo 3 (.box 10 0),Zh 4 false] (Zs [Zv 5 2 1,Zv 6 10 3,Zv 7 10 2,Zo 8 (.call 97 [5,6,7]),Zo 9 (.un .not 8),Zm 4 9] .ret))
def m212:ba A1 212 3 A212 aK=true:=by kernel_rfl
def A159:au:=(Zs [Zo 3 (.box 2 0),Zo 5 (.box 10 2),Zh 6 false] (Zs [Zm 7 1,Zo 8 (.mkf 212 [3,5]),Zo 9 (.call 95 [7,8]),Zo 10 (.un .not 9),Zm 6 10] .ret))
def m159:ba A1 159 3 A159 dt=true:=by kernel_rfl
def KJ:au:=(Zs [Zo 4 (.box 2 0),Zh 5 false] (Zs [Zv 6 2 4,Za 7 4 1,Zw (.store 2 7 6)] (Zs [Zv 8 2 2,Zl 9 3,Zv 10 10 1,Zo 11 (.call 159 [8,9,10]),Zm 5 11] .ret)))
def afz:ba A1 158 4 KJ An=true:=by kernel_rfl
def sU:au:=(.seq (Zs [Zm 7 6,Zm 8 0,Zb 9 .add 7 8,Zd 10 .leq 9 24] (.cond 10 .skip (.exit 0))) (.seq (.blk 1 (Zs [Zm 13 1,Zm 14 6,Zm 15 0,Zo 16 (.build [.i 0,.i 0] [(0,1,14),(1,1,15)]),Zo 17 (.dynM 13 [16] [1000000002,1000000000,1000000001])] (.cond 17 (Zs [Zm 18 6,Zm 19 0,Zo 20 (.build [.i 0,.i 0] [(0,1,18),(1,1,19)]),Zw (.store 2 4 20),Zh 5 true] .ret) .skip))) (.reg [Zm 11 6,Zd 12 .add 11 1,Zm 6 12] [])))
def Ad:au:=(Zs [Zo 21 (.build [.i 0,.i 0] []),Zw (.store 2 4 21),Zh 5 false] .ret)
def RQ:au:=(Zs [Zo 4 (.alloc (.agg [.i 0,.i 0])),Zh 5 false] (.seqa (.reg [Zn 6 0] []) (.blk 0 (.loop sU)) [4] [4,1000000000,1000000001,1000000002] Ad))
def iR:List RV:=[.c 4 2 true,.t 5]
def abg:ba A1 157 2 RQ iR=true:=by kernel_rfl
def MN:au:=(Zs [Zo 4 (.box 2 0),Zh 5 false] (Zs [Zv 6 2 4,Za 7 8 1,Zw (.store 2 7 6)] (Zs [Zv 8 2 2,Zl 9 3,Zv 10 10 1,Zo 11 (.call 159 [8,9,10]),Zm 5 11] .ret)))
def adc:ba A1 160 4 MN An=true:=by kernel_rfl
def qw:au:=(.seq (Zs [Zm 7 6,Zm 8 0,Zb 9 .add 7 8,Zd 10 .leq 9 24] (.cond 10 .skip (.exit 0))) (.seq (.blk 1 (Zs [Zm 13 1,Zm 14 6,Zm 15 0,Zo 16 (.build [.i 0,.i 0] [(0,1,14),(1,1,15)]),Zo 17 (.dynM 13 [16] [1000000002,1000000000,1000000001])] (.cond 17 (Zs [Zm 18 6,Zm 19 0,Zo 20 (.build [.i 0,.i 0] [(0,1,18),(1,1,19)]),Zw (.store 2 4 20),Zh 5 true] .ret) .skip))) (.reg [Zm 11 6,Zd 12 .add 11 1,Zm 6 12] [])))
def yQ:au:=(Zs [Zo 21 (.build [.i 0,.i 0] []),Zw (.store 2 4 21),Zh 5 false] .ret)
def LV:au:=(Zs [Zo 4 (.alloc (.agg [.i 0,.i 0])),Zh 5 false] (.seqa (.reg [Zn 6 0] []) (.blk 0 (.loop qw)) [4] [4,1000000000,1000000001,1000000002] yQ))
def aga:ba A1 157 2 LV iR=true:=by kernel_rfl
def wz:au:=(.seq (Zs [Zl 15 6,Zo 16 (.mkf 155 [10]),Zo 17 (.call 95 [15,16])] (.cond 17 .skip (.exit 0))) (.blk 1 (.reg [Za 18 0 10,Zl 19 18,Zd 20 .add 19 1,Za 21 0 10,Zw (.store 1 21 20)] [])))
def Fh:au:=(.cond 64 (.seq (.reg [Zv 65 10 10,Zm 66 12,Zw (.store 10 8 65),Zm 9 66] [.w 8,.w 8]) .ret) .skip)
def Fs:au:=(.seq (Zs [Zm 41 12,Zo 42 (.un .not 41)] (.cond 42 (.seq (.reg [Zo 43 (.build [.i 0,.i 0,.i 0,.lst .u 1 [],.i 0,.i 0,.i 0,.lst .u 1 [],.i 0,.i 0] []),Zw (.store 10 8 43),Zh 9 false] [.w 8,.w 8]) .ret) .skip)) (.seq (.reg [Za 44 0 11,Zv 45 2 44,Za 46 2 10,Zw (.store 2 46 45)] [.w 10]) (Zs [Za 48 2 11,Zl 49 48,Zo 50 (.mkf 158 [10,4,6]),Zo 51 (.callM 157 [49,50] [4,6,10]),Zm 47 51,Ze 52 47 0,Ze 53 47 1,Za 54 4 10,Zw (.store 2 54 52),Zm 12 53] (Zs [Za 55 3 7,Zl 56 55,Za 57 1 10,Zw (.store 1 57 56)] (.seq (.seqr (.reg [Zm 58 12,Zo 59 (.un .not 58),Zm 60 59,Zg 61 (.fad 3 7) 60 false,Zg 62 (.load 1 false 61) 60 false,Zg 63 (.bin .eql 62 (.c (.i 0))) 60 false,Zo 64 (.pick 60 (Zy true) 63)] []) [4,6,8,10,12,13,64] [4,6,8,10,13] Fh) (.seq (.reg [Za 67 0 13,Zv 68 2 67,Za 69 6 10,Zw (.store 2 69 68)] [.w 10]) (Zs [Za 71 2 13,Zl 72 71,Zo 73 (.mkf 160 [10,4,6]),Zo 74 (.callM 157 [72,73] [4,6,10]),Zm 70 74,Ze 75 70 0,Ze 76 70 1,Za 77 8 10,Zw (.store 2 77 75),Zm 12 76] (.seq (.reg [Zv 78 10 10,Zm 79 12,Zw (.store 10 8 78),Zm 9 79] [.w 8,.w 8]) .ret))))))))
def Fc:au:=(Zs [Zv 23 2 4,Zm 24 1,Zv 25 4 7,Zo 26 (.callM 156 [23,24,25] []),Zm 22 26,Ze 27 22 0,Ze 28 22 1,Zo 11 (.alloc (.agg [.i 0,.lst .u 1 [],.i 0])),Zw (.store 3 11 27),Zm 12 28] (.seq (.reg [Zo 29 (.build [.i 0,.lst .u 1 [],.i 0] []),Zo 13 (.alloc (.agg [.i 0,.lst .u 1 [],.i 0])),Zw (.store 3 13 29)] [.w 13]) (.seqr (Zs [Za 30 3 7,Zl 31 30,Zd 32 .neq 31 0] (.cond 32 (.reg [Zv 34 2 4,Zm 35 1,Zv 36 4 7,Zo 37 (.callM 124 [34,35,36] []),Zm 33 37,Ze 38 33 0,Ze 39 33 1,Ze 40 33 2,Zw (.store 3 11 38),Zw (.store 3 13 39),Zm 12 40] [.w 13]) .skip)) [4,6,7,8,10,11,12,13] [4,6,7,8,10,11,13] Fs)))
def aaf:au:=(Zs [Zo 4 (.box 2 0),Zo 6 (.box 1 2),Zo 7 (.box 4 3),Zo 8 (.alloc (.agg [.i 0,.i 0,.i 0,.lst .u 1 [],.i 0,.i 0,.i 0,.lst .u 1 [],.i 0,.i 0])),Zh 9 false] (.seq (.reg [Zo 14 (.build [.i 0,.i 0,.i 0,.lst .u 1 [],.i 0,.i 0,.i 0,.lst .u 1 [],.i 0,.i 0] [(0,1,(.c (.i 1)))]),Zo 10 (.alloc (.agg [.i 0,.i 0,.i 0,.lst .u 1 [],.i 0,.i 0,.i 0,.lst .u 1 [],.i 0,.i 0])),Zw (.store 10 10 14)] [.w 10,.w 10]) (.seqr (.blk 0 (.loop wz)) [1,4,6,7,8,10] [4,6,7,8,10] Fc)))
def xQ:List RV:=[.c 8 10 true,.t 9]
def ahx:ba A1 85 4 aaf xQ=true:=by kernel_rfl
def A161:au:=(Zs [Zo 1 (.box 2 0),Zo 2 (.alloc (.agg [.i 0,.lst .u 1 []]))] (.seq (.drw [Zo 3 (.fdv [] 0 1),Zo 4 (.ldv [] 1 false 3),Zo 5 (.bsl 1 true []),Za 6 1 1,Zl 7 6,Zo 8 (.app 1 8 false 5 7),Zo 9 (.build [.i 0,.lst .u 1 []] [(0,1,4),(1,1,8)]),Zw (.store 2 2 9)] []) .ret))
def m161:ba A1 161 1 A161 dL=true:=by kernel_rfl
def EA:au:=(Zs [Zb 10 .lss 9 8] (.seq (.cond 10 .skip (.exit 0)) (.seq (.blk 1 (Zs [Zx 11 10 7 9,Zv 12 10 11,Zo 5 (.alloc (.agg [.i 0,.i 0,.i 0,.lst .u 1 [],.i 0,.i 0,.i 0,.lst .u 1 [],.i 0,.i 0])),Zw (.store 10 5 12)] (.seq (.drw [Za 13 2 5,Zv 14 2 13,Zo 15 (.call 161 [14]),Za 16 6 5,Zv 17 2 16,Zo 18 (.call 161 [17]),Za 19 2 5,Zw (.store 2 19 15),Za 20 6 5,Zw (.store 2 20 18)] []) (.reg [Zm 21 3,Zv 22 10 5,Zo 23 (.bsl 10 false [22]),Zo 24 (.app 10 112 true 21 23),Zm 3 24] [.s 3])))) (.reg [Zd 25 .add 9 1,Zm 9 25] []))))
def Zz:au:=(.seq (.reg [Zm 26 3,Zm 2 26] [.s 2]) .ret)
def A86:au:=(.seq (.reg [Zo 2 (.mv (.c (.lst .u 10 [])))] [.s 2]) (.seq (.reg [Zo 6 (.bsl 10 false []),Zm 3 6] [.s 3]) (.seqa (.reg [Zm 7 0,Zk 8 7,Zn 9 0] []) (.blk 0 (.loop EA)) [3] [3] Zz)))
def m86:ba A1 86 1 A86 V10=true:=by kernel_rfl
def Ys:au:=(.cond 23 (.seq (.reg [Zo 8 (.mv (.c (.lst .u 10 []))),Zn 9 0,Zh 10 false] [.s 8]) .ret) .skip)
def Fy:au:=(.seq (.seq (.drw [Zm 36 14,Zm 37 2,Zk 38 37,Zb 39 .lss 36 38,Zm 40 39,Zg 41 (.mv 2) 40 true,Zg 42 (.mv 14) 40 true,Zg 43 (.idx 10 41 42) 40 true,Zg 44 (.fad 0 43) 40 true,Zg 45 (.load 1 false 44) 40 true,Zg 46 (.fad 0 11) 40 true,Zg 47 (.load 1 false 46) 40 true,Zg 48 (.bin .lss 45 47) 40 true,Zo 49 (.pick 40 48 (Zy false))] []) (.cond 49 .skip (.exit 0))) (.blk 1 (.reg [Zm 50 14,Zd 51 .add 50 1,Zm 14 51] [])))
def ZD:au:=(.seq (.drw [Zm 52 13,Zm 53 14,Zv 54 10 11,Zo 55 (.bsm 10 [54]),Zo 56 (.call 86 [55]),Zo 57 (.callM 87 [52,53,56] [13,56]),Zo 58 (.fdv [13,56] 0 11),Zo 59 (.ldv [13,56] 1 false 58),Zm 8 57,Zm 9 59,Zh 10 true] [.s 8]) .ret)
def A22:au:=(.seq (.reg [Zo 4 (.box 2 0),Zo 7 (.box 4 3),Zo 8 (.mv (.c (.lst .u 10 []))),Zn 9 0,Zh 10 false] [.s 8]) (.seq (.seqr (.reg [Zv 15 2 4,Zm 16 2,Zo 17 (.call 24 [15,16]),Zo 18 (.un .not 17),Zm 19 18,Zg 20 (.mv 2) 19 false,Zg 21 (.len 20) 19 false,Zg 22 (.bin .eql 21 (.c (.i 8))) 19 false,Zo 23 (.pick 19 (Zy true) 22)] []) [1,2,4,7,23] [4,7] Ys) (Zs [Zv 25 2 4,Zm 26 1,Zm 27 2,Zv 28 4 7,Zo 29 (.callM 85 [25,26,27,28] []),Zm 24 29,Ze 30 24 0,Ze 31 24 1,Zo 11 (.alloc (.agg [.i 0,.i 0,.i 0,.lst .u 1 [],.i 0,.i 0,.i 0,.lst .u 1 [],.i 0,.i 0])),Zw (.store 10 11 30),Zm 12 31] (.seq (Zs [Zm 32 12,Zo 33 (.un .not 32)] (.cond 33 (.seq (.reg [Zo 8 (.mv (.c (.lst .u 10 []))),Zn 9 0,Zh 10 false] [.s 8]) .ret) .skip)) (.seq (.reg [Zm 34 2,Zo 35 (.call 86 [34]),Zm 13 35,Zn 14 0] [.s 13]) (.seqr (.blk 0 (.loop Fy)) [11,13,14] [11,13] ZD))))))
def m22:ba A1 22 4 A22 kr=true:=by kernel_rfl
def pZ:au:=(.seq (.blk 1 (.seq (Zs [Zm 20 13,Zm 21 3,Zb 22 .add 20 21,Zd 23 .gtr 22 24] (.cond 23 (Zs [Zv 24 10 7,Zw (.store 10 10 24),Zh 11 false] .ret) .skip)) (Zs [Zm 25 13,Zm 26 3,Zo 27 (.build [.i 0,.i 0] [(0,1,25),(1,1,26)]),Za 28 4 12,Zw (.store 2 28 27)] (Zs [Zv 29 2 5,Zm 30 1,Zv 31 10 12,Zo 32 (.call 166 [29,30,31])] (.cond 32 (.exit 0) .skip))))) (.reg [Zm 18 13,Zd 19 .add 18 1,Zm 13 19] []))
def qg:au:=(.seq (Zs [Zm 40 14,Zm 41 4,Zb 42 .add 40 41,Zd 43 .leq 42 24] (.cond 43 .skip (.exit 2))) (.seq (.blk 3 (Zs [Zm 46 14,Zm 47 4,Zo 48 (.build [.i 0,.i 0] [(0,1,46),(1,1,47)]),Za 49 8 7,Zw (.store 2 49 48)] (Zs [Zv 50 2 5,Zm 51 1,Zv 52 10 7,Zo 53 (.call 166 [50,51,52])] (.cond 53 (Zs [Zv 54 10 7,Zw (.store 10 10 54),Zh 11 true] .ret) .skip)))) (.reg [Zm 44 14,Zd 45 .add 44 1,Zm 14 45] [])))
def Fz:au:=(Zs [Zv 55 10 7,Zw (.store 10 10 55),Zh 11 false] .ret)
def DK:au:=(Zs [Za 33 4 12,Zv 34 2 33,Za 35 4 7,Zw (.store 2 35 34)] (.seq (Zs [Za 36 1 7,Zl 37 36,Zd 38 .eql 37 0] (.cond 38 (Zs [Zv 39 10 7,Zw (.store 10 10 39),Zh 11 true] .ret) .skip)) (.seqa (.reg [Zn 14 0] []) (.blk 2 (.loop qg)) [7,10] [7,10,1000000000] Fz)))
def ZZ:au:=(Zs [Zo 5 (.box 2 0),Zo 7 (.box 10 2),Zo 10 (.alloc (.agg [.i 0,.i 0,.i 0,.lst .u 1 [],.i 0,.i 0,.i 0,.lst .u 1 [],.i 0,.i 0])),Zh 11 false] (Zs [Za 15 2 7,Zv 16 2 15,Zo 17 (.build [.i 0,.i 0,.i 0,.lst .u 1 [],.i 0,.i 0,.i 0,.lst .u 1 [],.i 0,.i 0] [(1,1,(.c (.i 0))),(2,2,16)]),Zo 12 (.alloc (.agg [.i 0,.i 0,.i 0,.lst .u 1 [],.i 0,.i 0,.i 0,.lst .u 1 [],.i 0,.i 0])),Zw (.store 10 12 17)] (.seqa (.reg [Zn 13 0] []) (.blk 0 (.loop pZ)) [1,4,5,7,10,12] [5,7,10,12,1000000000] DK)))
def ajz:ba A1 92 5 ZZ gB=true:=by kernel_rfl
def EV:au:=(.cond 32 (.seq (.reg [Zm 33 11,Zm 8 33,Zn 9 0,Zh 10 false] [.s 8]) .ret) .skip)
def DS:au:=(.cond 50 .skip (.exit 0))
def wL:au:=(.seq (.seqr (.drw [Zm 37 13,Zm 38 2,Zk 39 38,Zb 40 .lss 37 39,Zm 41 40,Zg 42 (.mv 2) 41 true,Zg 43 (.mv 13) 41 true,Zg 44 (.idx 10 42 43) 41 true,Zg 45 (.fad 0 44) 41 true,Zg 46 (.load 1 false 45) 41 true,Zg 47 (.fad 0 12) 41 true,Zg 48 (.load 1 false 47) 41 true,Zg 49 (.bin .eql 46 48) 41 true,Zo 50 (.pick 41 49 (Zy false))] []) [1,2,4,7,11,12,13,50] [4,7,11,12,1000000000,1000000001] DS) (.seq (.blk 1 (.reg [Za 53 0 12,Zl 54 53,Zd 55 .add 54 1,Za 56 0 12,Zw (.store 1 56 55)] [])) (.reg [Zm 51 13,Zd 52 .add 51 1,Zm 13 52] [])))
def Dz:au:=(.seq (.reg [Zv 94 2 14,Za 95 2 12,Zw (.store 2 95 94)] [.w 12]) (.seq (.drw [Zv 97 2 4,Zm 98 2,Zv 99 10 12,Zm 100 1,Zv 101 2 4,Zv 102 2 14,Zo 103 (.call 91 [101,102]),Za 104 2 7,Zl 105 104,Zo 106 (.call 90 [100,103,105]),Zm 107 17,Zo 108 (.callM 92 [97,98,99,106,107] [1000000001]),Zm 96 108,Ze 109 96 0,Ze 110 96 1,Zo 21 (.alloc (.agg [.i 0,.i 0,.i 0,.lst .u 1 [],.i 0,.i 0,.i 0,.lst .u 1 [],.i 0,.i 0])),Zw (.store 10 21 109),Zm 22 110] []) (.seq (Zs [Zm 111 22,Zo 112 (.un .not 111)] (.cond 112 (.seq (.reg [Zm 113 11,Zm 8 113,Zn 9 0,Zh 10 false] [.s 8]) .ret) .skip)) (.seq (.drw [Zm 114 2,Zv 115 10 21,Zo 116 (.call 93 [114,115]),Za 117 0 21,Zl 118 117,Zm 8 116,Zm 9 118,Zh 10 true] [.s 8]) .ret))))
def FF:au:=(.seq (Zs [Zm 80 16,Zo 81 (.un .not 80)] (.cond 81 (.seq (.reg [Zm 82 11,Zm 8 82,Zn 9 0,Zh 10 false] [.s 8]) .ret) .skip)) (.seqr (Zs [Za 83 3 7,Zl 84 83,Zd 85 .neq 84 0] (.cond 85 (.drw [Zm 86 1,Zv 87 2 4,Za 88 6 12,Zv 89 2 88,Zo 90 (.call 91 [87,89]),Za 91 2 7,Zl 92 91,Zo 93 (.call 90 [86,90,92]),Zm 17 93] []) .skip)) [1,2,4,7,11,12,14,17] [4,7,11,12,14,1000000000,1000000001] Dz))
def DJ:au:=(Zs [Zv 58 2 4,Zm 59 1,Zv 60 4 7,Zo 61 (.callM 89 [58,59,60] [1000000000]),Zm 57 61,Ze 62 57 0,Ze 63 57 1,Ze 64 57 2,Zo 14 (.alloc (.agg [.i 0,.lst .u 1 []])),Zw (.store 2 14 62),Zm 15 63,Zm 16 64] (Zs [Zn 17 0] (.seqr (Zs [Za 65 3 7,Zl 66 65,Zd 67 .neq 66 0] (.cond 67 (Zs [Zv 69 2 4,Zm 70 1,Zv 71 4 7,Zo 72 (.callM 44 [69,70,71] [1000000000]),Zm 68 72,Ze 73 68 0,Ze 74 68 1,Ze 75 68 2,Zo 18 (.alloc (.agg [.i 0,.lst .u 1 []])),Zo 19 (.alloc (.agg [.i 0,.lst .u 1 []])),Zw (.store 2 18 73),Zw (.store 2 19 74),Zm 20 75] (Zs [Zv 76 2 18,Zw (.store 2 14 76)] (Zs [Zm 77 20,Zm 16 77] (.reg [Zv 78 2 19,Za 79 6 12,Zw (.store 2 79 78)] [.w 12])))) .skip)) [1,2,4,7,11,12,14,16,17] [4,7,11,12,14,1000000000,1000000001] FF)))
def ZN:au:=(.seq (.reg [Zo 4 (.box 2 0),Zo 7 (.box 4 3),Zo 8 (.mv (.c (.lst .u 10 []))),Zn 9 0,Zh 10 false] [.s 8,.w 4,.w 4]) (.seq (.reg [Zo 23 (.bsl 10 false []),Zm 11 23] [.s 11]) (.seq (.seqr (.reg [Zv 24 2 4,Zm 25 2,Zo 26 (.call 88 [24,25]),Zo 27 (.un .not 26),Zm 28 27,Zg 29 (.mv 2) 28 false,Zg 30 (.len 29) 28 false,Zg 31 (.bin .eql 30 (.c (.i 8))) 28 false,Zo 32 (.pick 28 (Zy true) 31)] []) [1,2,4,7,11,32] [4,7,11,1000000000,1000000001] EV) (.seq (.reg [Za 34 3 7,Zl 35 34,Zo 36 (.build [.i 0,.i 0,.i 0,.lst .u 1 [],.i 0,.i 0,.i 0,.lst .u 1 [],.i 0,.i 0] [(0,1,(.c (.i 1))),(1,1,35)]),Zo 12 (.alloc (.agg [.i 0,.i 0,.i 0,.lst .u 1 [],.i 0,.i 0,.i 0,.lst .u 1 [],.i 0,.i 0])),Zw (.store 10 12 36)] [.w 12,.w 12]) (.seqa (.reg [Zn 13 0] []) (.blk 0 (.loop wL)) [1,2,4,7,11,12] [4,7,11,12,1000000000,1000000001] DJ)))))
def ajb:ba A1 23 4 ZN kr=true:=by kernel_rfl
def A99:au:=(Zs [Zo 2 (.box 10 0),Zh 3 false] (Zs [Za 4 0 2,Zl 5 4,Zl 6 1,Zb 7 .eql 5 6,Zm 3 7] .ret))
def m99:ba A1 99 2 A99 tU=true:=by kernel_rfl
def OI:au:=(.seq (.reg [Zo 6 (.mv (.c (.lst .u 10 [])))] [.s 6]) (Zs [Zm 8 0,Zm 9 1,Zm 10 2,Zm 11 0,Zk 12 11,Zo 13 (.slm 10 8 9 10 12)] (.seq (Zs [Zm 14 1,Zm 15 2,Zb 16 .eql 14 15] (.cond 16 (.seq (.reg [Zm 17 0,Zm 6 17] [.s 6]) .ret) .skip)) (Zs [Zm 18 0,Zk 19 18,Zm 7 19] (.seq (.drw [Zm 20 0,Zm 21 1,Zo 22 (.slx 10 20 none (some 21)),Zm 23 0,Zm 24 2,Zo 25 (.slx 10 23 (some 24) none),Zo 26 (.apq 10 22 25),Zm 0 26] [.s 0]) (Zs [Zm 27 0,Zm 28 0,Zk 29 28,Zm 30 7,Zo 31 (.slx 10 27 (some 29) (some 30)),Zw (.clr 10 (.agg [.i 0,.i 0,.i 0,.sc (.slice none 0 0),.i 0,.i 0,.i 0,.sc (.slice none 0 0),.i 0,.i 0]) 31)] (.seq (.reg [Zm 32 0,Zm 6 32] [.s 6]) .ret)))))))
def agn:ba A1 100 3 OI dt=true:=by kernel_rfl
def YG:au:=(.cond 19 (.seq (.reg [Zo 6 (.mv (.c (.lst .u 10 []))),Zh 7 false] [.s 6]) .ret) .skip)
def A25:au:=(.seq (.reg [Zo 3 (.box 2 0),Zo 5 (.box 1 2),Zo 6 (.mv (.c (.lst .u 10 []))),Zh 7 false] [.s 6]) (Zs [Zm 9 1,Zo 10 (.mkf 99 [5]),Zo 11 (.call 98 [9,10]),Zm 8 11] (.seq (.seqr (.reg [Zv 12 2 3,Zm 13 1,Zo 14 (.call 24 [12,13]),Zo 15 (.un .not 14),Zm 16 15,Zg 17 (.mv 8) 16 false,Zg 18 (.bin .lss 17 (.c (.i 0))) 16 false,Zo 19 (.pick 16 (Zy true) 18)] []) [1,8,19] [] YG) (.seq (.reg [Zm 20 1,Zo 21 (.call 86 [20]),Zm 22 8,Zm 23 8,Zd 24 .add 23 1,Zo 25 (.callM 100 [21,22,24] [21]),Zm 6 25,Zh 7 true] [.s 6]) .ret))))
def m25:ba A1 25 3 A25 gt=true:=by kernel_rfl
def Fi:au:=(.seq (Zs [Zm 11 5,Zm 12 0,Zk 13 12,Zb 14 .lss 11 13] (.cond 14 .skip (.exit 0))) (.seq (.blk 1 (.seq (.drw [Zm 17 0,Zm 18 5,Zx 19 1 17 18,Zl 20 19,Zm 21 1,Zm 22 5,Zx 23 1 21 22,Zl 24 23,Zb 25 .neq 20 24] []) (.cond 25 (Zs [Zh 4 false] .ret) .skip))) (.reg [Zm 15 5,Zd 16 .add 15 1,Zm 5 16] [])))
def aad:au:=(Zs [Zh 4 true] .ret)
def A14:au:=(Zs [Zh 4 false] (.seq (Zs [Zm 6 0,Zk 7 6,Zm 8 1,Zk 9 8,Zb 10 .neq 7 9] (.cond 10 (Zs [Zh 4 false] .ret) .skip)) (.seqa (.reg [Zn 5 0] []) (.blk 0 (.loop Fi)) [] [] aad)))
def m14:ba A1 14 2 A14 aK=true:=by kernel_rfl
def A61:au:=(Zs [Zo 2 (.box 2 0),Zo 3 (.box 2 1),Zh 4 false] (Zs [Za 5 0 2,Zl 6 5,Za 7 0 3,Zl 8 7,Zb 9 .eql 6 8,Zm 10 9,Zg 11 (.fad 1 2) 10 true,Zg 12 (.load 1 false 11) 10 true,Zg 13 (.fad 1 3) 10 true,Zg 14 (.load 1 false 13) 10 true,Zg 15 (.call 14 [12,14]) 10 true,Zo 16 (.pick 10 15 (Zy false)),Zm 4 16] .ret))
def m61:ba A1 61 2 A61 aK=true:=by kernel_rfl
def A26:au:=(Zs [Zo 2 (.box 10 0),Zo 3 (.box 10 1),Zh 4 false] (Zs [Za 5 0 2,Zl 6 5,Za 7 0 3,Zl 8 7,Zb 9 .eql 6 8,Zm 10 9,Zg 11 (.fad 1 2) 10 true,Zg 12 (.load 1 false 11) 10 true,Zg 13 (.fad 1 3) 10 true,Zg 14 (.load 1 false 13) 10 true,Zg 15 (.bin .eql 12 14) 10 true,Zo 16 (.pick 10 15 (Zy false)),Zm 17 16,Zg 18 (.fad 4 2) 17 true,Zg 19 (.load 2 true 18) 17 true,Zg 20 (.fad 4 3) 17 true,Zg 21 (.load 2 true 20) 17 true,Zg 22 (.aeq false 19 21) 17 true,Zo 23 (.pick 17 22 (Zy false)),Zm 24 23,Zg 25 (.fad 8 2) 24 true,Zg 26 (.load 2 true 25) 24 true,Zg 27 (.fad 8 3) 24 true,Zg 28 (.load 2 true 27) 24 true,Zg 29 (.aeq false 26 28) 24 true,Zo 30 (.pick 24 29 (Zy false)),Zm 31 30,Zg 32 (.fad 2 2) 31 true,Zg 33 (.load 2 true 32) 31 true,Zg 34 (.fad 2 3) 31 true,Zg 35 (.load 2 true 34) 31 true,Zg 36 (.call 61 [33,35]) 31 true,Zo 37 (.pick 31 36 (Zy false)),Zm 38 37,Zg 39 (.fad 6 2) 38 true,Zg 40 (.load 2 true 39) 38 true,Zg 41 (.fad 6 3) 38 true,Zg 42 (.load 2 true 41) 38 true,Zg 43 (.call 61 [40,42]) 38 true,Zo 44 (.pick 38 43 (Zy false)),Zm 4 44] .ret))
def m26:ba A1 26 2 A26 aK=true:=by kernel_rfl
def Bq:au:=(Zs [Zb 33 .lss 32 31] (.seq (.cond 33 .skip (.exit 2)) (.seq (.blk 3 (Zs [Zx 34 1 30 32,Zl 35 34,Zm 11 35] (.drw [Zm 36 6,Zm 37 11,Zx 38 1 36 37,Zl 39 38,Za 40 4 9,Zv 41 2 40,Zo 42 (.call 69 [41]),Zb 43 .or 39 42,Zx 44 1 36 37,Zw (.store 1 44 43)] []))) (.reg [Zd 45 .add 32 1,Zm 32 45] []))))
def Ba:au:=(Zs [Zb 51 .lss 50 49] (.seq (.cond 51 .skip (.exit 4)) (.seq (.blk 5 (Zs [Zx 52 1 48 50,Zl 53 52,Zm 13 53] (.drw [Zm 54 7,Zm 55 13,Zx 56 1 54 55,Zl 57 56,Za 58 8 9,Zv 59 2 58,Zo 60 (.call 69 [59]),Zb 61 .or 57 60,Zx 62 1 54 55,Zw (.store 1 62 61)] []))) (.reg [Zd 63 .add 50 1,Zm 50 63] []))))
def Sz:au:=(Zs [Za 46 6 9,Za 47 1 46,Zl 48 47,Zk 49 48,Zn 50 0] (.blk 4 (.loop Ba)))
def Oj:au:=(.reg [Zd 64 .add 24 1,Zm 24 64] [])
def Di:au:=(Zs [Zb 25 .lss 24 23] (.seq (.cond 25 .skip (.exit 0)) (.seqr (.blk 1 (Zs [Zx 26 10 22 24,Zv 27 10 26,Zo 9 (.alloc (.agg [.i 0,.i 0,.i 0,.lst .u 1 [],.i 0,.i 0,.i 0,.lst .u 1 [],.i 0,.i 0])),Zw (.store 10 9 27)] (.seqa (.reg [Za 28 2 9,Za 29 1 28,Zl 30 29,Zk 31 30,Zn 32 0] []) (.blk 2 (.loop Bq)) [6,7,9,22,23,24] [6,7,9] Sz))) [6,7,22,23,24] [6,7] Oj)))
def OH:au:=(.seq (.reg [Zm 65 6,Zm 66 7,Zm 4 65,Zm 5 66] [.s 4,.s 5]) .ret)
def A101:au:=(.seq (.reg [Zo 2 (.box 2 0),Zo 4 (.mv (.c (.lst .u 1 []))),Zo 5 (.mv (.c (.lst .u 1 [])))] [.s 4,.s 5]) (.seq (.drw [Za 14 1 2,Zl 15 14,Zk 16 15,Zo 17 (.mks 1 (.i 0) 8 16 16),Za 18 1 2,Zl 19 18,Zk 20 19,Zo 21 (.mks 1 (.i 0) 8 20 20),Zm 6 17,Zm 7 21] [.s 6,.s 7]) (.seqa (.reg [Zm 22 1,Zk 23 22,Zn 24 0] []) (.blk 0 (.loop Di)) [6,7] [6,7] OH)))
def m101:ba A1 101 2 A101 lC=true:=by kernel_rfl
def A27:au:=(.seq (.reg [Zo 2 (.box 2 0),Zo 4 (.mv (.c (.lst .u 1 []))),Zo 5 (.mv (.c (.lst .u 1 []))),Zh 6 false] [.s 4,.s 5]) (.seq (Zs [Zv 9 2 2,Zm 10 1,Zo 11 (.call 24 [9,10]),Zo 12 (.un .not 11)] (.cond 12 (.seq (.reg [Zo 4 (.mv (.c (.lst .u 1 []))),Zo 5 (.mv (.c (.lst .u 1 []))),Zh 6 false] [.s 4,.s 5]) .ret) .skip)) (.seq (.reg [Zv 14 2 2,Zm 15 1,Zo 16 (.call 101 [14,15]),Zm 13 16,Ze 17 13 0,Ze 18 13 1,Zm 7 17,Zm 8 18] [.s 7,.s 8]) (.seq (.reg [Zm 19 7,Zm 20 8,Zm 4 19,Zm 5 20,Zh 6 true] [.s 4,.s 5]) .ret))))
def V27:List RV:=[.t 4,.t 5,.t 6]
def m27:ba A1 27 2 A27 V27=true:=by kernel_rfl
def A171:au:=(Zs [Zn 2 0] (Zs [Zm 3 0,Zo 4 (.bin .shr 3 (.c (.sc (.int .u64 1)))),Zo 5 (.bin .and 4 (.c (.sc (.int .u64 6148914691236517205)))),Zm 6 0,Zo 7 (.bin .and 6 (.c (.sc (.int .u64 6148914691236517205)))),Zb 8 .add 5 7,Zm 0 8] (Zs [Zm 9 0,Zo 10 (.bin .shr 9 (.c (.sc (.int .u64 2)))),Zo 11 (.bin .and 10 (.c (.sc (.int .u64 3689348814741910323)))),Zm 12 0,Zo 13 (.bin .and 12 (.c (.sc (.int .u64 3689348814741910323)))),Zb 14 .add 11 13,Zm 0 14] (Zs [Zm 15 0,Zo 16 (.bin .shr 15 (.c (.sc (.int .u64 4)))),Zm 17 0,Zb 18 .add 16 17,Zo 19 (.bin .and 18 (.c (.sc (.int .u64 1085102592571150095)))),Zm 0 19] (Zs [Zm 20 0,Zm 21 0,Zo 22 (.bin .shr 21 (.c (.sc (.int .u64 8)))),Zb 23 .add 20 22,Zm 0 23] (Zs [Zm 24 0,Zm 25 0,Zo 26 (.bin .shr 25 (.c (.sc (.int .u64 16)))),Zb 27 .add 24 26,Zm 0 27] (Zs [Zm 28 0,Zm 29 0,Zo 30 (.bin .shr 29 (.c (.sc (.int .u64 32)))),Zb 31 .add 28 30,Zm 0 31] (Zs [Zm 32 0,Zo 33 (.conv .i64 32),Zd 34 .and 33 127,Zm 2 34] .ret))))))))
def m171:ba A1 171 1 A171 V10=true:=by kernel_rfl
def A102:au:=(Zs [Zn 2 0] (.seq (.cond (Zy false) (Zs [Zm 3 0,Zo 4 (.conv .u32 3),Zo 5 (.call 170 [4]),Zm 2 5] .ret) .skip) (Zs [Zm 6 0,Zo 7 (.call 171 [6]),Zm 2 7] .ret)))
def m102:ba A1 102 1 A102 V10=true:=by kernel_rfl
def Fg:au:=(Zs [Zb 20 .lss 19 18] (.seq (.cond 20 .skip (.exit 0)) (.seq (.blk 1 (Zs [Zx 21 10 17 19,Zv 22 10 21,Zo 8 (.alloc (.agg [.i 0,.i 0,.i 0,.lst .u 1 [],.i 0,.i 0,.i 0,.lst .u 1 [],.i 0,.i 0])),Zw (.store 10 8 22)] (.reg [Zm 23 6,Za 24 6 8,Za 25 1 24,Zl 26 25,Zk 27 26,Za 28 8 8,Za 29 1 28,Zl 30 29,Zb 31 .mul 27 30,Zb 32 .add 23 31,Zm 6 32] []))) (.reg [Zd 33 .add 19 1,Zm 19 33] []))))
def Fe:au:=(Zs [Zb 43 .lss 42 41] (.seq (.cond 43 .skip (.exit 2)) (.seq (.blk 3 (Zs [Zx 44 1 40 42,Zl 45 44,Zm 12 45] (.reg [Zm 46 6,Zm 47 12,Zo 48 (.conv .u64 47),Zo 49 (.call 102 [48]),Zb 50 .sub 46 49,Zm 6 50] []))) (.reg [Zd 51 .add 42 1,Zm 42 51] []))))
def YP:au:=(Zs [Zm 52 6,Zm 4 52,Zh 5 true] .ret)
def YM:au:=(.seq (.reg [Zv 35 2 2,Zm 36 1,Zo 37 (.call 101 [35,36]),Zm 34 37,Ze 38 34 0,Ze 39 34 1,Zm 9 38,Zm 10 39] [.s 9,.s 10]) (.seqa (.reg [Zm 40 10,Zk 41 40,Zn 42 0] []) (.blk 2 (.loop Fe)) [6] [] YP))
def A28:au:=(Zs [Zo 2 (.box 2 0),Zn 4 0,Zh 5 false] (.seq (Zs [Zv 13 2 2,Zm 14 1,Zo 15 (.call 24 [13,14]),Zo 16 (.un .not 15)] (.cond 16 (Zs [Zn 4 0,Zh 5 false] .ret) .skip)) (Zs [Zn 6 0] (.seqa (.reg [Zm 17 1,Zk 18 17,Zn 19 0] []) (.blk 0 (.loop Fg)) [1,2,6] [2] YM))))
def m28:ba A1 28 2 A28 lC=true:=by kernel_rfl
def A4R1:au:=(.cond 56 (Zs [Zh 2 false] .ret) .skip)
def A4R2:au:=(.cond 73 (Zs [Zh 2 false] .ret) .skip)
def A4R3:au:=(.cond 89 (Zs [Zh 2 false] .ret) .skip)
def afm:au:=(.seq (Zs [Zm 90 15,Zm 91 5,Zk 92 91,Zb 93 .lss 90 92] (.cond 93 .skip (.exit 0))) (.seq (.blk 1 (.seq (.drw [Zm 96 13,Zm 97 15,Zx 98 10 96 97,Zv 99 10 98,Zm 100 5,Zm 101 15,Zx 102 10 100 101,Zv 103 10 102,Zo 104 (.call 26 [99,103]),Zo 105 (.un .not 104)] []) (.cond 105 (Zs [Zh 2 false] .ret) .skip))) (.reg [Zm 94 15,Zd 95 .add 94 1,Zm 15 95] [])))
def A4R6:au:=(.cond 119 .skip (.exit 2))
def aeo:au:=(.seq (.seqr (.reg [Zm 113 19,Zm 114 16,Zk 115 114,Zb 116 .lss 113 115,Zm 117 116,Zg 118 (.mv 18) 117 true,Zo 119 (.pick 117 118 (Zy false))] []) [3,7,16,17,18,19,119] [3,7,16,17] A4R6) (.seq (.blk 3 (.seq (.drw [Zm 122 16,Zm 123 19,Zx 124 1 122 123,Zl 125 124,Zm 126 17,Zm 127 19,Zx 128 1 126 127,Zl 129 128,Zb 130 .and 125 129,Zd 131 .neq 130 0] []) (.cond 131 (Zs [Zh 2 false] .ret) .skip))) (.reg [Zm 120 19,Zd 121 .add 120 1,Zm 19 121] [])))
def A4R8:au:=(Zs [Zv 133 2 3,Zm 134 7,Zo 135 (.call 28 [133,134]),Zm 132 135,Ze 136 132 0,Ze 137 132 1,Zm 20 136,Zm 21 137] (Zs [Zm 138 18,Zm 139 138,Zg 140 (.mv 21) 139 true,Zo 141 (.pick 139 140 (Zy false)),Zm 142 141,Zg 143 (.mv 20) 142 true,Zg 144 (.bin .geq 143 (.c (.i 0))) 142 true,Zo 145 (.pick 142 144 (Zy false)),Zm 2 145] .ret))
def A4R5:au:=(.seq (.reg [Zv 107 2 3,Zm 108 7,Zo 109 (.call 27 [107,108]),Zm 106 109,Ze 110 106 0,Ze 111 106 1,Ze 112 106 2,Zm 16 110,Zm 17 111,Zm 18 112] [.s 16,.s 17]) (.seqa (.reg [Zn 19 0] []) (.blk 2 (.loop aeo)) [3,7,18] [3,7] A4R8))
def A4:au:=(Zs [Zh 2 false] (.seq (Zs [Zm 22 0,Zo 23 (.call 10 [22])] (.cond 23 (Zs [Zh 2 true] .ret) .skip)) (.seq (.reg [Zm 25 0,Zo 26 (.callM 21 [25] []),Zm 24 26,Ze 27 24 0,Ze 28 24 1,Ze 29 24 2,Ze 30 24 3,Zo 3 (.alloc (.agg [.lst .u 1 [],.lst .u 4 []])),Zo 6 (.alloc (.agg [.i 0,.i 0,.i 0,.i 0])),Zw (.store 2 3 27),Zm 4 28,Zm 5 29,Zw (.store 4 6 30)] [.s 4,.s 5]) (.seq (.reg [Zv 32 2 3,Zm 33 4,Zm 34 5,Zv 35 4 6,Zo 36 (.call 22 [32,33,34,35]),Zm 31 36,Ze 37 31 0,Ze 38 31 1,Ze 39 31 2,Zm 7 37,Zm 8 38,Zm 9 39] [.s 7]) (.seq (.seq (.reg [Zv 41 2 3,Zm 42 4,Zm 43 5,Zv 44 4 6,Zo 45 (.callM 23 [41,42,43,44] [4,5]),Zm 40 45,Ze 46 40 0,Ze 47 40 1,Ze 48 40 2,Zm 10 46,Zm 11 47,Zm 12 48] [.s 10]) (.seqr (.reg [Zm 49 8,Zm 50 11,Zb 51 .neq 49 50,Zm 52 51,Zg 53 (.mv 9) 52 false,Zg 54 (.mv 12) 52 false,Zg 55 (.beq true 53 54) 52 false,Zo 56 (.pick 52 (Zy true) 55)] []) [3,5,7,8,9,56] [3,5,7] A4R1)) (.seq (Zs [Zm 57 9,Zo 58 (.un .not 57)] (.cond 58 (Zs [Zm 59 7,Zk 60 59,Zd 61 .eql 60 0,Zm 2 61] .ret) .skip)) (.seq (.seqr (.reg [Zv 62 2 3,Zm 63 7,Zo 64 (.call 24 [62,63]),Zo 65 (.un .not 64),Zm 66 65,Zg 67 (.mv 7) 66 false,Zg 68 (.len 67) 66 false,Zg 69 (.mv 5) 66 false,Zg 70 (.len 69) 66 false,Zg 71 (.bin .add 70 (.c (.i 1))) 66 false,Zg 72 (.bin .neq 68 71) 66 false,Zo 73 (.pick 66 (Zy true) 72)] []) [3,5,7,8,73] [3,5,7] A4R2) (.seq (.reg [Zv 75 2 3,Zm 76 7,Zm 77 8,Zo 78 (.call 25 [75,76,77]),Zm 74 78,Ze 79 74 0,Ze 80 74 1,Zm 13 79,Zm 14 80] [.s 13]) (.seq (.seqr (.reg [Zm 81 14,Zo 82 (.un .not 81),Zm 83 82,Zg 84 (.mv 13) 83 false,Zg 85 (.len 84) 83 false,Zg 86 (.mv 5) 83 false,Zg 87 (.len 86) 83 false,Zg 88 (.bin .neq 85 87) 83 false,Zo 89 (.pick 83 (Zy true) 88)] []) [3,5,7,13,89] [3,5,7,13] A4R3) (.seqa (.reg [Zn 15 0] []) (.blk 0 (.loop afm)) [3,7] [3,7] A4R5))))))))))
def m4:ba A1 4 1 A4 V10=true:=by kernel_rfl
end Vs

