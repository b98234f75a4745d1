/-
  Part of the proof that the law FnCompatible returns true at every input; no condition beside the row's own.
-/
import Derived.Test.YtfmhphgpijjejaaGreatTe
import Derived.Test.YtfmhphgpijjejaaGreatChecked
import Derived.KernelRfl
import Derived.Shelf.SlSortCmp.NoneTotal
set_option linter.defProp false
set_option linter.unusedSimpArgs false
set_option linter.unusedVariables false
namespace Vs
open Go
structure aA where
 A:Int
 B:Int
 Length:Int
 Risk:Int
 deriving DecidableEq
def ai(f:Fl)(x:aA):AV:=.agg [.i x.A,.i x.B,.i x.Length,.i x.Risk]
theorem gg(f:Fl)(x:aA):(ai f x).nrm=ai .o x:=by simp[ai,cz,eA,eh,cz]
theorem qY(f:Fl)(xs:List aA):(xs.map (ai f)).map AV.nrm=xs.map (ai .o):=by simp[gg]
theorem eV(f:Fl)(x:aA):(ai f x).als=ai f.als x:=by simp[ai,dC,eo,eu,cz]
theorem rn(f:Fl)(xs:List aA):(xs.map (ai f)).map AV.als=xs.map (ai f.als):=by simp[eV]
theorem qN(f:Fl):AV.als∘ai f=ai f.als:=by funext x;simp[eV]
theorem eZ(f:Fl)(x:aA):(ai f x).fix=ai f.fix x:=by simp[ai,dQ,dS,dT,cz]
theorem kI(f:Fl)(xs:List aA):(xs.map (ai f)).map AV.fix=xs.map (ai f.fix):=by simp[eZ]
theorem nw(x:aA):(ai .o x).fz=true:=by simp[ai,AV.i,AV.b,AV.z,dR,cm,cU,co,bS,cO,cS,cV,cX,cu,cP,cr,dU,cq,cY,cn,bP,cW,cR,cZ]
theorem eX(xs:List aA):fzL (xs.map (ai .o))=true:=fN nw xs
theorem nr(x:aA):(ai .u x).ouB=true:=by simp[ai,AV.i,AV.b,AV.z,dR,cm,cU,co,bS,cO,cS,cV,cX,cu,cP,cr,dU,cq,cY,cn,bP,cW,cR,cZ]
theorem eY(xs:List aA):cM (xs.map (ai .u))=true:=fS nr xs
structure ae where
 Nodes:List ByteArray
 Fibers:List aA
def aX(f:Fl)(x:ae):AV:=.agg [.lst f 1 (x.Nodes.map AV.z),.lst f 4 (x.Fibers.map (ai f))]
theorem jL(f:Fl)(x:ae):(aX f x).nrm=aX .o x:=by simp[aX,cz,eA,eh,gg,ey,mP]
theorem nJ(f:Fl)(xs:List ae):(xs.map (aX f)).map AV.nrm=xs.map (aX .o):=by simp[jL]
theorem gB(f:Fl)(x:ae):(aX f x).als=aX f.als x:=by simp[aX,dC,eo,eu,eV,et,mG]
theorem nE(f:Fl)(xs:List ae):(xs.map (aX f)).map AV.als=xs.map (aX f.als):=by simp[gB]
theorem nA(f:Fl):AV.als∘aX f=aX f.als:=by funext x;simp[gB]
theorem gm(f:Fl)(x:ae):(aX f x).fix=aX f.fix x:=by simp[aX,dQ,dS,dT,eZ,dP,km]
theorem jl(f:Fl)(xs:List ae):(xs.map (aX f)).map AV.fix=xs.map (aX f.fix):=by simp[gm]
theorem kC(x:ae):(aX .o x).fz=true:=by simp[aX,AV.i,AV.b,AV.z,dR,cm,cU,co,bS,cO,cS,cV,cX,cu,cP,cr,dU,cq,cY,cn,bP,cW,cR,cZ,eX,eY]
theorem pG(xs:List ae):fzL (xs.map (aX .o))=true:=fN kC xs
theorem kA(x:ae):(aX .u x).ouB=true:=by simp[aX,AV.i,AV.b,AV.z,dR,cm,cU,co,bS,cO,cS,cV,cX,cu,cP,cr,dU,cq,cY,cn,bP,cW,cR,cZ,eX,eY]
theorem pb(xs:List ae):cM (xs.map (aX .u))=true:=fS kA xs
structure ah where
 Start:Int
 Fibers:List Int
 deriving DecidableEq
def ay(f:Fl)(x:ah):AV:=.agg [.i x.Start,.lst f 1 (x.Fibers.map AV.i)]
theorem fY(f:Fl)(x:ah):(ay f x).nrm=ay .o x:=by simp[ay,cz,eA,eh,ey]
theorem rh(f:Fl)(xs:List ah):(xs.map (ay f)).map AV.nrm=xs.map (ay .o):=by simp[fY]
theorem fX(f:Fl)(x:ah):(ay f x).als=ay f.als x:=by simp[ay,dC,eo,eu,et]
theorem qF(f:Fl)(xs:List ah):(xs.map (ay f)).map AV.als=xs.map (ay f.als):=by simp[fX]
theorem rq(f:Fl):AV.als∘ay f=ay f.als:=by funext x;simp[fX]
theorem gc(f:Fl)(x:ah):(ay f x).fix=ay f.fix x:=by simp[ay,dQ,dS,dT,dP]
theorem kL(f:Fl)(xs:List ah):(xs.map (ay f)).map AV.fix=xs.map (ay f.fix):=by simp[gc]
theorem mS(x:ah):(ay .o x).fz=true:=by simp[ay,AV.i,AV.b,AV.z,dR,cm,cU,co,bS,cO,cS,cV,cX,cu,cP,cr,dU,cq,cY,cn,bP,cW,cR,cZ]
theorem iE(xs:List ah):fzL (xs.map (ay .o))=true:=fN mS xs
theorem ng(x:ah):(ay .u x).ouB=true:=by simp[ay,AV.i,AV.b,AV.z,dR,cm,cU,co,bS,cO,cS,cV,cX,cu,cP,cr,dU,cq,cY,cn,bP,cW,cR,cZ]
theorem iW(xs:List ah):cM (xs.map (ay .u))=true:=fS ng xs
structure aM where
 First:Int
 Count:Int
 deriving DecidableEq
def bc(f:Fl)(x:aM):AV:=.agg [.i x.First,.i x.Count]
theorem mq(f:Fl)(x:aM):(bc f x).nrm=bc .o x:=by simp[bc,cz,eA,eh,cz]
theorem qW(f:Fl)(xs:List aM):(xs.map (bc f)).map AV.nrm=xs.map (bc .o):=by simp[mq]
theorem iG(f:Fl)(x:aM):(bc f x).als=bc f.als x:=by simp[bc,dC,eo,eu,cz]
theorem qC(f:Fl)(xs:List aM):(xs.map (bc f)).map AV.als=xs.map (bc f.als):=by simp[iG]
theorem qE(f:Fl):AV.als∘bc f=bc f.als:=by funext x;simp[iG]
theorem iI(f:Fl)(x:aM):(bc f x).fix=bc f.fix x:=by simp[bc,dQ,dS,dT,cz]
theorem kG(f:Fl)(xs:List aM):(xs.map (bc f)).map AV.fix=xs.map (bc f.fix):=by simp[iI]
theorem nt(x:aM):(bc .o x).fz=true:=by simp[bc,AV.i,AV.b,AV.z,dR,cm,cU,co,bS,cO,cS,cV,cX,cu,cP,cr,dU,cq,cY,cn,bP,cW,cR,cZ]
theorem sQ(xs:List aM):fzL (xs.map (bc .o))=true:=fN nt xs
theorem mX(x:aM):(bc .u x).ouB=true:=by simp[bc,AV.i,AV.b,AV.z,dR,cm,cU,co,bS,cO,cS,cV,cX,cu,cP,cr,dU,cq,cY,cn,bP,cW,cR,cZ]
theorem tm(xs:List aM):cM (xs.map (bc .u))=true:=fS mX xs
structure aj where
 Id:Int
 Class:Int
 Work:ah
 WorkBlock:aM
 Spare:ah
 SpareBlock:aM
 deriving DecidableEq
def aw(f:Fl)(x:aj):AV:=.agg [.i x.Id,.i x.Class,.i x.Work.Start,.lst f 1 (x.Work.Fibers.map AV.i),.i x.WorkBlock.First,.i x.WorkBlock.Count,.i x.Spare.Start,.lst f 1 (x.Spare.Fibers.map AV.i),.i x.SpareBlock.First,.i x.SpareBlock.Count]
theorem jG(f:Fl)(x:aj):(aw f x).nrm=aw .o x:=by simp[aw,cz,eA,eh,ey]
theorem nC(f:Fl)(xs:List aj):(xs.map (aw f)).map AV.nrm=xs.map (aw .o):=by simp[jG]
theorem gj(f:Fl)(x:aj):(aw f x).als=aw f.als x:=by simp[aw,dC,eo,eu,et]
theorem nF(f:Fl)(xs:List aj):(xs.map (aw f)).map AV.als=xs.map (aw f.als):=by simp[gj]
theorem nO(f:Fl):AV.als∘aw f=aw f.als:=by funext x;simp[gj]
theorem gF(f:Fl)(x:aj):(aw f x).fix=aw f.fix x:=by simp[aw,dQ,dS,dT,dP]
theorem jk(f:Fl)(xs:List aj):(xs.map (aw f)).map AV.fix=xs.map (aw f.fix):=by simp[gF]
theorem kK(x:aj):(aw .o x).fz=true:=by simp[aw,AV.i,AV.b,AV.z,dR,cm,cU,co,bS,cO,cS,cV,cX,cu,cP,cr,dU,cq,cY,cn,bP,cW,cR,cZ]
theorem pT(xs:List aj):fzL (xs.map (aw .o))=true:=fN kK xs
theorem kE(x:aj):(aw .u x).ouB=true:=by simp[aw,AV.i,AV.b,AV.z,dR,cm,cU,co,bS,cO,cS,cV,cX,cu,cP,cr,dU,cq,cY,cn,bP,cW,cR,cZ]
theorem pC(xs:List aj):cM (xs.map (aw .u))=true:=fS kE xs
structure ax where
 code:List Int
 atF:Int
 seed:Int
 deriving DecidableEq
def bg(f:Fl)(x:ax):AV:=.agg [.lst f 1 (x.code.map AV.u8),.i x.atF,.sc (.int .u64 x.seed)]
theorem mp(f:Fl)(x:ax):(bg f x).nrm=bg .o x:=by simp[bg,cz,eA,eh,ey]
theorem rm(f:Fl)(xs:List ax):(xs.map (bg f)).map AV.nrm=xs.map (bg .o):=by simp[mp]
theorem jd(f:Fl)(x:ax):(bg f x).als=bg f.als x:=by simp[bg,dC,eo,eu,et]
theorem qU(f:Fl)(xs:List ax):(xs.map (bg f)).map AV.als=xs.map (bg f.als):=by simp[jd]
theorem rz(f:Fl):AV.als∘bg f=bg f.als:=by funext x;simp[jd]
theorem iY(f:Fl)(x:ax):(bg f x).fix=bg f.fix x:=by simp[bg,dQ,dS,dT,dP]
theorem ky(f:Fl)(xs:List ax):(xs.map (bg f)).map AV.fix=xs.map (bg f.fix):=by simp[iY]
theorem np(x:ax):(bg .o x).fz=true:=by simp[bg,AV.i,AV.b,AV.z,dR,cm,cU,co,bS,cO,cS,cV,cX,cu,cP,cr,dU,cq,cY,cn,bP,cW,cR,cZ]
theorem sE(xs:List ax):fzL (xs.map (bg .o))=true:=fN np xs
theorem nu(x:ax):(bg .u x).ouB=true:=by simp[bg,AV.i,AV.b,AV.z,dR,cm,cU,co,bS,cO,cS,cV,cX,cu,cP,cr,dU,cq,cY,cn,bP,cW,cR,cZ]
theorem sX(xs:List ax):cM (xs.map (bg .u))=true:=fS nu xs
structure az where
 Reach:Int
 Rate:Int
 deriving DecidableEq
def au(f:Fl)(x:az):AV:=.agg [.i x.Reach,.i x.Rate]
theorem kx(f:Fl)(x:az):(au f x).nrm=au .o x:=by simp[au,cz,eA,eh,cz]
theorem pV(f:Fl)(xs:List az):(xs.map (au f)).map AV.nrm=xs.map (au .o):=by simp[kx]
theorem hY(f:Fl)(x:az):(au f x).als=au f.als x:=by simp[au,dC,eo,eu,cz]
theorem pM(f:Fl)(xs:List az):(xs.map (au f)).map AV.als=xs.map (au f.als):=by simp[hY]
theorem pO(f:Fl):AV.als∘au f=au f.als:=by funext x;simp[hY]
theorem gX(f:Fl)(x:az):(au f x).fix=au f.fix x:=by simp[au,dQ,dS,dT,cz]
theorem jF(f:Fl)(xs:List az):(xs.map (au f)).map AV.fix=xs.map (au f.fix):=by simp[gX]
theorem lk(x:az):(au .o x).fz=true:=by simp[au,AV.i,AV.b,AV.z,dR,cm,cU,co,bS,cO,cS,cV,cX,cu,cP,cr,dU,cq,cY,cn,bP,cW,cR,cZ]
theorem ri(xs:List az):fzL (xs.map (au .o))=true:=fN lk xs
theorem me(x:az):(au .u x).ouB=true:=by simp[au,AV.i,AV.b,AV.z,dR,cm,cU,co,bS,cO,cS,cV,cX,cu,cP,cr,dU,cq,cY,cn,bP,cW,cR,cZ]
theorem qT(xs:List az):cM (xs.map (au .u))=true:=fS me xs
structure aK where
 From:Int
 To:Int
 Rate:Int
 Class:Int
 deriving DecidableEq
def aR(f:Fl)(x:aK):AV:=.agg [.i x.From,.i x.To,.i x.Rate,.i x.Class]
theorem kM(f:Fl)(x:aK):(aR f x).nrm=aR .o x:=by simp[aR,cz,eA,eh,cz]
theorem pc(f:Fl)(xs:List aK):(xs.map (aR f)).map AV.nrm=xs.map (aR .o):=by simp[kM]
theorem hZ(f:Fl)(x:aK):(aR f x).als=aR f.als x:=by simp[aR,dC,eo,eu,cz]
theorem qg(f:Fl)(xs:List aK):(xs.map (aR f)).map AV.als=xs.map (aR f.als):=by simp[hZ]
theorem po(f:Fl):AV.als∘aR f=aR f.als:=by funext x;simp[hZ]
theorem hX(f:Fl)(x:aK):(aR f x).fix=aR f.fix x:=by simp[aR,dQ,dS,dT,cz]
theorem jx(f:Fl)(xs:List aK):(xs.map (aR f)).map AV.fix=xs.map (aR f.fix):=by simp[hX]
theorem lF(x:aK):(aR .o x).fz=true:=by simp[aR,AV.i,AV.b,AV.z,dR,cm,cU,co,bS,cO,cS,cV,cX,cu,cP,cr,dU,cq,cY,cn,bP,cW,cR,cZ]
theorem qO(xs:List aK):fzL (xs.map (aR .o))=true:=fN lF xs
theorem lH(x:aK):(aR .u x).ouB=true:=by simp[aR,AV.i,AV.b,AV.z,dR,cm,cU,co,bS,cO,cS,cV,cX,cu,cP,cr,dU,cq,cY,cn,bP,cW,cR,cZ]
theorem qD(xs:List aK):cM (xs.map (aR .u))=true:=fS lH xs
structure bI where
 n:ae
 toF:Int
 list:List ah
def aQ(f:Fl)(x:bI):AV:=.agg [.lst f 1 (x.n.Nodes.map AV.z),.lst f 4 (x.n.Fibers.map (ai f)),.i x.toF,.lst f 2 (x.list.map (ay f))]
theorem jn(f:Fl)(x:bI):(aQ f x).nrm=aQ .o x:=by simp[aQ,cz,eA,eh,gg,fY,ey,mP]
theorem mJ(f:Fl)(xs:List bI):(xs.map (aQ f)).map AV.nrm=xs.map (aQ .o):=by simp[jn]
theorem fO(f:Fl)(x:bI):(aQ f x).als=aQ f.als x:=by simp[aQ,dC,eo,eu,eV,fX,et,mG]
theorem mN(f:Fl)(xs:List bI):(xs.map (aQ f)).map AV.als=xs.map (aQ f.als):=by simp[fO]
theorem mM(f:Fl):AV.als∘aQ f=aQ f.als:=by funext x;simp[fO]
theorem fR(f:Fl)(x:bI):(aQ f x).fix=aQ f.fix x:=by simp[aQ,dQ,dS,dT,eZ,gc,dP,km]
theorem ix(f:Fl)(xs:List bI):(xs.map (aQ f)).map AV.fix=xs.map (aQ f.fix):=by simp[fR]
theorem jC(x:bI):(aQ .o x).fz=true:=by simp[aQ,AV.i,AV.b,AV.z,dR,cm,cU,co,bS,cO,cS,cV,cX,cu,cP,cr,dU,cq,cY,cn,bP,cW,cR,cZ,eX,eY,iE,iW]
theorem nL(xs:List bI):fzL (xs.map (aQ .o))=true:=fN jC xs
theorem jS(x:bI):(aQ .u x).ouB=true:=by simp[aQ,AV.i,AV.b,AV.z,dR,cm,cU,co,bS,cO,cS,cV,cX,cu,cP,cr,dU,cq,cY,cn,bP,cW,cR,cZ,eX,eY,iE,iW]
theorem nB(xs:List bI):cM (xs.map (aQ .u))=true:=fS jS xs
def cg(f:Fl)(xs:List Int):AV:=.lst f 1 (xs.map AV.i)
theorem vU(f:Fl)(x:List Int):(cg f x).nrm=cg .o x:=by simp[cg,cz,eA,eh,ey]
theorem DS(f:Fl)(xs:List (List Int)):(xs.map (cg f)).map AV.nrm=xs.map (cg .o):=by simp[vU]
theorem oL(f:Fl)(x:List Int):(cg f x).als=cg f.als x:=by simp[cg,dC,eo,eu,et]
theorem Ep(f:Fl)(xs:List (List Int)):(xs.map (cg f)).map AV.als=xs.map (cg f.als):=by simp[oL]
theorem Cb(f:Fl):AV.als∘cg f=cg f.als:=by funext x;simp[oL]
theorem pH(f:Fl)(x:List Int):(cg f x).fix=cg f.fix x:=by simp[cg,dQ,dS,dT,dP]
theorem su(f:Fl)(xs:List (List Int)):(xs.map (cg f)).map AV.fix=xs.map (cg f.fix):=by simp[pH]
theorem zw(x:List Int):(cg .o x).fz=true:=by simp[cg,AV.i,AV.b,AV.z,dR,cm,cU,co,bS,cO,cS,cV,cX,cu,cP,cr,dU,cq,cY,cn,bP,cW,cR,cZ]
theorem Hj(xs:List (List Int)):fzL (xs.map (cg .o))=true:=fN zw xs
theorem zO(x:List Int):(cg .u x).ouB=true:=by simp[cg,AV.i,AV.b,AV.z,dR,cm,cU,co,bS,cO,cS,cV,cX,cu,cP,cr,dU,cq,cY,cn,bP,cW,cR,cZ]
theorem Mj(xs:List (List Int)):cM (xs.map (cg .u))=true:=fS zO xs
structure cw where
 Id:Int
 Route:ah
 Block:aM
 deriving DecidableEq
def bh(f:Fl)(x:cw):AV:=.agg [.i x.Id,.i x.Route.Start,.lst f 1 (x.Route.Fibers.map AV.i),.i x.Block.First,.i x.Block.Count]
theorem lA(f:Fl)(x:cw):(bh f x).nrm=bh .o x:=by simp[bh,cz,eA,eh,ey]
theorem qA(f:Fl)(xs:List cw):(xs.map (bh f)).map AV.nrm=xs.map (bh .o):=by simp[lA]
theorem iQ(f:Fl)(x:cw):(bh f x).als=bh f.als x:=by simp[bh,dC,eo,eu,et]
theorem qP(f:Fl)(xs:List cw):(xs.map (bh f)).map AV.als=xs.map (bh f.als):=by simp[iQ]
theorem qH(f:Fl):AV.als∘bh f=bh f.als:=by funext x;simp[iQ]
theorem jb(f:Fl)(x:cw):(bh f x).fix=bh f.fix x:=by simp[bh,dQ,dS,dT,dP]
theorem kB(f:Fl)(xs:List cw):(xs.map (bh f)).map AV.fix=xs.map (bh f.fix):=by simp[jb]
theorem nz(x:cw):(bh .o x).fz=true:=by simp[bh,AV.i,AV.b,AV.z,dR,cm,cU,co,bS,cO,cS,cV,cX,cu,cP,cr,dU,cq,cY,cn,bP,cW,cR,cZ]
theorem sV(xs:List cw):fzL (xs.map (bh .o))=true:=fN nz xs
theorem ni(x:cw):(bh .u x).ouB=true:=by simp[bh,AV.i,AV.b,AV.z,dR,cm,cU,co,bS,cO,cS,cV,cX,cu,cP,cr,dU,cq,cY,cn,bP,cW,cR,cZ]
theorem sJ(xs:List cw):cM (xs.map (bh .u))=true:=fS ni xs
structure aD where
 route:ah
 count:Int
 deriving DecidableEq
def aP(f:Fl)(x:aD):AV:=.agg [.i x.route.Start,.lst f 1 (x.route.Fibers.map AV.i),.i x.count]
theorem kD(f:Fl)(x:aD):(aP f x).nrm=aP .o x:=by simp[aP,cz,eA,eh,ey]
theorem oH(f:Fl)(xs:List aD):(xs.map (aP f)).map AV.nrm=xs.map (aP .o):=by simp[kD]
theorem gZ(f:Fl)(x:aD):(aP f x).als=aP f.als x:=by simp[aP,dC,eo,eu,et]
theorem pJ(f:Fl)(xs:List aD):(xs.map (aP f)).map AV.als=xs.map (aP f.als):=by simp[gZ]
theorem pX(f:Fl):AV.als∘aP f=aP f.als:=by funext x;simp[gZ]
theorem hJ(f:Fl)(x:aD):(aP f x).fix=aP f.fix x:=by simp[aP,dQ,dS,dT,dP]
theorem jr(f:Fl)(xs:List aD):(xs.map (aP f)).map AV.fix=xs.map (aP f.fix):=by simp[hJ]
theorem ml(x:aD):(aP .o x).fz=true:=by simp[aP,AV.i,AV.b,AV.z,dR,cm,cU,co,bS,cO,cS,cV,cX,cu,cP,cr,dU,cq,cY,cn,bP,cW,cR,cZ]
theorem qQ(xs:List aD):fzL (xs.map (aP .o))=true:=fN ml xs
theorem lx(x:aD):(aP .u x).ouB=true:=by simp[aP,AV.i,AV.b,AV.z,dR,cm,cU,co,bS,cO,cS,cV,cX,cu,cP,cr,dU,cq,cY,cn,bP,cW,cR,cZ]
theorem rp(xs:List aD):cM (xs.map (aP .u))=true:=fS lx xs
def Pf(a:List Int):Option Bool:=
 some (decide (65536<(a.length:Int)))
def Eh(a:ax):Option (Int×ax):=
 (cond (decide (((a).atF)<(((a).code).length:Int))) ((bH ((a).code) ((a).atF)).bind fun c=>some (IntKind.wrap .i64 c)) (some 0):Option Int).bind fun b=>cond (decide ((IntKind.wrap .i64 (((a).atF)+1))<=(((a).code).length:Int))) (some (b,(⟨(a).code,IntKind.wrap .i64 (((a).atF)+1),IntKind.wrap .u64 ((IntKind.wrap .u64 ((IntKind.wrap .u64 (((a).seed)*6364136223846793005))+(IntKind.wrap .u64 b)))+897897)⟩:ax))) (some (IntKind.wrap .i64 (bits .and .u64 (Int.fdiv (IntKind.wrap .u64 ((IntKind.wrap .u64 ((IntKind.wrap .u64 (((a).seed)*6364136223846793005))+(IntKind.wrap .u64 b)))+897897)) (2^(min (Int.toNat 40) (IntKind.bits .u64)))) 255),(⟨(a).code,IntKind.wrap .i64 (((a).atF)+1),IntKind.wrap .u64 ((IntKind.wrap .u64 ((IntKind.wrap .u64 (((a).seed)*6364136223846793005))+(IntKind.wrap .u64 b)))+897897)⟩:ax)))
def M_a(a:Int)(c:ax):Option (Int×ax):=
 cond (decide (a<=1)) (some (0,c)) ((Eh c).bind fun b=>cond (decide (200<a)) ((Eh b.2).bind fun d=>(grd (a≠0)).bind fun g=>some (Int.tmod (IntKind.wrap .i64 ((IntKind.wrap .i64 (b.1*256))+d.1)) a,d.2)) ((grd (a≠0)).bind fun i=>some (Int.tmod b.1 a,b.2)))
def tk(b:Int)(c:ax):Option (Bool×ax):=
 (M_a b c).bind fun a=>some (a.1==0,a.2)
def Di(a:Int)(b:Int):Option Int:=
 cond (decide (a<b)) (some a) (some b)
def Ey(a:Int)(b:Int):Option Int:=
 cond (decide (b<a)) (some a) (some b)
def M_e(c:ax)(a:List Int):Option (Int×ax×List Int):=
 (M_a (a.length:Int) c).bind fun b=>(grd (0<=b.1/\b.1<(a.length:Int))).bind fun g=>(a[(Int.toNat b.1)]?).bind fun d=>some (d,b.2,a)
def ux(a:aA)(b:aA):Option Int:=
 cond (a.A !=b.A) (some (IntKind.wrap .i64 (a.A-b.A))) (cond (a.B !=b.B) (some (IntKind.wrap .i64 (a.B-b.B))) (cond (a.Length !=b.Length) (some (IntKind.wrap .i64 (a.Length-b.Length))) (some (IntKind.wrap .i64 (a.Risk-b.Risk)))))
def Ck(b:List aA)(c:aA)(a:Int):Option (Int⊕Int):=
 cond (decide (a<(b.length:Int))) ((bH b a).bind fun d=>(ux d c).bind fun g=>cond (decide (g<=0)) (some (.inl (IntKind.wrap .i64 (a+1)))) (some (.inr a))) (some (.inr a))
def CM(a:List aA)(c:aA):Option (List aA):=
 (bz (Ck a c) N0 0).bind fun d=>(slT a d).bind fun b=>(grd (b.length*32<=140737488355328)).bind fun l=>bnd ([c]) fun j=>(grd ((b.length+1)*32<=140737488355328)).bind fun m=>bnd (b++j) fun g=>(slF a d).bind fun i=>(grd ((g.length+i.length)*32<=140737488355328)).bind fun p=>bnd (g++i) fun k=>some k
def M_y(b:Int×ax)(a:Int×List aA×ax):Option ((Int×List aA×ax)⊕(List aA×ax)):=
 cond (decide (a.1<(IntKind.wrap .i64 (2+b.1)))) ((grd ((IntKind.wrap .i64 (2+b.1))≠0)).bind fun p=>(cond (a.1==(Int.tmod (IntKind.wrap .i64 (a.1+1)) (IntKind.wrap .i64 (2+b.1)))) (some (true,a.2.2)) ((tk 10 a.2.2).bind fun d=>some (d.1,d.2)):Option (Bool×ax)).bind fun c=>cond (c.1) (some (.inl (IntKind.wrap .i64 (a.1+1),a.2.1,c.2))) ((Di a.1 (Int.tmod (IntKind.wrap .i64 (a.1+1)) (IntKind.wrap .i64 (2+b.1)))).bind fun j=>(Ey a.1 (Int.tmod (IntKind.wrap .i64 (a.1+1)) (IntKind.wrap .i64 (2+b.1)))).bind fun k=>(M_a 8 c.2).bind fun g=>bnd ([0,0,0,1,2]) fun l=>(M_e g.2 l).bind fun i=>(CM a.2.1 (⟨j,k,IntKind.wrap .i64 (100*(IntKind.wrap .i64 (1+g.1))),i.1⟩:aA)).bind fun m=>some (.inl (IntKind.wrap .i64 (a.1+1),m,i.2.1)))) (some (.inr (a.2.1,a.2.2)))
def M_z(d:Int×ax)(a:Int×List aA×ax):Option ((Int×List aA×ax)⊕(List aA×ax)):=
 cond (decide (0<a.1)) ((M_a (IntKind.wrap .i64 (2+d.1)) a.2.2).bind fun c=>(M_a (IntKind.wrap .i64 (2+d.1)) c.2).bind fun b=>cond (c.1 !=b.1) ((Di c.1 b.1).bind fun j=>(Ey c.1 b.1).bind fun k=>(M_a 8 b.2).bind fun g=>bnd ([0,0,0,1,2]) fun l=>(M_e g.2 l).bind fun i=>(CM a.2.1 (⟨j,k,IntKind.wrap .i64 (100*(IntKind.wrap .i64 (1+g.1))),i.1⟩:aA)).bind fun m=>some (.inl (IntKind.wrap .i64 (a.1-1),m,i.2.1))) (some (.inl (IntKind.wrap .i64 (a.1-1),a.2.1,b.2)))) (some (.inr (a.2.1,a.2.2)))
def Dj(g:ax):Option (Nat×Nat×List ByteArray×List aA×ax):=
 (M_a 5 g).bind fun a=>bnd ([(⟨#[97]⟩:ByteArray),(⟨#[98]⟩:ByteArray),(⟨#[99]⟩:ByteArray),(⟨#[100]⟩:ByteArray),(⟨#[101]⟩:ByteArray),(⟨#[102]⟩:ByteArray)]) fun i=>(grd (True/\0<=(IntKind.wrap .i64 (2+a.1))/\True/\Int.toNat (IntKind.wrap .i64 (2+a.1))<=6)).bind fun j=>(bz (M_y a) N0 (0,[],a.2)).bind fun b=>(M_a 4 b.2).bind fun c=>(bz (M_z a) N0 (c.1,b.1,c.2)).bind fun d=>some (0,(Int.toNat (IntKind.wrap .i64 (2+a.1))),i,d.1,d.2)
def Hr(b:ax):Option (Nat×Nat×List ByteArray×List aA×ax):=
 (Dj b).bind fun a=>cond ((a.2.2.2.1.length:Int)==0) (bnd ([(⟨0,1,100,0⟩:aA)]) fun c=>(grd ((a.2.2.2.1.length+1)*32<=140737488355328)).bind fun g=>bnd (a.2.2.2.1++c) fun d=>some (a.1,a.2.1,a.2.2.1,d,a.2.2.2.2)) (some (a.1,a.2.1,a.2.2.1,a.2.2.2.1,a.2.2.2.2))
def Ks(v:Nat)(c:Nat)(q:ax)(d:List ByteArray)(g:List aA):Option (aK×ax×List ByteArray×List aA):=
 (M_a (c:Int) q).bind fun a=>(M_a (IntKind.wrap .i64 ((c:Int)-1)) a.2).bind fun i=>(grd ((c:Int)≠0)).bind fun w=>bnd ([10,20,40,50,90,120]) fun s=>(M_e i.2 s).bind fun j=>(M_a 3 j.2.1).bind fun k=>(M_a 48 k.2).bind fun b=>cond (b.1==0) ((M_a 10 b.2).bind fun l=>some ((⟨a.1,IntKind.wrap .i64 (l.1-1),j.1,k.1⟩:aK),l.2,d,g)) (cond (b.1==1) (bnd ([0,1,1000,1001]) fun t=>(M_e b.2 t).bind fun m=>some ((⟨a.1,Int.tmod (IntKind.wrap .i64 ((IntKind.wrap .i64 (a.1+1))+i.1)) (c:Int),m.1,k.1⟩:aK),m.2.1,d,g)) (cond (b.1==2) (bnd ([(-1),3]) fun u=>(M_e b.2 u).bind fun p=>some ((⟨a.1,Int.tmod (IntKind.wrap .i64 ((IntKind.wrap .i64 (a.1+1))+i.1)) (c:Int),j.1,p.1⟩:aK),p.2.1,d,g)) (some ((⟨a.1,Int.tmod (IntKind.wrap .i64 ((IntKind.wrap .i64 (a.1+1))+i.1)) (c:Int),j.1,k.1⟩:aK),b.2,d,g))))
def M_c(a:Int)(b:Int)(c:Int):Option Bool:=
 cond (decide (b<=a)) (some (decide (a<=c))) (some false)
def HW(a:Int):Option Bool:=
 cond (decide (97<=a)) (cond (decide (a<=122)) (some true) (cond (decide (48<=a)) (some (decide (a<=57))) (some false))) (cond (decide (48<=a)) (some (decide (a<=57))) (some false))
def M_b(b:ByteArray)(a:Int):Option (Int⊕(Unit⊕Bool)):=
 cond (decide (a<(b.size:Int))) ((sO b a).bind fun c=>(HW (c.toNat:Int)).bind fun d=>cond (!d) (some (.inr (.inr false))) (some (.inl (IntKind.wrap .i64 (a+1))))) (some (.inr (.inl ())))
def Jr(a:ByteArray):Option Bool:=
 ((M_c (a.size:Int) 1 8).bind fun c=>cond (!c) (some true) ((sO a 0).bind fun b=>cond (decide ((b.toNat:Int)<97)) (some true) (some (decide (122<(b.toNat:Int))))):Option Bool).bind fun d=>cond (d) (some false) ((bz (M_b a) N0 0).bind fun g=>(match g with| .inl j=>some true| .inr i=>some i))
def CB(b:List ByteArray)(c:ByteArray)(a:Int):Option (Int⊕(Unit⊕Int)):=
 cond (decide (a<(b.length:Int))) ((bH b a).bind fun d=>cond (d.toList==c.toList) (some (.inr (.inr a))) (some (.inl (IntKind.wrap .i64 (a+1))))) (some (.inr (.inl ())))
def Ij(a:List ByteArray)(b:ByteArray):Option Int:=
 (bz (CB a b) N0 0).bind fun c=>(match c with| .inl g=>some (-1)| .inr d=>some d)
def Ld(a:aA)(b:Int):Option Bool:=
 (M_c a.A 0 (IntKind.wrap .i64 (b-1))).bind fun c=>cond (c) ((M_c a.B (IntKind.wrap .i64 (a.A+1)) (IntKind.wrap .i64 (b-1))).bind fun d=>cond (d) ((M_c a.Length 1 5000).bind fun g=>cond (g) ((M_c a.Risk 0 9).bind fun i=>some i) (some false)) (some false)) (some false)
def M_g(b:ae)(a:Int):Option (Int⊕(Unit⊕Bool)):=
 cond (decide (a<(b.Nodes.length:Int))) (((bH b.Nodes a).bind fun c=>(Jr c).bind fun d=>cond (!d) (some true) ((Ij b.Nodes c).bind fun g=>some (g !=a)):Option Bool).bind fun i=>cond (i) (some (.inr (.inr false))) (some (.inl (IntKind.wrap .i64 (a+1))))) (some (.inr (.inl ())))
def Bk(b:ae)(a:Int):Option (Int⊕(Unit⊕Bool)):=
 cond (decide (a<(b.Fibers.length:Int))) (((bH b.Fibers a).bind fun c=>(Ld c (b.Nodes.length:Int)).bind fun d=>cond (!d) (some true) (cond (decide (0<a)) ((bH b.Fibers (IntKind.wrap .i64 (a-1))).bind fun g=>(ux g c).bind fun i=>some (decide (0<i))) (some false)):Option Bool).bind fun j=>cond (j) (some (.inr (.inr false))) (some (.inl (IntKind.wrap .i64 (a+1))))) (some (.inr (.inl ())))
def vw(a:ae):Option Bool:=
 ((M_c (a.Nodes.length:Int) 2 8).bind fun b=>cond (!b) (some true) (some (decide (14<(a.Fibers.length:Int)))):Option Bool).bind fun c=>cond (c) (some false) ((bz (M_g a) N0 0).bind fun d=>(match d with| .inl k=>(bz (Bk a) N0 0).bind fun g=>(match g with| .inl l=>some true| .inr i=>some i)| .inr j=>some j))
def sM(c:ae)(d:Int)(b:Int):Option Int:=
 (bH c.Fibers d).bind fun a=>cond (b==a.A) (some a.B) (cond (b==a.B) (some a.A) (some (-1)))
def Ee(b:List Int)(c:Int)(a:Int):Option (Int⊕(Unit⊕Bool)):=
 cond (decide (a<(b.length:Int))) ((bH b a).bind fun d=>cond (d==c) (some (.inr (.inr true))) (some (.inl (IntKind.wrap .i64 (a+1))))) (some (.inr (.inl ())))
def pR(a:List Int)(b:Int):Option Bool:=
 (bz (Ee a b) N0 0).bind fun c=>(match c with| .inl g=>some false| .inr d=>some d)
def M_j(c:ae)(d:ah)(a:Int×List Int):Option ((Int×List Int)⊕((List Int)⊕(List Int×Bool))):=
 cond (decide (a.1<(d.Fibers.length:Int))) ((bH d.Fibers a.1).bind fun g=>(M_c g 0 (IntKind.wrap .i64 ((c.Fibers.length:Int)-1))).bind fun i=>cond (!i) (some (.inr (.inr (a.2,false)))) ((grd (0<=(IntKind.wrap .i64 ((a.2.length:Int)-1))/\(IntKind.wrap .i64 ((a.2.length:Int)-1))<(a.2.length:Int))).bind fun q=>(a.2[(Int.toNat (IntKind.wrap .i64 ((a.2.length:Int)-1)))]?).bind fun j=>(sM c g j).bind fun b=>(cond (decide (b<0)) (some true) ((pR a.2 b).bind fun k=>some k):Option Bool).bind fun l=>cond (l) (some (.inr (.inr (a.2,false)))) (bnd ([b]) fun m=>(grd ((a.2.length+1)*8<=140737488355328)).bind fun s=>bnd (a.2++m) fun p=>some (.inl (IntKind.wrap .i64 (a.1+1),p))))) (some (.inr (.inl a.2)))
def CN(b:ae)(a:ah):Option (List Int×Bool):=
 bnd ([a.Start]) fun c=>((M_c a.Start 0 (IntKind.wrap .i64 ((b.Nodes.length:Int)-1))).bind fun d=>cond (!d) (some true) (some ((a.Fibers.length:Int)==0)):Option Bool).bind fun g=>cond (g) (some (c,false)) ((bz (M_j b a) N0 (0,c)).bind fun i=>(match i with| .inl j=>some (j,true)| .inr k=>some k))
def yN(a:ae)(b:ah):Option Bool:=
 (vw a).bind fun c=>cond (!c) (some false) ((CN a b).bind fun d=>some d.2)
def Dz(a:aM):Option Bool:=
 (M_c a.First 0 23).bind fun b=>cond (b) ((M_c a.Count 1 (IntKind.wrap .i64 (24-a.First))).bind fun c=>some c) (some false)
def NG(a:ae)(b:ah):Option (List Int):=
 (CN a b).bind fun c=>some c.1
def Bl(b:ae)(c:ah):Option Int:=
 (NG b c).bind fun a=>(grd (0<=(IntKind.wrap .i64 ((a.length:Int)-1))/\(IntKind.wrap .i64 ((a.length:Int)-1))<(a.length:Int))).bind fun g=>(a[(Int.toNat (IntKind.wrap .i64 ((a.length:Int)-1)))]?).bind fun d=>some d
def M_h(b:ae)(c:Int)(a:Int×List Int):Option ((Int×List Int)⊕(List Int)):=
 cond (decide (a.1<(b.Fibers.length:Int))) ((bH b.Fibers a.1).bind fun d=>(bH b.Fibers c).bind fun g=>cond (d.Risk==g.Risk) (bnd ([a.1]) fun i=>(grd ((a.2.length+1)*8<=140737488355328)).bind fun k=>bnd (a.2++i) fun j=>some (.inl (IntKind.wrap .i64 (a.1+1),j))) (some (.inl (IntKind.wrap .i64 (a.1+1),a.2)))) (some (.inr a.2))
def xn(b:ae)(a:Int):Option (List Int):=
 (bH b.Fibers a).bind fun c=>cond (c.Risk==0) (bnd ([a]) fun d=>some d) ((bz (M_h b a) N0 (0,[])).bind fun g=>some g)
def Bq(b:ah)(c:List Int)(a:Int):Option (Int⊕(Unit⊕Bool)):=
 cond (decide (a<(b.Fibers.length:Int))) ((bH b.Fibers a).bind fun d=>(pR c d).bind fun g=>cond (g) (some (.inr (.inr false))) (some (.inl (IntKind.wrap .i64 (a+1))))) (some (.inr (.inl ())))
def Ek(c:ae)(b:ah)(d:ah)(a:Int):Option (Int⊕(Unit⊕Bool)):=
 cond (decide (a<(b.Fibers.length:Int))) (((bH b.Fibers a).bind fun g=>(xn c g).bind fun i=>(bz (Bq d i) N0 0).bind fun j=>(match j with| .inl p=>some (.inl ())| .inr k=>some (.inr k)):Option (Unit⊕Bool)).bind fun l=>(match l with| .inl q=>some (.inl (IntKind.wrap .i64 (a+1)))| .inr m=>some (.inr (.inr m)))) (some (.inr (.inl ())))
def sI(a:ae)(b:ah)(c:ah):Option Bool:=
 (bz (Ek a b c) N0 0).bind fun d=>(match d with| .inl i=>some true| .inr g=>some g)
def yP(b:ae)(a:aj):Option Bool:=
 ((M_c a.Id 1 999).bind fun c=>cond (!c) (some true) ((M_c a.Class 0 2).bind fun d=>cond (!d) (some true) ((yN b a.Work).bind fun g=>cond (!g) (some true) ((Dz a.WorkBlock).bind fun i=>some (!i)))):Option Bool).bind fun j=>cond (j) (some false) (cond (a.Class==0) ((cond (a.Spare.Start==0) (cond ((a.Spare.Fibers.length:Int)==0) (some (a.SpareBlock.First==0&&a.SpareBlock.Count==0)) (some false)) (some false):Option Bool).bind fun k=>some k) ((yN b a.Spare).bind fun l=>cond (l) ((Dz a.SpareBlock).bind fun m=>cond (m) (cond (a.Spare.Start==a.Work.Start) ((Bl b a.Spare).bind fun p=>(Bl b a.Work).bind fun q=>cond (p==q) ((sI b a.Work a.Spare).bind fun s=>some s) (some false)) (some false)) (some false)) (some false)))
def Bj(b:ah)(c:List Int)(a:Int):Option (Int⊕(Unit⊕Bool)):=
 cond (decide (a<(b.Fibers.length:Int))) ((bH b.Fibers a).bind fun d=>(pR c d).bind fun g=>cond (g) (some (.inr (.inr true))) (some (.inl (IntKind.wrap .i64 (a+1))))) (some (.inr (.inl ())))
def Ju(a:ah)(b:List Int):Option Bool:=
 (bz (Bj a b) N0 0).bind fun c=>(match c with| .inl g=>some false| .inr d=>some d)
def Cc(a:aM):Option Int:=
 (grd (0<=(IntKind.wrap .u64 a.Count))).bind fun b=>(grd (0<=(IntKind.wrap .u64 a.First))).bind fun c=>some (IntKind.wrap .i64 ((IntKind.wrap .i64 ((IntKind.wrap .i64 (1*2^(min (Int.toNat (IntKind.wrap .u64 a.Count)) (IntKind.bits .i64))))-1))*2^(min (Int.toNat (IntKind.wrap .u64 a.First)) (IntKind.bits .i64))))
def ur(c:ah)(a:aM)(d:ah)(b:aM):Option Bool:=
 (Ju c d.Fibers).bind fun g=>cond (g) (cond (decide (0<a.Count)) (cond (decide (0<b.Count)) ((Cc a).bind fun i=>(Cc b).bind fun j=>some ((bits .and .i64 i j) !=0)) (some false)) (some false)) (some false)
def tl(c:ae)(a:aj)(b:aj):Option Bool:=
 ((ur a.Work a.WorkBlock b.Work b.WorkBlock).bind fun d=>cond (d) (some true) ((ur a.Work a.WorkBlock b.Spare b.SpareBlock).bind fun g=>cond (g) (some true) ((ur a.Spare a.SpareBlock b.Work b.WorkBlock).bind fun i=>some i)):Option Bool).bind fun j=>cond (j) (some false) ((cond (a.Class==2) (cond (b.Class==2) ((sI c a.Work b.Work).bind fun k=>some k) (some false)) (some false):Option Bool).bind fun l=>cond (l) (some true) ((ur a.Spare a.SpareBlock b.Spare b.SpareBlock).bind fun m=>some (!m)))
def M_s(d:ae)(b:List aj)(c:Int)(a:Int):Option (Int⊕(Unit⊕Bool)):=
 cond (decide (a<c)) ((bH b a).bind fun g=>(bH b c).bind fun i=>(tl d g i).bind fun j=>cond (!j) (some (.inr (.inr false))) (some (.inl (IntKind.wrap .i64 (a+1))))) (some (.inr (.inl ())))
def Dh(c:ae)(b:List aj)(a:Int):Option (Int⊕(Unit⊕Bool)):=
 cond (decide (a<(b.length:Int))) ((((bH b a).bind fun d=>(yP c d).bind fun g=>cond (!g) (some true) (cond (decide (0<a)) ((bH b (IntKind.wrap .i64 (a-1))).bind fun i=>some (decide (d.Id<=i.Id))) (some false)):Option Bool).bind fun j=>cond (j) (some (.inr false)) ((bz (M_s c b a) N0 0).bind fun k=>(match k with| .inl q=>some (.inl ())| .inr l=>some (.inr l))):Option (Unit⊕Bool)).bind fun m=>(match m with| .inl s=>some (.inl (IntKind.wrap .i64 (a+1)))| .inr p=>some (.inr (.inr p)))) (some (.inr (.inl ())))
def Fz(a:ae)(b:List aj):Option Bool:=
 ((vw a).bind fun c=>cond (!c) (some true) (some (decide (8<(b.length:Int)))):Option Bool).bind fun d=>cond (d) (some false) ((bz (Dh a b) N0 0).bind fun g=>(match g with| .inl j=>some true| .inr i=>some i))
def M_i(c:List az)(a:Int):Option (Int⊕(Unit⊕Bool)):=
 (cond (decide (a<(c.length:Int))) (some (decide (a<=6))) (some false):Option Bool).bind fun g=>cond (g) (((bH c a).bind fun b=>(M_c b.Reach 1 20000).bind fun i=>cond (!i) (some true) ((M_c b.Rate 1 1000).bind fun j=>cond (!j) (some true) (cond (decide (0<a)) ((bH c (IntKind.wrap .i64 (a-1))).bind fun d=>cond (decide (d.Reach<=b.Reach)) (some true) (some (decide (b.Rate<=d.Rate)))) (some false))):Option Bool).bind fun k=>cond (k) (some (.inr (.inr false))) (some (.inl (IntKind.wrap .i64 (a+1))))) (some (.inr (.inl ())))
def xO(a:List az):Option Bool:=
 (bz (M_i a) N0 0).bind fun b=>(match b with| .inl g=>(M_c (a.length:Int) 1 6).bind fun c=>some c| .inr d=>some d)
def xr(b:ae)(a:aK):Option Bool:=
 (M_c a.From 0 (IntKind.wrap .i64 ((b.Nodes.length:Int)-1))).bind fun c=>cond (c) ((M_c a.To 0 (IntKind.wrap .i64 ((b.Nodes.length:Int)-1))).bind fun d=>cond (d) (cond (a.From !=a.To) ((M_c a.Rate 1 1000).bind fun g=>cond (g) ((M_c a.Class 0 2).bind fun i=>some i) (some false)) (some false)) (some false)) (some false)
def M_f(c:ae)(b:ah)(a:Int×Int):Option ((Int×Int)⊕Int):=
 cond (decide (a.2<(b.Fibers.length:Int))) ((bH b.Fibers a.2).bind fun d=>(bH c.Fibers d).bind fun g=>some (.inl (IntKind.wrap .i64 (a.1+g.Length),IntKind.wrap .i64 (a.2+1)))) (some (.inr a.1))
def pi(a:ae)(b:ah):Option Int:=
 (bz (M_f a b) N0 (0,0)).bind fun c=>some c
def vh(a:Int):Option Int:=
 cond (decide (a<0)) (some (-1)) (cond (decide (0<a)) (some 1) (some 0))
def Dc(b:ah)(g:ah)(a:Int):Option (Int⊕(Unit⊕Int)):=
 cond (decide (a<(b.Fibers.length:Int))) ((bH b.Fibers a).bind fun c=>(bH g.Fibers a).bind fun d=>cond (c !=d) ((vh (IntKind.wrap .i64 (c-d))).bind fun i=>some (.inr (.inr i))) (some (.inl (IntKind.wrap .i64 (a+1))))) (some (.inr (.inl ())))
def En(c:ae)(a:ah)(b:ah):Option Int:=
 (pi c a).bind fun d=>(pi c b).bind fun g=>cond ((IntKind.wrap .i64 (d-g)) !=0) ((vh (IntKind.wrap .i64 (d-g))).bind fun i=>some i) (cond ((IntKind.wrap .i64 ((a.Fibers.length:Int)-(b.Fibers.length:Int))) !=0) ((vh (IntKind.wrap .i64 ((a.Fibers.length:Int)-(b.Fibers.length:Int)))).bind fun j=>some j) ((bz (Dc a b) N0 0).bind fun k=>(match k with| .inl p=>(vh (IntKind.wrap .i64 (a.Start-b.Start))).bind fun l=>some l| .inr m=>some m)))
def M_p(a:List Int):Option (List Int):=
 (grd (a.length*8<=140737488355328)).bind fun b=>some a
def xk(b:List az)(c:Int)(a:Int×Int):Option ((Int×Int)⊕Int):=
 cond (decide (a.2<(b.length:Int))) ((bH b a.2).bind fun d=>cond (decide (c<=d.Reach)) (some (.inl (a.2,IntKind.wrap .i64 (a.2+1)))) (some (.inl (a.1,IntKind.wrap .i64 (a.2+1))))) (some (.inr a.1))
def xz(a:List az)(b:Int):Option Int:=
 (bz (xk a b) N0 ((-1),0)).bind fun c=>some c
def oD(b:List az)(g:Int)(c:Int):Option Int:=
 (xz b g).bind fun d=>cond (decide (d<0)) (some 0) ((bH b d).bind fun a=>(grd (a.Rate≠0)).bind fun i=>cond (decide (24<(IntKind.wrap .i64 (Int.tdiv (IntKind.wrap .i64 ((IntKind.wrap .i64 (c+a.Rate))-1)) a.Rate)))) (some 0) (some (IntKind.wrap .i64 (Int.tdiv (IntKind.wrap .i64 ((IntKind.wrap .i64 (c+a.Rate))-1)) a.Rate))))
def HV(b:List ah)(c:List Int)(a:Int×Int):Option ((Int×Int)⊕Int):=
 cond (decide (a.2<(b.length:Int))) ((cond (decide (a.1<0)) (some true) ((bH c a.2).bind fun d=>(bH b a.2).bind fun g=>(bH c a.1).bind fun i=>(bH b a.1).bind fun j=>some (decide ((IntKind.wrap .i64 (d*(g.Fibers.length:Int)))<(IntKind.wrap .i64 (i*(j.Fibers.length:Int)))))):Option Bool).bind fun k=>cond (k) (some (.inl (a.2,IntKind.wrap .i64 (a.2+1)))) (some (.inl (a.1,IntKind.wrap .i64 (a.2+1))))) (some (.inr a.1))
def KV(a:List ah)(b:List Int):Option Int:=
 (bz (HV a b) N0 ((-1),0)).bind fun c=>some c
def M_n(k:ae)(j:List ah)(l:List Int)(d:Int×Int×Int×Int)(a:Int×Int×Int×Int):Option ((Int×Int×Int×Int)⊕(Int×Int×Int)):=
 cond (decide (a.2.2.2<(j.length:Int))) ((bH l d.2.2.2).bind fun g=>(bH j d.2.2.2).bind fun b=>(bH l a.2.2.2).bind fun i=>(bH j a.2.2.2).bind fun c=>(cond (d.2.2.2==a.2.2.2) (some true) (cond (decide ((IntKind.wrap .i64 (i*(c.Fibers.length:Int)))<(IntKind.wrap .i64 (g*(b.Fibers.length:Int))))) (some true) (cond ((IntKind.wrap .i64 (g*(b.Fibers.length:Int)))==(IntKind.wrap .i64 (i*(c.Fibers.length:Int)))) (cond (decide (a.2.2.2<d.2.2.2)) (some true) ((sI k b c).bind fun m=>some (!m))) ((sI k b c).bind fun p=>some (!p)))):Option Bool).bind fun q=>cond (q) (some (.inl (a.1,a.2.1,a.2.2.1,IntKind.wrap .i64 (a.2.2.2+1)))) ((cond (decide (a.1<0)) (some true) (some (decide ((IntKind.wrap .i64 ((IntKind.wrap .i64 (g*(b.Fibers.length:Int)))+(IntKind.wrap .i64 (i*(c.Fibers.length:Int)))))<a.2.2.1))):Option Bool).bind fun s=>cond (s) (some (.inl (d.2.2.2,a.2.2.2,IntKind.wrap .i64 ((IntKind.wrap .i64 (g*(b.Fibers.length:Int)))+(IntKind.wrap .i64 (i*(c.Fibers.length:Int)))),IntKind.wrap .i64 (a.2.2.2+1)))) (some (.inl (a.1,a.2.1,a.2.2.1,IntKind.wrap .i64 (a.2.2.2+1)))))) (some (.inr (a.1,a.2.1,a.2.2.1)))
def ye(g:ae)(d:List ah)(i:List Int)(a:Int×Int×Int×Int):Option ((Int×Int×Int×Int)⊕(Int×Int)):=
 cond (decide (a.2.2.2<(d.length:Int))) (((bz (M_n g d i a) N0 (a.1,a.2.1,a.2.2.1,0)).bind fun b=>some (b.1,b.2.1,b.2.2):Option (Int×Int×Int)).bind fun c=>some (.inl (c.1,c.2.1,c.2.2,IntKind.wrap .i64 (a.2.2.2+1)))) (some (.inr (a.1,a.2.1)))
def wV(b:ae)(c:List ah)(d:List Int):Option (Int×Int):=
 (bz (ye b c d) N0 ((-1),(-1),0,0)).bind fun a=>some (a.1,a.2)
def KR(c:ae)(b:List aj)(d:aj)(a:Int):Option (Int⊕(Unit⊕Bool)):=
 cond (decide (a<(b.length:Int))) ((bH b a).bind fun g=>(tl c g d).bind fun i=>cond (!i) (some (.inr (.inr false))) (some (.inl (IntKind.wrap .i64 (a+1))))) (some (.inr (.inl ())))
def BL(a:ae)(b:List aj)(c:aj):Option Bool:=
 (bz (KR a b c) N0 0).bind fun d=>(match d with| .inl i=>some true| .inr g=>some g)
def SW(c:ah)(d:List ByteArray)(g:List aA)(b:List ah)(a:Int):Option (Int⊕Int):=
 cond (decide (0<a)) ((grd (0<=(IntKind.wrap .i64 (a-1))/\(IntKind.wrap .i64 (a-1))<(b.length:Int))).bind fun k=>(b[(Int.toNat (IntKind.wrap .i64 (a-1)))]?).bind fun i=>(En (⟨d,g⟩:ae) c i).bind fun j=>cond (decide (j<0)) (some (.inl (IntKind.wrap .i64 (a-1)))) (some (.inr a))) (some (.inr a))
def UT(d:ah)(g:List ByteArray)(i:List aA)(l:Int)(a:List ah):Option (List ByteArray×List aA×Int×List ah×List ah):=
 (bz (SW d g i a) N0 (a.length:Int)).bind fun b=>(grd (True/\0<=b/\True/\Int.toNat b<=a.length)).bind fun q=>bnd (dy a 0 (Int.toNat b)) fun c=>(grd (c.length*32<=140737488355328)).bind fun s=>bnd ([d]) fun m=>(grd ((c.length+1)*32<=140737488355328)).bind fun t=>bnd (c++m) fun j=>(grd (0<=b/\True/\Int.toNat b<=a.length/\True)).bind fun u=>bnd (dy a (Int.toNat b) (a.length-(Int.toNat b))) fun k=>(grd ((j.length+k.length)*32<=140737488355328)).bind fun v=>bnd (j++k) fun p=>some (g,i,l,p,a)
def M_r(c:ah)(d:List ByteArray)(g:List aA)(b:List ah)(a:Int):Option (Int⊕Int):=
 cond (decide (0<a)) ((grd (0<=(IntKind.wrap .i64 (a-1))/\(IntKind.wrap .i64 (a-1))<(b.length:Int))).bind fun k=>(b[(Int.toNat (IntKind.wrap .i64 (a-1)))]?).bind fun i=>(En (⟨d,g⟩:ae) c i).bind fun j=>cond (decide (j<0)) (some (.inl (IntKind.wrap .i64 (a-1)))) (some (.inr a))) (some (.inr a))
def yX(d:ah)(g:List ByteArray)(i:List aA)(l:Int)(a:List ah):Option (List ByteArray×List aA×Int×List ah×List ah):=
 (bz (M_r d g i a) N0 (a.length:Int)).bind fun b=>(grd (True/\0<=b/\True/\Int.toNat b<=a.length)).bind fun q=>bnd (dy a 0 (Int.toNat b)) fun c=>(grd (c.length*32<=140737488355328)).bind fun s=>bnd ([d]) fun m=>(grd ((c.length+1)*32<=140737488355328)).bind fun t=>bnd (c++m) fun j=>(grd (0<=b/\True/\Int.toNat b<=a.length/\True)).bind fun u=>bnd (dy a (Int.toNat b) (a.length-(Int.toNat b))) fun k=>(grd ((j.length+k.length)*32<=140737488355328)).bind fun v=>bnd (j++k) fun p=>some (g,i,l,p,a)
def M_t(j:Int)(k:List Int)(d:List Int)(l:Int->List ByteArray->List aA->Int->List ah->List Int->List Int->Option (List ByteArray×List aA×Int×List ah×List Int))(m:Int)(a:Int×List ByteArray×List aA×Int×List ah):Option ((Int×List ByteArray×List aA×Int×List ah)⊕(List ByteArray×List aA×Int×List ah)):=
 (cond (decide (a.1<(a.2.2.1.length:Int))) (some (decide ((a.2.2.2.2.length:Int)<=200))) (some false):Option Bool).bind fun p=>cond (p) ((sM (⟨a.2.1,a.2.2.1⟩:ae) a.1 m).bind fun c=>(cond (decide (0<=c)) ((pR d c).bind fun q=>some (!q)) (some false):Option Bool).bind fun s=>cond (s) ((M_p k).bind fun g=>bnd ([a.1]) fun t=>(grd ((g.length+1)*8<=140737488355328)).bind fun x=>bnd (g++t) fun u=>(M_p d).bind fun i=>bnd ([c]) fun v=>(grd ((i.length+1)*8<=140737488355328)).bind fun y=>bnd (i++v) fun w=>(l j a.2.1 a.2.2.1 a.2.2.2.1 a.2.2.2.2 u w).bind fun b=>some (.inl (IntKind.wrap .i64 (a.1+1),b.1,b.2.1,b.2.2.1,b.2.2.2.1))) (some (.inl (IntKind.wrap .i64 (a.1+1),a.2.1,a.2.2.1,a.2.2.2.1,a.2.2.2.2)))) (some (.inr (a.2.1,a.2.2.1,a.2.2.2.1,a.2.2.2.2)))
def tD(p:Int->List ByteArray->List aA->Int->List ah->List Int->List Int->Option (List ByteArray×List aA×Int×List ah×List Int))(g:Int)(i:List ByteArray)(j:List aA)(d:Int)(k:List ah)(l:List Int)(a:List Int):Option (List ByteArray×List aA×Int×List ah×List Int):=
 (grd (0<=(IntKind.wrap .i64 ((a.length:Int)-1))/\(IntKind.wrap .i64 ((a.length:Int)-1))<(a.length:Int))).bind fun q=>(a[(Int.toNat (IntKind.wrap .i64 ((a.length:Int)-1)))]?).bind fun m=>cond (m==d) ((yX (⟨g,l⟩:ah) i j d k).bind fun b=>some (b.1,b.2.1,b.2.2.1,b.2.2.2.1,a)) ((bz (M_t g l a p m) N0 (0,i,j,d,k)).bind fun c=>some (c.1,c.2.1,c.2.2.1,c.2.2.2,a))
def qZ:Nat->Int->List ByteArray->List aA->Int->List ah->List Int->List Int->Option (List ByteArray×List aA×Int×List ah×List Int)
 |0,_,_,_,_,_,_,_=>none
 |n+1,a,b,c,d,g,i,j=>tD (qZ n) a b c d g i j
def TT(j:Int)(d:List Int)(k:Int)(a:Int×List ByteArray×List aA×Int×List ah):Option ((Int×List ByteArray×List aA×Int×List ah)⊕(List ByteArray×List aA×Int×List ah)):=
 (cond (decide (a.1<(a.2.2.1.length:Int))) (some (decide ((a.2.2.2.2.length:Int)<=200))) (some false):Option Bool).bind fun l=>cond (l) ((sM (⟨a.2.1,a.2.2.1⟩:ae) a.1 k).bind fun c=>(cond (decide (0<=c)) ((pR d c).bind fun m=>some (!m)) (some false):Option Bool).bind fun p=>cond (p) ((M_p ([])).bind fun g=>bnd ([a.1]) fun q=>(grd ((g.length+1)*8<=140737488355328)).bind fun v=>bnd (g++q) fun s=>(M_p d).bind fun i=>bnd ([c]) fun t=>(grd ((i.length+1)*8<=140737488355328)).bind fun w=>bnd (i++t) fun u=>(qZ N0 j a.2.1 a.2.2.1 a.2.2.2.1 a.2.2.2.2 s u).bind fun b=>some (.inl (IntKind.wrap .i64 (a.1+1),b.1,b.2.1,b.2.2.1,b.2.2.2.1))) (some (.inl (IntKind.wrap .i64 (a.1+1),a.2.1,a.2.2.1,a.2.2.2.1,a.2.2.2.2)))) (some (.inr (a.2.1,a.2.2.1,a.2.2.2.1,a.2.2.2.2)))
def Mb(g:Int)(i:List ByteArray)(j:List aA)(d:Int)(a:List Int):Option (List ByteArray×List aA×Int×List ah×List Int):=
 (grd (0<=(IntKind.wrap .i64 ((a.length:Int)-1))/\(IntKind.wrap .i64 ((a.length:Int)-1))<(a.length:Int))).bind fun l=>(a[(Int.toNat (IntKind.wrap .i64 ((a.length:Int)-1)))]?).bind fun k=>cond (k==d) ((UT (⟨g,[]⟩:ah) i j d ([])).bind fun b=>some (b.1,b.2.1,b.2.2.1,b.2.2.2.1,a)) ((bz (TT g a k) N0 (0,i,j,d,[])).bind fun c=>some (c.1,c.2.1,c.2.2.1,c.2.2.2,a))
def uI(b:ae)(c:Int)(d:Int):Option (Bool×List ah):=
 bnd ([c]) fun g=>(Mb c ((b).Nodes) ((b).Fibers) d g).bind fun a=>cond (decide (200<(a.2.2.2.1.length:Int))) (some (false,[])) ((grd (a.2.2.2.1.length*32<=140737488355328)).bind fun i=>some (true,a.2.2.2.1))
def M_q(g:ae)(i:Nat)(j:Nat)(k:aK)(l:List az)(b:Bool×List ah)(a:Int×List ah×List Int):Option ((Int×List ah×List Int)⊕(List ah×List Int)):=
 cond (decide (a.1<(b.2.length:Int))) ((grd (0<=a.1/\a.1<(b.2.length:Int))).bind fun v=>(b.2[(Int.toNat a.1)]?).bind fun c=>(pi g c).bind fun m=>bnd (dy l i j) fun p=>(oD p m ((k).Rate)).bind fun d=>cond (decide (0<d)) (bnd ([c]) fun q=>(grd ((a.2.1.length+1)*32<=140737488355328)).bind fun w=>bnd (a.2.1++q) fun s=>bnd ([d]) fun t=>(grd ((a.2.2.length+1)*8<=140737488355328)).bind fun x=>bnd (a.2.2++t) fun u=>some (.inl (IntKind.wrap .i64 (a.1+1),s,u))) (some (.inl (IntKind.wrap .i64 (a.1+1),a.2.1,a.2.2)))) (some (.inr (a.2.1,a.2.2)))
def BS(c:ae)(i:Nat)(j:Nat)(a:aK)(b:List az):Option (Bool×List ah×List Int×List az):=
 (uI c ((a).From) ((a).To)).bind fun d=>cond (!d.1) (some (false,[],[],b)) ((bz (M_q c i j a b d) N0 (0,[],[])).bind fun g=>some (true,g.1,g.2,b))
def uJ(b:ae)(d:Nat)(g:Nat)(i:aK)(c:List az):Option (Bool×List ah×List Int×List az):=
 ((vw b).bind fun j=>cond (!j) (some true) (bnd (dy c d g) fun k=>(xO k).bind fun l=>cond (!l) (some true) ((xr b i).bind fun m=>some (!m))):Option Bool).bind fun p=>cond (p) (some (false,[],[],c)) ((BS b d g i c).bind fun a=>some (a.1,a.2.1,a.2.2.1,a.2.2.2))
def tf(c:ae)(d:Nat)(g:Nat)(i:aK)(j:List az):Option (ah×ah×Bool×List az):=
 (uJ c d g i j).bind fun a=>cond (!a.1) (some ((⟨0,[]⟩:ah),(⟨0,[]⟩:ah),false,a.2.2.2)) ((wV c a.2.1 a.2.2.1).bind fun b=>cond (decide (b.1<0)) (some ((⟨0,[]⟩:ah),(⟨0,[]⟩:ah),false,a.2.2.2)) ((grd (0<=b.1/\b.1<(a.2.1.length:Int))).bind fun m=>(a.2.1[(Int.toNat b.1)]?).bind fun k=>(grd (0<=b.2/\b.2<(a.2.1.length:Int))).bind fun p=>(a.2.1[(Int.toNat b.2)]?).bind fun l=>some (k,l,true,a.2.2.2)))
def Ho(a:ah):Option ah:=
 (M_p a.Fibers).bind fun b=>some (⟨a.Start,b⟩:ah)
def xE(a:aj):Option aj:=
 (Ho a.Work).bind fun b=>(Ho (⟨a.Spare.Start,a.Spare.Fibers⟩:ah)).bind fun c=>some (⟨a.Id,a.Class,(⟨b.Start,b.Fibers⟩:ah),(⟨a.WorkBlock.First,a.WorkBlock.Count⟩:aM),(⟨c.Start,c.Fibers⟩:ah),(⟨a.SpareBlock.First,a.SpareBlock.Count⟩:aM)⟩:aj)
def KJ(c:List aj)(d:aj)(b:Int×List aj):Option ((Int×List aj)⊕(Int×List aj)):=
 (cond (decide (b.1<(c.length:Int))) ((bH c b.1).bind fun g=>some (decide (g.Id<d.Id))) (some false):Option Bool).bind fun i=>cond (i) ((bH c b.1).bind fun j=>(xE j).bind fun a=>bnd ([(⟨a.Id,a.Class,(⟨a.Work.Start,a.Work.Fibers⟩:ah),(⟨a.WorkBlock.First,a.WorkBlock.Count⟩:aM),(⟨a.Spare.Start,a.Spare.Fibers⟩:ah),(⟨a.SpareBlock.First,a.SpareBlock.Count⟩:aM)⟩:aj)]) fun k=>(grd ((b.2.length+1)*112<=140737488355328)).bind fun m=>bnd (b.2++k) fun l=>some (.inl (IntKind.wrap .i64 (b.1+1),l))) (some (.inr (b.1,b.2)))
def GD(c:List aj)(b:Int×List aj):Option ((Int×List aj)⊕(List aj)):=
 cond (decide (b.1<(c.length:Int))) ((bH c b.1).bind fun d=>(xE d).bind fun a=>bnd ([(⟨a.Id,a.Class,(⟨a.Work.Start,a.Work.Fibers⟩:ah),(⟨a.WorkBlock.First,a.WorkBlock.Count⟩:aM),(⟨a.Spare.Start,a.Spare.Fibers⟩:ah),(⟨a.SpareBlock.First,a.SpareBlock.Count⟩:aM)⟩:aj)]) fun g=>(grd ((b.2.length+1)*112<=140737488355328)).bind fun j=>bnd (b.2++g) fun i=>some (.inl (IntKind.wrap .i64 (b.1+1),i))) (some (.inr b.2))
def KT(c:List aj)(d:aj):Option (List aj):=
 (bz (KJ c d) N0 (0,[])).bind fun b=>(xE d).bind fun a=>bnd ([(⟨a.Id,a.Class,(⟨a.Work.Start,a.Work.Fibers⟩:ah),(⟨a.WorkBlock.First,a.WorkBlock.Count⟩:aM),(⟨a.Spare.Start,a.Spare.Fibers⟩:ah),(⟨a.SpareBlock.First,a.SpareBlock.Count⟩:aM)⟩:aj)]) fun g=>(grd ((b.2.length+1)*112<=140737488355328)).bind fun k=>bnd (b.2++g) fun i=>(bz (GD c) N0 (b.1,i)).bind fun j=>some j
def Gs(c:ae)(m:ax):Option (aK×ax):=
 (M_a (((c).Nodes).length:Int) m).bind fun a=>(M_a (IntKind.wrap .i64 ((((c).Nodes).length:Int)-1)) a.2).bind fun d=>(grd ((((c).Nodes).length:Int)≠0)).bind fun t=>bnd ([10,20,40,50,90,120]) fun p=>(M_e d.2 p).bind fun g=>(M_a 3 g.2.1).bind fun i=>(M_a 48 i.2).bind fun b=>cond (b.1==0) ((M_a 10 b.2).bind fun j=>some ((⟨a.1,IntKind.wrap .i64 (j.1-1),g.1,i.1⟩:aK),j.2)) (cond (b.1==1) (bnd ([0,1,1000,1001]) fun q=>(M_e b.2 q).bind fun k=>some ((⟨a.1,Int.tmod (IntKind.wrap .i64 ((IntKind.wrap .i64 (a.1+1))+d.1)) (((c).Nodes).length:Int),k.1,i.1⟩:aK),k.2.1)) (cond (b.1==2) (bnd ([(-1),3]) fun s=>(M_e b.2 s).bind fun l=>some ((⟨a.1,Int.tmod (IntKind.wrap .i64 ((IntKind.wrap .i64 (a.1+1))+d.1)) (((c).Nodes).length:Int),g.1,l.1⟩:aK),l.2.1)) (some ((⟨a.1,Int.tmod (IntKind.wrap .i64 ((IntKind.wrap .i64 (a.1+1))+d.1)) (((c).Nodes).length:Int),g.1,i.1⟩:aK),b.2))))
def Gl(c:ae)(d:Nat)(g:Nat)(i:aK)(j:List az):Option (ah×Int×Bool×List az):=
 (uJ c d g i j).bind fun a=>(KV a.2.1 a.2.2.1).bind fun b=>(cond (!a.1) (some true) (some (decide (b<0))):Option Bool).bind fun k=>cond (k) (some ((⟨0,[]⟩:ah),0,false,a.2.2.2)) ((grd (0<=b/\b<(a.2.1.length:Int))).bind fun p=>(a.2.1[(Int.toNat b)]?).bind fun l=>(grd (0<=b/\b<(a.2.2.1.length:Int))).bind fun q=>(a.2.2.1[(Int.toNat b)]?).bind fun m=>some (l,m,true,a.2.2.2))
def KU(d:ae)(g:Nat)(i:Nat)(j:aj)(b:Int)(c:List aj)(a:Int×aj):Option ((Int×aj)⊕(aj⊕(aj×Bool×List aj))):=
 cond (decide (24<(IntKind.wrap .i64 (a.1+b)))) (some (.inr (.inr (j,false,c)))) (bnd (dy c g i) fun k=>(BL d k (⟨(a.2).Id,(a.2).Class,(⟨((a.2).Work).Start,((a.2).Work).Fibers⟩:ah),(⟨a.1,b⟩:aM),(⟨((a.2).Spare).Start,((a.2).Spare).Fibers⟩:ah),(⟨((a.2).SpareBlock).First,((a.2).SpareBlock).Count⟩:aM)⟩:aj)).bind fun l=>cond (l) (some (.inr (.inl (⟨(a.2).Id,(a.2).Class,(⟨((a.2).Work).Start,((a.2).Work).Fibers⟩:ah),(⟨a.1,b⟩:aM),(⟨((a.2).Spare).Start,((a.2).Spare).Fibers⟩:ah),(⟨((a.2).SpareBlock).First,((a.2).SpareBlock).Count⟩:aM)⟩:aj)))) (some (.inl (IntKind.wrap .i64 (a.1+1),(⟨(a.2).Id,(a.2).Class,(⟨((a.2).Work).Start,((a.2).Work).Fibers⟩:ah),(⟨a.1,b⟩:aM),(⟨((a.2).Spare).Start,((a.2).Spare).Fibers⟩:ah),(⟨((a.2).SpareBlock).First,((a.2).SpareBlock).Count⟩:aM)⟩:aj)))))
def Gm(d:ae)(g:Nat)(i:Nat)(b:Int)(c:List aj)(a:Int×aj):Option ((Int×aj)⊕(aj⊕(aj×Bool×List aj))):=
 cond (decide ((IntKind.wrap .i64 (a.1+b))<=24)) (bnd (dy c g i) fun j=>(BL d j (⟨(a.2).Id,(a.2).Class,(⟨((a.2).Work).Start,((a.2).Work).Fibers⟩:ah),(⟨((a.2).WorkBlock).First,((a.2).WorkBlock).Count⟩:aM),(⟨((a.2).Spare).Start,((a.2).Spare).Fibers⟩:ah),(⟨a.1,b⟩:aM)⟩:aj)).bind fun k=>cond (k) (some (.inr (.inr ((⟨(a.2).Id,(a.2).Class,(⟨((a.2).Work).Start,((a.2).Work).Fibers⟩:ah),(⟨((a.2).WorkBlock).First,((a.2).WorkBlock).Count⟩:aM),(⟨((a.2).Spare).Start,((a.2).Spare).Fibers⟩:ah),(⟨a.1,b⟩:aM)⟩:aj),true,c)))) (some (.inl (IntKind.wrap .i64 (a.1+1),(⟨(a.2).Id,(a.2).Class,(⟨((a.2).Work).Start,((a.2).Work).Fibers⟩:ah),(⟨((a.2).WorkBlock).First,((a.2).WorkBlock).Count⟩:aM),(⟨((a.2).Spare).Start,((a.2).Spare).Fibers⟩:ah),(⟨a.1,b⟩:aM)⟩:aj))))) (some (.inr (.inl a.2)))
def GT(d:ae)(g:Nat)(i:Nat)(a:aj)(j:Int)(k:Int)(b:List aj):Option (aj×Bool×List aj):=
 (bz (KU d g i a j b) N0 (0,(⟨0,0,(⟨((a).Work).Start,((a).Work).Fibers⟩:ah),(⟨0,0⟩:aM),(⟨0,[]⟩:ah),(⟨0,0⟩:aM)⟩:aj))).bind fun l=>(match l with| .inl c=>cond (((a).Class)==0) (some ((⟨(a).Id,(a).Class,(⟨((a).Work).Start,((a).Work).Fibers⟩:ah),(⟨((c).WorkBlock).First,((c).WorkBlock).Count⟩:aM),(⟨((a).Spare).Start,((a).Spare).Fibers⟩:ah),(⟨((a).SpareBlock).First,((a).SpareBlock).Count⟩:aM)⟩:aj),true,b)) ((bz (Gm d g i k b) N0 (0,(⟨(a).Id,(a).Class,(⟨((a).Work).Start,((a).Work).Fibers⟩:ah),(⟨((c).WorkBlock).First,((c).WorkBlock).Count⟩:aM),(⟨((a).Spare).Start,((a).Spare).Fibers⟩:ah),(⟨((a).SpareBlock).First,((a).SpareBlock).Count⟩:aM)⟩:aj))).bind fun m=>(match m with| .inl p=>some (p,false,b)| .inr q=>some q))| .inr s=>some s)
def LP(c:Nat)(b:Nat)(d:List aj)(a:Int×aj):Option ((Int×aj)⊕aj):=
 (cond (decide (a.1<(b:Int))) ((grd (0<=a.1/\a.1<(b:Int))).bind fun j=>(d[(c+(Int.toNat a.1))]?).bind fun g=>some (g.Id==((a.2).Id))) (some false):Option Bool).bind fun i=>cond (i) (some (.inl (IntKind.wrap .i64 (a.1+1),(⟨IntKind.wrap .i64 (((a.2).Id)+1),(a.2).Class,(⟨((a.2).Work).Start,((a.2).Work).Fibers⟩:ah),(⟨((a.2).WorkBlock).First,((a.2).WorkBlock).Count⟩:aM),(⟨((a.2).Spare).Start,((a.2).Spare).Fibers⟩:ah),(⟨((a.2).SpareBlock).First,((a.2).SpareBlock).Count⟩:aM)⟩:aj)))) (some (.inr a.2))
def KW(d:ae)(l:Nat)(m:Nat)(p:Nat)(i:Nat)(c:aK)(s:List az)(j:List aj):Option (Int×Bool×List aj×List az×List aj):=
 (bnd (dy j p i) fun t=>(Fz d t).bind fun u=>cond (!u) (some true) (some ((i:Int)==8)):Option Bool).bind fun v=>cond (v) (some (0,false,[],s,j)) ((bz (LP p i j) N0 (0,(⟨1,(c).Class,(⟨0,[]⟩:ah),(⟨0,0⟩:aM),(⟨0,[]⟩:ah),(⟨0,0⟩:aM)⟩:aj))).bind fun b=>(Gl d l m c s).bind fun q=>(cond (((c).Class) !=0) ((tf d l m c q.2.2.2).bind fun k=>some (k.2.2.1,(⟨(b).Id,(b).Class,(⟨((b).Work).Start,((b).Work).Fibers⟩:ah),(⟨((b).WorkBlock).First,((b).WorkBlock).Count⟩:aM),(⟨(k.2.1).Start,(k.2.1).Fibers⟩:ah),(⟨((b).SpareBlock).First,((b).SpareBlock).Count⟩:aM)⟩:aj),k.1,k.2.2.2)) (some (q.2.2.1,b,q.1,q.2.2.2)):Option (Bool×aj×ah×List az)).bind fun a=>cond (!a.1) (some (0,false,[],a.2.2.2,j)) ((cond (((c).Class) !=0) ((pi d a.2.1.Spare).bind fun w=>bnd (dy a.2.2.2 l m) fun x=>(oD x w ((c).Rate)).bind fun y=>some y) (some 0):Option Int).bind fun z=>(pi d a.2.2.1).bind fun a1=>bnd (dy a.2.2.2 l m) fun b1=>(oD b1 a1 ((c).Rate)).bind fun c1=>(GT d p i (⟨(a.2.1).Id,(a.2.1).Class,(⟨(a.2.2.1).Start,(a.2.2.1).Fibers⟩:ah),(⟨((a.2.1).WorkBlock).First,((a.2.1).WorkBlock).Count⟩:aM),(⟨((a.2.1).Spare).Start,((a.2.1).Spare).Fibers⟩:ah),(⟨((a.2.1).SpareBlock).First,((a.2.1).SpareBlock).Count⟩:aM)⟩:aj) c1 z j).bind fun g=>cond (!g.2.1) (some (0,false,[],a.2.2.2,g.2.2)) (bnd (dy g.2.2 p i) fun d1=>(KT d1 g.1).bind fun g1=>some ((g.1).Id,true,g1,a.2.2.2,g.2.2))))
def JF(d:Nat×Nat×List ByteArray×List aA×ax)(g:List ByteArray)(a:Nat×Nat×Int×List aj×List az×ax):Option ((Nat×Nat×Int×List aj×List az×ax)⊕(Nat×List aj×ax)):=
 cond (decide (0<a.2.2.1)) ((Gs (⟨g,d.2.2.2.1⟩:ae) a.2.2.2.2.2).bind fun c=>(KW (⟨g,d.2.2.2.1⟩:ae) 0 a.2.1 0 a.1 c.1 a.2.2.2.2.1 a.2.2.2.1).bind fun b=>cond (b.2.1) (some (.inl (b.2.2.1.length,a.2.1,IntKind.wrap .i64 (a.2.2.1-1),b.2.2.1,b.2.2.2.1,c.2))) (some (.inl (a.1,a.2.1,IntKind.wrap .i64 (a.2.2.1-1),b.2.2.2.2,b.2.2.2.1,c.2)))) (some (.inr (a.1,a.2.2.2.1,a.2.2.2.2.2)))
def Lh(g:ax):Option (ae×Nat×Nat×List aj×ax):=
 (Hr g).bind fun a=>bnd (dy a.2.2.1 a.1 a.2.1) fun c=>bnd ([(⟨3000,10⟩:az),(⟨900,20⟩:az)]) fun i=>(M_a 6 a.2.2.2.2).bind fun d=>(bz (JF a c) N0 (0,2,d.1,[],i,d.2)).bind fun b=>some ((⟨c,a.2.2.2.1⟩:ae),0,b.1,b.2.1,b.2.2)
def Er(c:ae)(b:Int×List Int×List Int×ax)(a:Int×List Int):Option ((Int×List Int)⊕(List Int)):=
 cond (decide (a.1<(((c).Fibers).length:Int))) ((grd (0<=(IntKind.wrap .i64 ((b.2.1.length:Int)-1))/\(IntKind.wrap .i64 ((b.2.1.length:Int)-1))<(b.2.1.length:Int))).bind fun m=>(b.2.1[(Int.toNat (IntKind.wrap .i64 ((b.2.1.length:Int)-1)))]?).bind fun g=>(sM c a.1 g).bind fun d=>(cond (decide (0<=d)) ((pR b.2.1 d).bind fun i=>some (!i)) (some false):Option Bool).bind fun j=>cond (j) (bnd ([a.1]) fun k=>(grd ((a.2.length+1)*8<=140737488355328)).bind fun p=>bnd (a.2++k) fun l=>some (.inl (IntKind.wrap .i64 (a.1+1),l))) (some (.inl (IntKind.wrap .i64 (a.1+1),a.2)))) (some (.inr a.2))
def Ix(d:ae)(a:Int×List Int×List Int×ax):Option ((Int×List Int×List Int×ax)⊕(List Int×ax)):=
 cond (decide (0<a.1)) ((bz (Er d a) N0 (0,[])).bind fun b=>cond ((b.length:Int)==0) (some (.inr (a.2.2.1,a.2.2.2))) ((M_a (b.length:Int) a.2.2.2).bind fun c=>(grd (0<=c.1/\c.1<(b.length:Int))).bind fun q=>(b[(Int.toNat c.1)]?).bind fun g=>bnd ([g]) fun i=>(grd ((a.2.2.1.length+1)*8<=140737488355328)).bind fun s=>bnd (a.2.2.1++i) fun j=>(grd (0<=(IntKind.wrap .i64 ((a.2.1.length:Int)-1))/\(IntKind.wrap .i64 ((a.2.1.length:Int)-1))<(a.2.1.length:Int))).bind fun t=>(a.2.1[(Int.toNat (IntKind.wrap .i64 ((a.2.1.length:Int)-1)))]?).bind fun k=>(sM d g k).bind fun l=>bnd ([l]) fun m=>(grd ((a.2.1.length+1)*8<=140737488355328)).bind fun u=>bnd (a.2.1++m) fun p=>some (.inl (IntKind.wrap .i64 (a.1-1),p,j,c.2)))) (some (.inr (a.2.2.1,a.2.2.2)))
def Lx(b:ae)(g:ax):Option (Int×List Int×ax):=
 (M_a (((b).Nodes).length:Int) g).bind fun a=>bnd ([a.1]) fun i=>(M_a 4 a.2).bind fun c=>(bz (Ix b) N0 (IntKind.wrap .i64 (1+c.1),i,[],c.2)).bind fun d=>some (a.1,d.1,d.2)
def BA(g:ae)(i:ax):Option (Int×List Int×ax):=
 (Lx g i).bind fun a=>(M_a 16 a.2.2).bind fun b=>cond (b.1==0) ((M_a 8 b.2).bind fun c=>some (IntKind.wrap .i64 (c.1-1),a.2.1,c.2)) (cond (b.1==1) ((M_a 8 b.2).bind fun d=>bnd ([IntKind.wrap .i64 (d.1-1)]) fun j=>(grd ((a.2.1.length+1)*8<=140737488355328)).bind fun q=>bnd (a.2.1++j) fun k=>some (a.1,k,d.2)) (cond (b.1==2) (some (a.1,[],b.2)) (cond (b.1==3) (cond (decide (1<(a.2.1.length:Int))) ((grd (0<=(IntKind.wrap .i64 ((a.2.1.length:Int)-1))/\(IntKind.wrap .i64 ((a.2.1.length:Int)-1))<(a.2.1.length:Int))).bind fun s=>(a.2.1[(Int.toNat (IntKind.wrap .i64 ((a.2.1.length:Int)-1)))]?).bind fun l=>bnd ([l]) fun m=>(grd ((a.2.1.length+1)*8<=140737488355328)).bind fun t=>bnd (a.2.1++m) fun p=>some (a.1,p,b.2)) (some (a.1,a.2.1,b.2))) (some (a.1,a.2.1,b.2)))))
def Eu(i:ax):Option (aM×ax):=
 (tk 12 i).bind fun a=>cond (a.1) ((M_a 26 a.2).bind fun c=>(M_a 27 c.2).bind fun d=>some ((⟨IntKind.wrap .i64 (c.1-1),IntKind.wrap .i64 (d.1-1)⟩:aM),d.2)) ((M_a 6 a.2).bind fun b=>(M_a (IntKind.wrap .i64 ((IntKind.wrap .i64 (24-(IntKind.wrap .i64 (1+b.1))))+1)) b.2).bind fun g=>some ((⟨g.1,IntKind.wrap .i64 (1+b.1)⟩:aM),g.2))
def HB(c:ax)(a:List ByteArray):Option (ByteArray×ax×List ByteArray):=
 (M_a (a.length:Int) c).bind fun b=>(grd (0<=b.1/\b.1<(a.length:Int))).bind fun g=>(a[(Int.toNat b.1)]?).bind fun d=>some (d,b.2,a)
def Bm(a:List aA×ax):Option ((List aA×ax)⊕(List aA×ax)):=
 (M_a 2 a.2).bind fun b=>cond (decide ((a.1.length:Int)<(IntKind.wrap .i64 (14+b.1)))) ((grd (0<=(IntKind.wrap .i64 ((a.1.length:Int)-1))/\(IntKind.wrap .i64 ((a.1.length:Int)-1))<(a.1.length:Int))).bind fun i=>(a.1[(Int.toNat (IntKind.wrap .i64 ((a.1.length:Int)-1)))]?).bind fun c=>bnd ([c]) fun d=>(grd ((a.1.length+1)*32<=140737488355328)).bind fun j=>bnd (a.1++d) fun g=>some (.inl (g,b.2))) (some (.inr (a.1,b.2)))
def CV(q:ax):Option (Nat×Nat×List ByteArray×List aA×ax):=
 (Dj q).bind fun a=>cond ((a.2.2.2.1.length:Int)==0) (some (a.1,a.2.1,a.2.2.1,a.2.2.2.1,a.2.2.2.2)) ((M_a (a.2.2.2.1.length:Int) a.2.2.2.2).bind fun d=>(grd (0<=d.1/\d.1<(a.2.2.2.1.length:Int))).bind fun i1=>(a.2.2.2.1[(Int.toNat d.1)]?).bind fun c=>((M_a 24 d.2).bind fun b=>cond (b.1==0) (bnd ([(⟨#[98]⟩:ByteArray),(⟨#[]⟩:ByteArray),(⟨#[65]⟩:ByteArray),(⟨#[97,98,99,100,101,102,103,104]⟩:ByteArray),(⟨#[97,98,99,100,101,102,103,104,105]⟩:ByteArray),(⟨#[120,49]⟩:ByteArray)]) fun s=>(HB b.2 s).bind fun i=>(grd (0<=0/\0<(a.2.1:Int))).bind fun j1=>(a.2.2.1[(a.1+(Int.toNat 0))]?).bind fun k1=>bnd (a.2.2.1.set (a.1+(Int.toNat 0)) i.1) fun t=>some (.inl (a.1,a.2.1,c,t,a.2.2.2.1,i.2.1))) (cond (b.1==1) ((M_a 8 b.2).bind fun j=>some (.inl (a.1,a.2.1,(⟨IntKind.wrap .i64 (j.1-1),c.B,c.Length,c.Risk⟩:aA),a.2.2.1,a.2.2.2.1,j.2))) (cond (b.1==2) ((M_a 10 b.2).bind fun k=>some (.inl (a.1,a.2.1,(⟨c.A,IntKind.wrap .i64 (k.1-1),c.Length,c.Risk⟩:aA),a.2.2.1,a.2.2.2.1,k.2))) (cond (b.1==3) (bnd ([0,1,5000,5001]) fun u=>(M_e b.2 u).bind fun l=>some (.inl (a.1,a.2.1,(⟨c.A,c.B,l.1,c.Risk⟩:aA),a.2.2.1,a.2.2.2.1,l.2.1))) (cond (b.1==4) (bnd ([(-1),9,10]) fun v=>(M_e b.2 v).bind fun m=>some (.inl (a.1,a.2.1,(⟨c.A,c.B,c.Length,m.1⟩:aA),a.2.2.1,a.2.2.2.1,m.2.1))) (cond (b.1==5) ((grd (0<=0/\0<(a.2.2.2.1.length:Int))).bind fun l1=>(a.2.2.2.1[(Int.toNat 0)]?).bind fun w=>bnd ([w]) fun x=>(grd ((a.2.2.2.1.length+1)*32<=140737488355328)).bind fun m1=>bnd (a.2.2.2.1++x) fun y=>some (.inl (a.1,a.2.1,c,a.2.2.1,y,b.2))) (cond (b.1==6) ((bz (Bm) N0 (a.2.2.2.1,b.2)).bind fun p=>some (.inr (a.1,a.2.1,a.2.2.1,p.1,p.2))) (cond (b.1==7) (bnd ([(⟨#[112]⟩:ByteArray),(⟨#[113]⟩:ByteArray),(⟨#[114]⟩:ByteArray),(⟨#[115]⟩:ByteArray)]) fun z=>bnd (dy a.2.2.1 a.1 a.2.1) fun a1=>(grd ((a.2.1+4)*16<=140737488355328)).bind fun p1=>bnd (a1++z) fun b1=>some (.inl (0,(a.2.1+4),c,b1,a.2.2.2.1,b.2))) (some (.inl (a.1,a.2.1,c,a.2.2.1,a.2.2.2.1,b.2)))))))))):Option ((Nat×Nat×aA×List ByteArray×List aA×ax)⊕(Nat×Nat×List ByteArray×List aA×ax))).bind fun c1=>(match c1 with| .inl g=>(grd (0<=d.1/\d.1<(g.2.2.2.2.1.length:Int))).bind fun q1=>(g.2.2.2.2.1[(Int.toNat d.1)]?).bind fun s1=>bnd (g.2.2.2.2.1.set (Int.toNat d.1) g.2.2.1) fun d1=>some (g.1,g.2.1,g.2.2.2.1,d1,g.2.2.2.2.2)| .inr g1=>some g1))
def DA(s:ax):Option (ae×Nat×Nat×List aj×ax):=
 (Lh s).bind fun b=>cond ((b.2.2.1:Int)==0) (some (b.1,b.2.1,b.2.2.1,b.2.2.2.1,b.2.2.2.2)) ((M_a (b.2.2.1:Int) b.2.2.2.2).bind fun g=>(grd (0<=g.1/\g.1<(b.2.2.1:Int))).bind fun z=>(b.2.2.2.1[(b.2.1+(Int.toNat g.1))]?).bind fun a=>((M_a 24 g.2).bind fun c=>cond (c.1==0) (bnd ([0,999,1000,500,1]) fun t=>(M_e c.2 t).bind fun p=>some (b.2.1,b.2.2.1,b.1,b.2.2.2.1,(⟨p.1,a.Class,(⟨a.Work.Start,a.Work.Fibers⟩:ah),(⟨a.WorkBlock.First,a.WorkBlock.Count⟩:aM),(⟨a.Spare.Start,a.Spare.Fibers⟩:ah),(⟨a.SpareBlock.First,a.SpareBlock.Count⟩:aM)⟩:aj),p.2.1)) (cond (c.1==1) ((M_a 5 c.2).bind fun q=>some (b.2.1,b.2.2.1,b.1,b.2.2.2.1,(⟨a.Id,IntKind.wrap .i64 (q.1-1),(⟨a.Work.Start,a.Work.Fibers⟩:ah),(⟨a.WorkBlock.First,a.WorkBlock.Count⟩:aM),(⟨a.Spare.Start,a.Spare.Fibers⟩:ah),(⟨a.SpareBlock.First,a.SpareBlock.Count⟩:aM)⟩:aj),q.2)) (cond (c.1==2) ((BA b.1 c.2).bind fun j=>some (b.2.1,b.2.2.1,b.1,b.2.2.2.1,(⟨a.Id,a.Class,(⟨j.1,j.2.1⟩:ah),(⟨a.WorkBlock.First,a.WorkBlock.Count⟩:aM),(⟨a.Spare.Start,a.Spare.Fibers⟩:ah),(⟨a.SpareBlock.First,a.SpareBlock.Count⟩:aM)⟩:aj),j.2.2)) (cond (c.1==3) ((Eu c.2).bind fun k=>some (b.2.1,b.2.2.1,b.1,b.2.2.2.1,(⟨a.Id,a.Class,(⟨a.Work.Start,a.Work.Fibers⟩:ah),(⟨(k.1).First,(k.1).Count⟩:aM),(⟨a.Spare.Start,a.Spare.Fibers⟩:ah),(⟨a.SpareBlock.First,a.SpareBlock.Count⟩:aM)⟩:aj),k.2)) (cond (c.1==4) ((BA b.1 c.2).bind fun l=>some (b.2.1,b.2.2.1,b.1,b.2.2.2.1,(⟨a.Id,a.Class,(⟨a.Work.Start,a.Work.Fibers⟩:ah),(⟨a.WorkBlock.First,a.WorkBlock.Count⟩:aM),(⟨l.1,l.2.1⟩:ah),(⟨a.SpareBlock.First,a.SpareBlock.Count⟩:aM)⟩:aj),l.2.2)) (cond (c.1==5) ((Eu c.2).bind fun m=>some (b.2.1,b.2.2.1,b.1,b.2.2.2.1,(⟨a.Id,a.Class,(⟨a.Work.Start,a.Work.Fibers⟩:ah),(⟨a.WorkBlock.First,a.WorkBlock.Count⟩:aM),(⟨a.Spare.Start,a.Spare.Fibers⟩:ah),(⟨(m.1).First,(m.1).Count⟩:aM)⟩:aj),m.2)) (cond (c.1==6) (bnd ([a]) fun u=>bnd (dy b.2.2.2.1 b.2.1 b.2.2.1) fun v=>(grd ((b.2.2.1+1)*112<=140737488355328)).bind fun a1=>bnd (v++u) fun w=>some (0,(b.2.2.1+1),b.1,w,a,c.2)) (cond (c.1==7) ((CV c.2).bind fun i=>bnd (dy i.2.2.1 i.1 i.2.1) fun x=>some (b.2.1,b.2.2.1,(⟨x,i.2.2.2.1⟩:ae),b.2.2.2.1,a,i.2.2.2.2)) (some (b.2.1,b.2.2.1,b.1,b.2.2.2.1,a,c.2))))))))):Option (Nat×Nat×ae×List aj×aj×ax)).bind fun d=>(grd (0<=g.1/\g.1<(d.2.1:Int))).bind fun b1=>(d.2.2.2.1[(d.1+(Int.toNat g.1))]?).bind fun c1=>bnd (d.2.2.2.1.set (d.1+(Int.toNat g.1)) d.2.2.2.2.1) fun y=>some (d.2.2.1,d.1,d.2.1,y,d.2.2.2.2.2))
def FW(a:Nat×Nat×Int×ae×List aj×ax):Option ((Nat×Nat×Int×ae×List aj×ax)⊕(Nat×Nat×ae×List aj×ax)):=
 (cond (decide (a.2.2.1<4)) (some (decide ((a.2.1:Int)<2))) (some false):Option Bool).bind fun c=>cond (c) ((DA a.2.2.2.2.2).bind fun b=>some (.inl (b.2.1,b.2.2.1,IntKind.wrap .i64 (a.2.2.1+1),b.1,b.2.2.2.1,b.2.2.2.2))) (some (.inr (a.1,a.2.1,a.2.2.2.1,a.2.2.2.2.1,a.2.2.2.2.2)))
def Kd(j:List Int):Option (ae×aj×aj):=
 (DA (⟨j,0,0⟩:ax)).bind fun c=>(bz (FW) N0 (c.2.1,c.2.2.1,0,c.1,c.2.2.2.1,c.2.2.2.2)).bind fun a=>cond (decide ((a.2.1:Int)<2)) (some (a.2.2.1,(⟨0,0,(⟨0,[]⟩:ah),(⟨0,0⟩:aM),(⟨0,[]⟩:ah),(⟨0,0⟩:aM)⟩:aj),(⟨0,0,(⟨0,[]⟩:ah),(⟨0,0⟩:aM),(⟨0,[]⟩:ah),(⟨0,0⟩:aM)⟩:aj))) ((M_a (a.2.1:Int) a.2.2.2.2).bind fun d=>(grd (0<=d.1/\d.1<(a.2.1:Int))).bind fun l=>(a.2.2.2.1[(a.1+(Int.toNat d.1))]?).bind fun g=>(M_a (a.2.1:Int) d.2).bind fun i=>(grd (0<=i.1/\i.1<(a.2.1:Int))).bind fun m=>(a.2.2.2.1[(a.1+(Int.toNat i.1))]?).bind fun b=>(tk 3 i.2).bind fun k=>cond (k.1) (some (a.2.2.1,g,(⟨b.Id,b.Class,(⟨b.Work.Start,b.Work.Fibers⟩:ah),(⟨b.WorkBlock.First,b.WorkBlock.Count⟩:aM),(⟨b.Spare.Start,b.Spare.Fibers⟩:ah),(⟨g.SpareBlock.First,g.SpareBlock.Count⟩:aM)⟩:aj))) (some (a.2.2.1,g,b)))
def M_d(a:Int)(b:Int)(c:Int):Option Bool:=
 cond (decide (b<=a)) (some (decide (a<=c))) (some false)
def Et(c:ByteArray)(b:Int):Option (Int⊕(Unit⊕Bool)):=
 cond (decide (b<(c.size:Int))) (((sO c b).bind fun a=>cond (decide (97<=(a.toNat:Int))) (cond (decide (48<=(a.toNat:Int))) (some (decide ((a.toNat:Int)<=122),decide ((a.toNat:Int)<=57))) (some (decide ((a.toNat:Int)<=122),false))) (cond (decide (48<=(a.toNat:Int))) (some (false,decide ((a.toNat:Int)<=57))) (some (false,false))):Option (Bool×Bool)).bind fun d=>cond (!d.1) (cond (!d.2) (some (.inr (.inr false))) (cond (b==0) (some (.inr (.inr false))) (some (.inl (IntKind.wrap .i64 (b+1)))))) (some (.inl (IntKind.wrap .i64 (b+1))))) (some (.inr (.inl ())))
def JQ(a:ByteArray):Option Bool:=
 (bz (Et a) N0 0).bind fun b=>(match b with| .inl g=>(M_d (a.size:Int) 1 8).bind fun c=>some c| .inr d=>some d)
def BP(b:List ByteArray)(c:ByteArray)(a:Int):Option (Int⊕(Unit⊕Int)):=
 cond (decide (a<(b.length:Int))) ((bH b a).bind fun d=>cond (c.toList==d.toList) (some (.inr (.inr a))) (some (.inl (IntKind.wrap .i64 (a+1))))) (some (.inr (.inl ())))
def PG(a:List ByteArray)(b:ByteArray):Option Int:=
 (bz (BP a b) N0 0).bind fun c=>(match c with| .inl g=>some (-1)| .inr d=>some d)
def IR(a:List ByteArray)(b:ByteArray):Option Bool:=
 (PG a b).bind fun c=>some (decide (0<=c))
def vX(a:Int):Option Bool:=
 some (a !=a)
def M_m(a:Int)(b:Int):Option Int:=
 (vX a).bind fun d=>(vX b).bind fun c=>cond (d) (cond (c) (some 0) (some (-1))) (cond (c) (some 1) (cond (decide (a<b)) (some (-1)) (cond (decide (b<a)) (some 1) (some 0))))
def M_k(b:List Int)(a:Int):Option (Int⊕(Unit⊕Int)):=
 cond (decide (a<(b.length:Int))) ((bH b a).bind fun c=>cond (c !=0) (some (.inr (.inr c))) (some (.inl (IntKind.wrap .i64 (a+1))))) (some (.inr (.inl ())))
def mB(a:List Int):Option Int:=
 (bz (M_k a) N0 0).bind fun b=>(match b with| .inl d=>some 0| .inr c=>some c)
def Lt(a:aA)(b:aA):Option Int:=
 (M_m a.A b.A).bind fun c=>(M_m a.B b.B).bind fun d=>(M_m a.Length b.Length).bind fun g=>(M_m a.Risk b.Risk).bind fun i=>bnd ([c,d,g,i]) fun j=>(mB j).bind fun k=>some k
def Ea(b:ae)(a:Int):Option (Int⊕(Unit⊕Bool)):=
 cond (decide (a<(b.Nodes.length:Int))) ((bH b.Nodes a).bind fun c=>(JQ c).bind fun d=>cond (!d) (some (.inr (.inr false))) ((slT b.Nodes a).bind fun g=>(IR g c).bind fun i=>cond (i) (some (.inr (.inr false))) (some (.inl (IntKind.wrap .i64 (a+1)))))) (some (.inr (.inl ())))
def EF(c:ae)(b:Int):Option (Int⊕(Unit⊕Bool)):=
 cond (decide (b<(c.Fibers.length:Int))) ((bH c.Fibers b).bind fun a=>cond (decide (a.A<0)) (some (.inr (.inr false))) (cond (decide (a.B<=a.A)) (some (.inr (.inr false))) (cond (decide ((c.Nodes.length:Int)<=a.B)) (some (.inr (.inr false))) ((M_d a.Length 1 5000).bind fun d=>cond (!d) (some (.inr (.inr false))) ((M_d a.Risk 0 9).bind fun g=>cond (!g) (some (.inr (.inr false))) (cond (decide (0<b)) ((bH c.Fibers (IntKind.wrap .i64 (b-1))).bind fun i=>(Lt i a).bind fun j=>cond (decide (0<j)) (some (.inr (.inr false))) (some (.inl (IntKind.wrap .i64 (b+1))))) (some (.inl (IntKind.wrap .i64 (b+1)))))))))) (some (.inr (.inl ())))
def vZ(a:ae):Option Bool:=
 (bz (Ea a) N0 0).bind fun b=>(match b with| .inl j=>(bz (EF a) N0 0).bind fun c=>(match c with| .inl k=>(M_d (a.Nodes.length:Int) 2 8).bind fun d=>cond (d) (some (decide ((a.Fibers.length:Int)<=14))) (some false)| .inr g=>some g)| .inr i=>some i)
def wT(a:aA)(b:Int):Option Int:=
 cond (b==a.A) (some a.B) (cond (b==a.B) (some a.A) (some (-1)))
def Cy(b:List Int)(c:Int)(a:Int):Option (Int⊕(Unit⊕Int)):=
 cond (decide (a<(b.length:Int))) ((bH b a).bind fun d=>cond (c==d) (some (.inr (.inr a))) (some (.inl (IntKind.wrap .i64 (a+1))))) (some (.inr (.inl ())))
def QO(a:List Int)(b:Int):Option Int:=
 (bz (Cy a b) N0 0).bind fun c=>(match c with| .inl g=>some (-1)| .inr d=>some d)
def wM(a:List Int)(b:Int):Option Bool:=
 (QO a b).bind fun c=>some (decide (0<=c))
def DE(c:ae)(d:ah)(a:Int×Int×List Int):Option ((Int×Int×List Int)⊕((List Int)⊕(List Int×Bool))):=
 cond (decide (a.2.1<(d.Fibers.length:Int))) ((bH d.Fibers a.2.1).bind fun g=>(M_d g 0 (IntKind.wrap .i64 ((c.Fibers.length:Int)-1))).bind fun i=>cond (!i) (some (.inr (.inr (([]),false)))) ((bH c.Fibers g).bind fun j=>(wT j a.1).bind fun b=>(cond (decide (b<0)) (some true) ((wM a.2.2 b).bind fun k=>some k):Option Bool).bind fun l=>cond (l) (some (.inr (.inr (([]),false)))) (bnd ([b]) fun m=>(grd ((a.2.2.length+1)*8<=140737488355328)).bind fun q=>bnd (a.2.2++m) fun p=>some (.inl (b,IntKind.wrap .i64 (a.2.1+1),p))))) (some (.inr (.inl a.2.2)))
def yD(b:ae)(a:ah):Option (List Int×Bool):=
 ((M_d a.Start 0 (IntKind.wrap .i64 ((b.Nodes.length:Int)-1))).bind fun c=>cond (!c) (some true) (some ((a.Fibers.length:Int)==0)):Option Bool).bind fun d=>cond (d) (some (([]),false)) (bnd ([a.Start]) fun g=>(bz (DE b a) N0 (a.Start,0,g)).bind fun i=>(match i with| .inl j=>some (j,true)| .inr k=>some k))
def BG(a:aM):Option Bool:=
 cond (decide (0<=a.First)) ((M_d a.Count 1 24).bind fun b=>cond (b) (some (decide (a.First<=(IntKind.wrap .i64 (24-a.Count))))) (some false)) (some false)
def BV(b:ae)(c:Int×List (List Int))(a:Int×List Int):Option ((Int×List Int)⊕(List Int)):=
 cond (decide (a.1<(b.Fibers.length:Int))) ((bH b.Fibers a.1).bind fun d=>cond (d.Risk==c.1) (bnd ([a.1]) fun g=>(grd ((a.2.length+1)*8<=140737488355328)).bind fun j=>bnd (a.2++g) fun i=>some (.inl (IntKind.wrap .i64 (a.1+1),i))) (some (.inl (IntKind.wrap .i64 (a.1+1),a.2)))) (some (.inr a.2))
def Ch(c:ae)(a:Int×List (List Int)):Option ((Int×List (List Int))⊕(List (List Int))):=
 cond (decide (a.1<=9)) ((bz (BV c a) N0 (0,[])).bind fun b=>cond (decide (0<(b.length:Int))) (bnd ([b]) fun d=>(grd ((a.2.length+1)*24<=140737488355328)).bind fun i=>bnd (a.2++d) fun g=>some (.inl (IntKind.wrap .i64 (a.1+1),g))) (some (.inl (IntKind.wrap .i64 (a.1+1),a.2)))) (some (.inr a.2))
def DP(b:ae)(a:Int×List (List Int)):Option ((Int×List (List Int))⊕(List (List Int))):=
 cond (decide (a.1<(b.Fibers.length:Int))) ((bH b.Fibers a.1).bind fun c=>cond (c.Risk==0) (bnd ([a.1]) fun d=>bnd ([d]) fun g=>(grd ((a.2.length+1)*24<=140737488355328)).bind fun j=>bnd (a.2++g) fun i=>some (.inl (IntKind.wrap .i64 (a.1+1),i))) (some (.inl (IntKind.wrap .i64 (a.1+1),a.2)))) (some (.inr a.2))
def Lc(a:ae):Option (List (List Int)):=
 (bz (Ch a) N0 (1,[])).bind fun b=>(bz (DP a) N0 (0,b)).bind fun c=>some c
def MI(a:List Int)(p1Z0:Int):Option Bool:=
 (wM a p1Z0).bind fun b=>some b
def DN(b:List (List Int))(c:(List Int)->Option Bool)(a:Int):Option (Int⊕(Unit⊕Int)):=
 cond (decide (a<(b.length:Int))) ((bH b a).bind fun d=>(c d).bind fun g=>cond (g) (some (.inr (.inr a))) (some (.inl (IntKind.wrap .i64 (a+1))))) (some (.inr (.inl ())))
def HR(a:List (List Int))(b:(List Int)->Option Bool):Option Int:=
 (bz (DN a b) N0 0).bind fun c=>(match c with| .inl g=>some (-1)| .inr d=>some d)
def EW(a:ae)(b:Int):Option Int:=
 (Lc a).bind fun c=>(HR c (fun x0=>MI x0 b)).bind fun d=>some d
def Em(c:ae)(b:List Int)(a:Int×List Int):Option ((Int×List Int)⊕(List Int)):=
 cond (decide (a.1<(b.length:Int))) ((bH b a.1).bind fun d=>(EW c d).bind fun g=>bnd ([g]) fun i=>(grd ((a.2.length+1)*8<=140737488355328)).bind fun k=>bnd (a.2++i) fun j=>some (.inl (IntKind.wrap .i64 (a.1+1),j))) (some (.inr a.2))
def Ew(a:ae)(b:List Int):Option (List Int):=
 (bz (Em a b) N0 (0,[])).bind fun c=>some c
def Uq(c:Int):Option Int:=
 (cond (decide (4294967296<=c)) (some (Int.fdiv c (2^(min (Int.toNat 32) (IntKind.bits .u64))),32)) (some (c,0)):Option (Int×Int)).bind fun a=>(cond (decide (65536<=a.1)) (some (Int.fdiv a.1 (2^(min (Int.toNat 16) (IntKind.bits .u64))),IntKind.wrap .i64 (a.2+16))) (some (a.1,a.2)):Option (Int×Int)).bind fun b=>(cond (decide (256<=b.1)) (some (Int.fdiv b.1 (2^(min (Int.toNat 8) (IntKind.bits .u64))),IntKind.wrap .i64 (b.2+8))) (some (b.1,b.2)):Option (Int×Int)).bind fun d=>(sO (⟨#[0,1,2,2,3,3,3,3,4,4,4,4,4,4,4,4,5,5,5,5,5,5,5,5,5,5,5,5,5,5,5,5,6,6,6,6,6,6,6,6,6,6,6,6,6,6,6,6,6,6,6,6,6,6,6,6,6,6,6,6,6,6,6,6,7,7,7,7,7,7,7,7,7,7,7,7,7,7,7,7,7,7,7,7,7,7,7,7,7,7,7,7,7,7,7,7,7,7,7,7,7,7,7,7,7,7,7,7,7,7,7,7,7,7,7,7,7,7,7,7,7,7,7,7,7,7,7,7,8,8,8,8,8,8,8,8,8,8,8,8,8,8,8,8,8,8,8,8,8,8,8,8,8,8,8,8,8,8,8,8,8,8,8,8,8,8,8,8,8,8,8,8,8,8,8,8,8,8,8,8,8,8,8,8,8,8,8,8,8,8,8,8,8,8,8,8,8,8,8,8,8,8,8,8,8,8,8,8,8,8,8,8,8,8,8,8,8,8,8,8,8,8,8,8,8,8,8,8,8,8,8,8,8,8,8,8,8,8,8,8,8,8,8,8,8,8,8,8,8,8,8,8,8,8,8,8]⟩:ByteArray) (IntKind.wrap .u8 d.1)).bind fun g=>some (IntKind.wrap .i64 (d.2+(IntKind.wrap .i64 (g.toNat:Int))))
def Jm(a:Int):Option Int:=
 (Uq a).bind fun b=>some b
def Hg(a:Int)(b:Int):Option Bool:=
 (vX a).bind fun c=>cond (c) ((vX b).bind fun d=>cond (!d) (some true) (some (decide (a<b)))) (some (decide (a<b)))
def M_o(c:Int)(a:Int×List Int):Option ((Int×List Int)⊕(List Int)):=
 (cond (decide (c<a.1)) ((grd (0<=a.1/\a.1<(a.2.length:Int))).bind fun p=>(a.2[(Int.toNat a.1)]?).bind fun d=>(grd (0<=(IntKind.wrap .i64 (a.1-1))/\(IntKind.wrap .i64 (a.1-1))<(a.2.length:Int))).bind fun q=>(a.2[(Int.toNat (IntKind.wrap .i64 (a.1-1)))]?).bind fun g=>(Hg d g).bind fun i=>some i) (some false):Option Bool).bind fun j=>cond (j) ((grd (0<=(IntKind.wrap .i64 (a.1-1))/\(IntKind.wrap .i64 (a.1-1))<(a.2.length:Int))).bind fun s=>(a.2[(Int.toNat (IntKind.wrap .i64 (a.1-1)))]?).bind fun k=>(grd (0<=a.1/\a.1<(a.2.length:Int))).bind fun t=>(a.2[(Int.toNat a.1)]?).bind fun l=>bnd (a.2.set (Int.toNat a.1) k) fun b=>(b[(Int.toNat (IntKind.wrap .i64 (a.1-1)))]?).bind fun u=>bnd (b.set (Int.toNat (IntKind.wrap .i64 (a.1-1))) l) fun m=>some (.inl (IntKind.wrap .i64 (a.1-1),m))) (some (.inr a.2))
def M_v(b:Int)(c:Int)(a:Int×List Int):Option ((Int×List Int)⊕(List Int)):=
 cond (decide (a.1<c)) (((bz (M_o b) N0 (a.1,a.2)).bind fun d=>some d:Option (List Int)).bind fun g=>some (.inl (IntKind.wrap .i64 (a.1+1),g))) (some (.inr a.2))
def Hw(a:Int)(b:Int)(c:List Int):Option (List Int):=
 (bz (M_v a b) N0 (IntKind.wrap .i64 (a+1),c)).bind fun d=>some d
def OH(a:Int)(b:Int)(c:Int)(d:List Int)(i:Unit):Option (Unit⊕(Empty⊕(List Int))):=
 cond (decide ((IntKind.wrap .i64 (b-a))<=12)) ((Hw a b d).bind fun g=>some (.inr (.inr g))) (cond (c==0) (none) (none))
def Rk(a:Int)(b:Int)(c:Int)(d:List Int):Option (List Int):=
 (bz (OH a b c d) N0 ()).bind fun g=>(match g with| .inl i=>(i.elim)| .inr j=>some j)
def Ja(a:List Int):Option (List Int):=
 (Jm (IntKind.wrap .u64 (a.length:Int))).bind fun b=>(Rk 0 (a.length:Int) b a).bind fun c=>some c
def xT(c:Nat)(d:Nat)(b:Int)(a:Int×Int×List Int):Option ((Int×Int×List Int)⊕(Int×List Int)):=
 cond (decide (a.2.1<(((d-(Int.toNat b)):Nat):Int))) ((grd (0<=a.2.1/\a.2.1<(((d-(Int.toNat b)):Nat):Int))).bind fun k=>(a.2.2[((c+(Int.toNat b))+(Int.toNat a.2.1))]?).bind fun g=>(grd (0<=(IntKind.wrap .i64 (a.2.1-1))/\(IntKind.wrap .i64 (a.2.1-1))<(((d-(Int.toNat b)):Nat):Int))).bind fun l=>(a.2.2[((c+(Int.toNat b))+(Int.toNat (IntKind.wrap .i64 (a.2.1-1))))]?).bind fun i=>cond (g !=i) ((grd (0<=a.1/\a.1<(d:Int))).bind fun m=>(a.2.2[(c+(Int.toNat a.1))]?).bind fun p=>bnd (a.2.2.set (c+(Int.toNat a.1)) g) fun j=>some (.inl (IntKind.wrap .i64 (a.1+1),IntKind.wrap .i64 (a.2.1+1),j))) (some (.inl (a.1,IntKind.wrap .i64 (a.2.1+1),a.2.2)))) (some (.inr (a.1,a.2.2)))
def EL(d:Nat)(b:Nat)(g:List Int)(a:Int):Option (Int⊕(Unit⊕(Nat×Nat×List Int))):=
 cond (decide (a<(b:Int))) ((grd (0<=a/\a<(b:Int))).bind fun l=>(g[(d+(Int.toNat a))]?).bind fun i=>(grd (0<=(IntKind.wrap .i64 (a-1))/\(IntKind.wrap .i64 (a-1))<(b:Int))).bind fun m=>(g[(d+(Int.toNat (IntKind.wrap .i64 (a-1))))]?).bind fun j=>cond (i==j) ((grd (0<=a/\True/\Int.toNat a<=b/\True)).bind fun p=>(bz (xT d b a) N0 (a,1,g)).bind fun c=>(grd (0<=c.1/\True/\Int.toNat c.1<=b/\True)).bind fun q=>bnd (dI c.2 (d+(Int.toNat c.1)) (List.replicate (b-(Int.toNat c.1)) 0)) fun k=>(grd (True/\0<=c.1/\True/\Int.toNat c.1<=b)).bind fun s=>some (.inr (.inr (d,(Int.toNat c.1),k)))) (some (.inl (IntKind.wrap .i64 (a+1))))) (some (.inr (.inl ())))
def GQ(b:Nat)(a:Nat)(c:List Int):Option (Nat×Nat×List Int):=
 cond (decide ((a:Int)<2)) (some (b,a,c)) ((bz (EL b a c) N0 1).bind fun d=>(match d with| .inl i=>some (b,a,c)| .inr g=>some g))
def xA(b:List Int)(d:List Int)(a:Int×List Int):Option ((Int×List Int)⊕(List Int)):=
 cond (decide (a.1<(b.length:Int))) ((bH b a.1).bind fun c=>(wM d c).bind fun g=>cond (g) (bnd ([c]) fun i=>(grd ((a.2.length+1)*8<=140737488355328)).bind fun k=>bnd (a.2++i) fun j=>some (.inl (IntKind.wrap .i64 (a.1+1),j))) (some (.inl (IntKind.wrap .i64 (a.1+1),a.2)))) (some (.inr a.2))
def Df(c:List Int)(d:List Int):Option (List Int):=
 (bz (xA c d) N0 (0,[])).bind fun b=>(Ja b).bind fun g=>(GQ 0 b.length g).bind fun a=>bnd (dy a.2.2 a.1 a.2.1) fun i=>some i
def wB(a:ae)(b:List Int)(c:List Int):Option Bool:=
 (Ew a b).bind fun d=>(Ew a c).bind fun g=>(Df d g).bind fun i=>some ((i.length:Int)==0)
def Dk(d:ae)(a:aj):Option Bool:=
 (yD d a.Work).bind fun b=>((M_d a.Id 1 999).bind fun g=>cond (!g) (some true) ((M_d a.Class 0 2).bind fun i=>cond (!i) (some true) (cond (!b.2) (some true) ((BG a.WorkBlock).bind fun j=>some (!j)))):Option Bool).bind fun k=>cond (k) (some false) (cond (a.Class==0) ((cond (a.Spare.Start==0) (cond ((a.Spare.Fibers.length:Int)==0) (some (a.SpareBlock.First==0&&a.SpareBlock.Count==0)) (some false)) (some false):Option Bool).bind fun l=>some l) ((yD d a.Spare).bind fun c=>cond (c.2) ((BG a.SpareBlock).bind fun m=>cond (m) ((grd (0<=0/\0<(c.1.length:Int))).bind fun v=>(c.1[(Int.toNat 0)]?).bind fun p=>(grd (0<=0/\0<(b.1.length:Int))).bind fun w=>(b.1[(Int.toNat 0)]?).bind fun q=>cond (p==q) ((grd (0<=(IntKind.wrap .i64 ((c.1.length:Int)-1))/\(IntKind.wrap .i64 ((c.1.length:Int)-1))<(c.1.length:Int))).bind fun x=>(c.1[(Int.toNat (IntKind.wrap .i64 ((c.1.length:Int)-1)))]?).bind fun s=>(grd (0<=(IntKind.wrap .i64 ((b.1.length:Int)-1))/\(IntKind.wrap .i64 ((b.1.length:Int)-1))<(b.1.length:Int))).bind fun y=>(b.1[(Int.toNat (IntKind.wrap .i64 ((b.1.length:Int)-1)))]?).bind fun t=>cond (s==t) ((wB d a.Work.Fibers a.Spare.Fibers).bind fun u=>some u) (some false)) (some false)) (some false)) (some false)))
def Ev(a:aM):Option Int:=
 (grd (0<=a.Count)).bind fun b=>(grd (0<=a.First)).bind fun c=>some (IntKind.wrap .i64 ((IntKind.wrap .i64 ((IntKind.wrap .i64 (1*2^(min (Int.toNat a.Count) (IntKind.bits .i64))))-1))*2^(min (Int.toNat a.First) (IntKind.bits .i64))))
def Nn(a:cw)(b:cw):Option Bool:=
 (Ev a.Block).bind fun c=>(Ev b.Block).bind fun d=>cond ((bits .and .i64 c d) !=0) ((Df a.Route.Fibers b.Route.Fibers).bind fun g=>some (decide (0<(g.length:Int)))) (some false)
def uL(a:ah)(b:aM)(c:ah)(d:aM):Option Bool:=
 (Nn (⟨0,(⟨a.Start,a.Fibers⟩:ah),(⟨b.First,b.Count⟩:aM)⟩:cw) (⟨0,(⟨c.Start,c.Fibers⟩:ah),(⟨d.First,d.Count⟩:aM)⟩:cw)).bind fun g=>some g
def Li(c:ae)(a:aj)(b:aj):Option Bool:=
 ((uL a.Work a.WorkBlock b.Work b.WorkBlock).bind fun d=>cond (d) (some true) ((uL a.Work a.WorkBlock b.Spare b.SpareBlock).bind fun g=>cond (g) (some true) ((uL a.Spare a.SpareBlock b.Work b.WorkBlock).bind fun i=>some i)):Option Bool).bind fun j=>cond (j) (some false) ((cond (a.Class==2) (cond (b.Class==2) ((wB c a.Work.Fibers b.Work.Fibers).bind fun k=>some k) (some false)) (some false):Option Bool).bind fun l=>cond (l) (some true) ((uL a.Spare a.SpareBlock b.Spare b.SpareBlock).bind fun m=>some (!m)))
def BC(a:ae)(b:aj)(c:aj):Option (Bool×Bool):=
 ((vZ a).bind fun d=>cond (!d) (some true) ((Dk a b).bind fun g=>cond (!g) (some true) ((Dk a c).bind fun i=>some (!i))):Option Bool).bind fun j=>cond (j) (some (false,false)) ((Li a b c).bind fun k=>some (k,true))
def Js(a:ae)(b:aj)(c:aj):Option (Bool×Bool):=
 ((vw a).bind fun d=>cond (!d) (some true) ((yP a b).bind fun g=>cond (!g) (some true) ((yP a c).bind fun i=>some (!i))):Option Bool).bind fun j=>cond (j) (some (false,false)) ((tl a b c).bind fun k=>some (k,true))
def Dv(a:Nat×Nat×Int×List az×ax):Option ((Nat×Nat×Int×List az×ax)⊕(Nat×Nat×List az×ax)):=
 (M_a 2 a.2.2.2.2).bind fun b=>cond (decide ((a.2.1:Int)<(IntKind.wrap .i64 (6+b.1)))) (bnd ([(⟨IntKind.wrap .i64 (200-(IntKind.wrap .i64 (10*a.2.2.1))),IntKind.wrap .i64 (90+a.2.2.1)⟩:az)]) fun c=>bnd (dy a.2.2.2.1 a.1 a.2.1) fun d=>(grd ((a.2.1+1)*16<=140737488355328)).bind fun i=>bnd (d++c) fun g=>some (.inl (0,(a.2.1+1),IntKind.wrap .i64 (a.2.2.1+1),g,b.2))) (some (.inr (a.1,a.2.1,a.2.2.2.1,b.2)))
def Gw(q:ax):Option (Nat×Nat×List az×ax):=
 bnd ([(⟨3000,10⟩:az),(⟨1200,20⟩:az),(⟨600,40⟩:az),(⟨250,80⟩:az)]) fun j=>(M_a 4 q).bind fun c=>(grd (True/\0<=(IntKind.wrap .i64 (1+c.1))/\True/\Int.toNat (IntKind.wrap .i64 (1+c.1))<=4)).bind fun x=>((tk 3 c.2).bind fun g=>cond (g.1) (cond (decide (1<(((Int.toNat (IntKind.wrap .i64 (1+c.1))):Nat):Int))) ((grd (0<=1/\True/\Int.toNat 1<=(Int.toNat (IntKind.wrap .i64 (1+c.1)))/\True)).bind fun y=>some ((Int.toNat 1),((Int.toNat (IntKind.wrap .i64 (1+c.1)))-(Int.toNat 1)),g.2)) (some (0,(Int.toNat (IntKind.wrap .i64 (1+c.1))),g.2))) (some (0,(Int.toNat (IntKind.wrap .i64 (1+c.1))),g.2)):Option (Nat×Nat×ax)).bind fun a=>(M_a (a.2.1:Int) a.2.2).bind fun d=>(grd (0<=d.1/\d.1<(a.2.1:Int))).bind fun z=>(j[(a.1+(Int.toNat d.1))]?).bind fun k=>((M_a 24 d.2).bind fun b=>cond (b.1==0) (bnd ([0,20000,20001,250]) fun s=>(M_e b.2 s).bind fun l=>some (.inl ((⟨l.1,k.Rate⟩:az),l.2.1))) (cond (b.1==1) (bnd ([0,1000,1001,10]) fun t=>(M_e b.2 t).bind fun m=>some (.inl ((⟨k.Reach,m.1⟩:az),m.2.1))) (cond (b.1==2) (some (.inr (0,0,[],b.2))) (cond (b.1==3) ((bz (Dv) N0 (a.1,a.2.1,0,j,b.2)).bind fun i=>some (.inr (i.1,i.2.1,i.2.2.1,i.2.2.2))) (some (.inl (k,b.2)))))):Option ((az×ax)⊕(Nat×Nat×List az×ax))).bind fun u=>(match u with| .inl p=>bnd (j.set (a.1+(Int.toNat d.1)) p.1) fun v=>some (a.1,a.2.1,v,p.2)| .inr w=>some w)
def NP(d:List Int):Option (ae×List az×aK):=
 (CV (⟨d,0,0⟩:ax)).bind fun a=>(Gw a.2.2.2.2).bind fun b=>(Ks a.1 a.2.1 b.2.2.2 a.2.2.1 a.2.2.2.1).bind fun c=>bnd (dy c.2.2.1 a.1 a.2.1) fun g=>bnd (dy c.2.2.2 0 a.2.2.2.1.length) fun i=>bnd (dy b.2.2.1 b.1 b.2.1) fun j=>some ((⟨g,i⟩:ae),j,c.1)
def MO(b:List Int):Option (ae×List az×aK):=
 (NP b).bind fun a=>some ((⟨a.1.Nodes,a.1.Fibers⟩:ae),a.2.1,a.2.2)
def Cm(c:List az)(a:Int):Option (Int⊕(Unit⊕Bool)):=
 cond (decide (a<(c.length:Int))) ((bH c a).bind fun b=>(M_d b.Reach 1 20000).bind fun g=>cond (!g) (some (.inr (.inr false))) ((M_d b.Rate 1 1000).bind fun i=>cond (!i) (some (.inr (.inr false))) (cond (decide (0<a)) ((bH c (IntKind.wrap .i64 (a-1))).bind fun d=>cond (decide (d.Reach<=b.Reach)) (some (.inr (.inr false))) (cond (decide (b.Rate<=d.Rate)) (some (.inr (.inr false))) (some (.inl (IntKind.wrap .i64 (a+1)))))) (some (.inl (IntKind.wrap .i64 (a+1))))))) (some (.inr (.inl ())))
def Db(a:List az):Option Bool:=
 (bz (Cm a) N0 0).bind fun b=>(match b with| .inl g=>(M_d (a.length:Int) 1 6).bind fun c=>some c| .inr d=>some d)
def Kh(b:ae)(a:aK):Option Bool:=
 (M_d a.From 0 (IntKind.wrap .i64 ((b.Nodes.length:Int)-1))).bind fun c=>cond (c) ((M_d a.To 0 (IntKind.wrap .i64 ((b.Nodes.length:Int)-1))).bind fun d=>cond (d) (cond (a.From !=a.To) ((M_d a.Rate 1 1000).bind fun g=>cond (g) ((M_d a.Class 0 2).bind fun i=>some i) (some false)) (some false)) (some false)) (some false)
def Nd(a:aK)(p1Z0:ae):Option Bool:=
 (Kh p1Z0 a).bind fun b=>some (!b)
def CG(b:List aK)(c:aK->Option Bool)(a:Int):Option (Int⊕(Unit⊕Int)):=
 cond (decide (a<(b.length:Int))) ((bH b a).bind fun d=>(c d).bind fun g=>cond (g) (some (.inr (.inr a))) (some (.inl (IntKind.wrap .i64 (a+1))))) (some (.inr (.inl ())))
def Qd(a:List aK)(b:aK->Option Bool):Option Int:=
 (bz (CG a b) N0 0).bind fun c=>(match c with| .inl g=>some (-1)| .inr d=>some d)
def HO(a:List aK)(b:aK->Option Bool):Option Bool:=
 (Qd a b).bind fun c=>some (decide (0<=c))
def EY(a:ae)(b:List aK):Option Bool:=
 (vZ a).bind fun c=>cond (c) (cond (decide ((b.length:Int)<=12)) ((HO b (fun x0=>Nd x0 a)).bind fun d=>some (!d)) (some false)) (some false)
def Qm(a:Int)(p1Z0:ae):Option Bool:=
 (M_d a 0 (IntKind.wrap .i64 ((p1Z0.Nodes.length:Int)-1))).bind fun b=>some (!b)
def BU(b:List Int)(c:Int->Option Bool)(a:Int):Option (Int⊕(Unit⊕Int)):=
 cond (decide (a<(b.length:Int))) ((bH b a).bind fun d=>(c d).bind fun g=>cond (g) (some (.inr (.inr a))) (some (.inl (IntKind.wrap .i64 (a+1))))) (some (.inr (.inl ())))
def QS(a:List Int)(b:Int->Option Bool):Option Int:=
 (bz (BU a b) N0 0).bind fun c=>(match c with| .inl g=>some (-1)| .inr d=>some d)
def Ko(a:List Int)(b:Int->Option Bool):Option Bool:=
 (QS a b).bind fun c=>some (decide (0<=c))
def Mz(a:ae)(b:List Int):Option Bool:=
 (vZ a).bind fun c=>cond (c) ((Ko b (fun x0=>Qm x0 a)).bind fun d=>some (!d)) (some false)
def Cr(a:List Int):Option (List Int):=
 cond (a.isEmpty) (amb (some ([])) ((grd (a.length*8<=140737488355328)).bind fun b=>some a)) ((grd (a.length*8<=140737488355328)).bind fun c=>some a)
def Hh(j:Int)(d:Int)(g:List Int)(i:ae)(k:Int->Int->List Int->Int->List ah->Int->ae->Option (Int×List ah×Int×ae))(a:Int×Int×List ah×Int×ae):Option ((Int×Int×List ah×Int×ae)⊕(Int×List ah×Int×ae)):=
 cond (decide (a.1<(((i).Fibers).length:Int))) ((bH ((i).Fibers) a.1).bind fun l=>(wT l j).bind fun b=>(cond (decide (0<=b)) ((grd (0<=b)).bind fun s=>some ((bits .and .i64 (Int.fdiv d (2^(min (Int.toNat b) (IntKind.bits .i64)))) 1)==0)) (some false):Option Bool).bind fun m=>cond (m) ((grd (0<=b)).bind fun t=>bnd ([a.1]) fun p=>(grd ((g.length+1)*8<=140737488355328)).bind fun u=>bnd (g++p) fun q=>(k b (bits .or .i64 d (IntKind.wrap .i64 (1*2^(min (Int.toNat b) (IntKind.bits .i64))))) q a.2.1 a.2.2.1 a.2.2.2.1 a.2.2.2.2).bind fun c=>some (.inl (IntKind.wrap .i64 (a.1+1),c.1,c.2.1,c.2.2.1,c.2.2.2))) (some (.inl (IntKind.wrap .i64 (a.1+1),a.2.1,a.2.2.1,a.2.2.2.1,a.2.2.2.2)))) (some (.inr (a.2.1,a.2.2.1,a.2.2.2.1,a.2.2.2.2)))
def GY(k:Int->Int->List Int->Int->List ah->Int->ae->Option (Int×List ah×Int×ae))(i:Int)(l:Int)(j:List Int)(b:Int)(c:List ah)(d:Int)(g:ae):Option (Int×List ah×Int×ae):=
 cond (i==b) ((Cr j).bind fun m=>bnd ([(⟨d,m⟩:ah)]) fun p=>(grd ((c.length+1)*32<=140737488355328)).bind fun s=>bnd (c++p) fun q=>some (b,q,d,g)) ((bz (Hh i l j g k) N0 (0,b,c,d,g)).bind fun a=>some (a.1,a.2.1,a.2.2.1,a.2.2.2))
def BJ:Nat->Int->Int->List Int->Int->List ah->Int->ae->Option (Int×List ah×Int×ae)
 |0,_,_,_,_,_,_,_=>none
 |n+1,a,b,c,d,g,i,j=>GY (BJ n) a b c d g i j
def SZ(j:Int)(d:Int)(g:List Int)(i:ae)(a:Int×Int×List ah×Int×ae):Option ((Int×Int×List ah×Int×ae)⊕(Int×List ah×Int×ae)):=
 cond (decide (a.1<(((i).Fibers).length:Int))) ((bH ((i).Fibers) a.1).bind fun k=>(wT k j).bind fun b=>(cond (decide (0<=b)) ((grd (0<=b)).bind fun q=>some ((bits .and .i64 (Int.fdiv d (2^(min (Int.toNat b) (IntKind.bits .i64)))) 1)==0)) (some false):Option Bool).bind fun l=>cond (l) ((grd (0<=b)).bind fun s=>bnd ([a.1]) fun m=>(grd ((g.length+1)*8<=140737488355328)).bind fun t=>bnd (g++m) fun p=>(BJ N0 b (bits .or .i64 d (IntKind.wrap .i64 (1*2^(min (Int.toNat b) (IntKind.bits .i64))))) p a.2.1 a.2.2.1 a.2.2.2.1 a.2.2.2.2).bind fun c=>some (.inl (IntKind.wrap .i64 (a.1+1),c.1,c.2.1,c.2.2.1,c.2.2.2))) (some (.inl (IntKind.wrap .i64 (a.1+1),a.2.1,a.2.2.1,a.2.2.2.1,a.2.2.2.2)))) (some (.inr (a.2.1,a.2.2.1,a.2.2.2.1,a.2.2.2.2)))
def Qe(i:Int)(k:Int)(j:List Int)(b:Int)(c:List ah)(d:Int)(g:ae):Option (Int×List ah×Int×ae):=
 cond (i==b) ((Cr j).bind fun l=>bnd ([(⟨d,l⟩:ah)]) fun m=>(grd ((c.length+1)*32<=140737488355328)).bind fun q=>bnd (c++m) fun p=>some (b,p,d,g)) ((bz (SZ i k j g) N0 (0,b,c,d,g)).bind fun a=>some (a.1,a.2.1,a.2.2.1,a.2.2.2))
def TC(c:ae)(b:ah)(a:Int×Int):Option ((Int×Int)⊕Int):=
 cond (decide (a.2<(b.Fibers.length:Int))) ((bH b.Fibers a.2).bind fun d=>(bH c.Fibers d).bind fun g=>some (.inl (IntKind.wrap .i64 (a.1+g.Length),IntKind.wrap .i64 (a.2+1)))) (some (.inr a.1))
def EK(a:ae)(b:ah):Option Int:=
 (bz (TC a b) N0 (0,0)).bind fun c=>some c
def M_u(s1Z0:List Int)(s2Z0:List Int)(a:Int):Option (Int⊕(Unit⊕Int)):=
 cond (decide (a<(s1Z0.length:Int))) ((bH s1Z0 a).bind fun c=>cond (decide ((s2Z0.length:Int)<=a)) (some (.inr (.inr 1))) ((bH s2Z0 a).bind fun d=>(M_m c d).bind fun b=>cond (b !=0) (some (.inr (.inr b))) (some (.inl (IntKind.wrap .i64 (a+1)))))) (some (.inr (.inl ())))
def MD(s1Z0:List Int)(s2Z0:List Int):Option Int:=
 (bz (M_u s1Z0 s2Z0) N0 0).bind fun a=>(match a with| .inl c=>cond (decide ((s1Z0.length:Int)<(s2Z0.length:Int))) (some (-1)) (some 0)| .inr b=>some b)
def tt(c:ae)(a:ah)(b:ah):Option Int:=
 (EK c a).bind fun d=>(EK c b).bind fun g=>(M_m d g).bind fun i=>(M_m (a.Fibers.length:Int) (b.Fibers.length:Int)).bind fun j=>(MD a.Fibers b.Fibers).bind fun k=>(M_m a.Start b.Start).bind fun l=>bnd ([i,j,k,l]) fun m=>(mB m).bind fun p=>some p
def xS(a:ah)(b:ah)(p2Z0:ae):Option Int:=
 (tt p2Z0 a b).bind fun c=>some c
def Gd(b:ae)(a:Int)(c:Int):Option (List ah):=
 (cond (a !=c) ((grd (0<=a)).bind fun j=>(Qe a (IntKind.wrap .i64 (1*2^(min (Int.toNat a) (IntKind.bits .i64)))) ([]) c ([]) a b).bind fun d=>some (d.2.2.2,d.2.1)) (some (b,[])):Option (ae×List ah)).bind fun g=>(nl (fun x0 x1=>xS x0 x1 g.1) g.2).bind fun i=>some i
def Ez(c:ae)(a:Int)(b:Int):Option (List ah×Bool):=
 (bnd ([a,b]) fun g=>(Mz c g).bind fun i=>cond (!i) (some true) (some (a==b)):Option Bool).bind fun j=>cond (j) (some (([]),false)) ((Gd c a b).bind fun d=>cond (decide (200<(d.length:Int))) (some (([]),false)) (some (d,true)))
def IW(b:List az)(c:Int)(a:Int):Option (Int⊕(Unit⊕(Int×Bool))):=
 cond (decide (0<=a)) ((bH b a).bind fun d=>cond (decide (c<=d.Reach)) (some (.inr (.inr (a,true)))) (some (.inl (IntKind.wrap .i64 (a-1))))) (some (.inr (.inl ())))
def JR(a:List az)(b:Int):Option (Int×Bool):=
 ((Db a).bind fun c=>cond (!c) (some true) ((M_d b 0 20000).bind fun d=>some (!d)):Option Bool).bind fun g=>cond (g) (some (0,false)) ((bz (IW a b) N0 (IntKind.wrap .i64 ((a.length:Int)-1))).bind fun i=>(match i with| .inl k=>some (0,false)| .inr j=>some j))
def Fr(c:List az)(g:Int)(b:Int):Option (Int×Bool):=
 (JR c g).bind fun d=>(cond (!d.2) (some true) ((M_d b 1 1000).bind fun i=>some (!i)):Option Bool).bind fun j=>cond (j) (some (0,false)) ((bH c d.1).bind fun a=>(grd (a.Rate≠0)).bind fun k=>cond (decide (24<(IntKind.wrap .i64 (Int.tdiv (IntKind.wrap .i64 ((IntKind.wrap .i64 (b+a.Rate))-1)) a.Rate)))) (some (0,false)) (some ((IntKind.wrap .i64 (Int.tdiv (IntKind.wrap .i64 ((IntKind.wrap .i64 (b+a.Rate))-1)) a.Rate)),true)))
def M_l(a:aD):Option Int:=
 some (IntKind.wrap .i64 (a.count*(a.route.Fibers.length:Int)))
def CR(b:List Int)(c:List Int)(a:Int):Option (Int⊕(Unit⊕Bool)):=
 cond (decide (a<(b.length:Int))) ((bH b a).bind fun d=>(bH c a).bind fun g=>cond (d !=g) (some (.inr (.inr false))) (some (.inl (IntKind.wrap .i64 (a+1))))) (some (.inr (.inl ())))
def Jx(a:List Int)(b:List Int):Option Bool:=
 cond ((a.length:Int) !=(b.length:Int)) (some false) ((bz (CR a b) N0 0).bind fun c=>(match c with| .inl g=>some true| .inr d=>some d))
def EJ(a:ah)(b:ah):Option Bool:=
 cond (a.Start==b.Start) ((Jx a.Fibers b.Fibers).bind fun c=>some c) (some false)
def Ob(a:ae)(c:ah):Option (List Int×Bool):=
 (vZ a).bind fun d=>cond (!d) (some (([]),false)) ((yD a c).bind fun b=>some (b.1,b.2))
def Dr(a:ae)(b:ah):Option Bool:=
 (Ob a b).bind fun c=>some c.2
def Qx(a:ae)(b:ah)(c:ah):Option Bool:=
 (Dr a b).bind fun d=>cond (d) ((Dr a c).bind fun g=>some g) (some false)
def Om(a:ae)(b:ah)(c:ah):Option (Bool×Bool):=
 (Qx a b c).bind fun d=>cond (!d) (some (false,false)) ((wB a b.Fibers c.Fibers).bind fun g=>some (g,true))
def DG(g:ae)(i:aK)(j:List az)(b:List ah×Bool)(a:Int×List aD):Option ((Int×List aD)⊕(List aD)):=
 cond (decide (a.1<(b.1.length:Int))) ((grd (0<=a.1/\a.1<(b.1.length:Int))).bind fun p=>(b.1[(Int.toNat a.1)]?).bind fun c=>(EK g c).bind fun k=>(Fr j k ((i).Rate)).bind fun d=>cond (d.2) (bnd ([(⟨(⟨c.Start,c.Fibers⟩:ah),d.1⟩:aD)]) fun l=>(grd ((a.2.length+1)*40<=140737488355328)).bind fun q=>bnd (a.2++l) fun m=>some (.inl (IntKind.wrap .i64 (a.1+1),m))) (some (.inl (IntKind.wrap .i64 (a.1+1),a.2)))) (some (.inr a.2))
def FI(c:ae)(b:aK)(a:List az):Option (Bool×List aD×List az):=
 ((Db a).bind fun g=>cond (!g) (some true) (bnd ([b]) fun i=>(EY c i).bind fun j=>some (!j)):Option Bool).bind fun k=>cond (k) (some (false,[],a)) ((Ez c ((b).From) ((b).To)).bind fun d=>cond (!d.2) (some (false,[],a)) ((bz (DG c b a d) N0 (0,[])).bind fun l=>some (true,l,a)))
def M_x(g:ae)(i:Bool×List aD×List az)(j:Bool×Int×aD×aD)(c:aD)(a:Bool×Int×aD×aD):Option ((Bool×Int×aD×aD)⊕(Bool×aD×aD)):=
 cond (decide (a.2.1<(((i.2.1.length-(Int.toNat (IntKind.wrap .i64 (j.2.1+1)))):Nat):Int))) ((grd (0<=a.2.1/\a.2.1<(((i.2.1.length-(Int.toNat (IntKind.wrap .i64 (j.2.1+1)))):Nat):Int))).bind fun g1=>(i.2.1[((Int.toNat (IntKind.wrap .i64 (j.2.1+1)))+(Int.toNat a.2.1))]?).bind fun d=>(wB g c.route.Fibers d.route.Fibers).bind fun l=>cond (!l) (some (.inl (a.1,IntKind.wrap .i64 (a.2.1+1),a.2.2.1,a.2.2.2))) (((M_l d).bind fun m=>(M_l c).bind fun p=>cond (decide (m<p)) (some (d,c)) (some (c,d)):Option (aD×aD)).bind fun b=>(M_l b.1).bind fun q=>(M_l b.2).bind fun s=>(M_l a.2.2.1).bind fun t=>(M_l a.2.2.2).bind fun u=>(M_m (IntKind.wrap .i64 (q+s)) (IntKind.wrap .i64 (t+u))).bind fun v=>bnd ([v,0]) fun w=>(mB w).bind fun k=>((cond (a.1) (some (k==0)) (some false):Option Bool).bind fun x=>cond (x) ((tt g b.1.route a.2.2.1.route).bind fun y=>(tt g b.2.route a.2.2.2.route).bind fun z=>bnd ([y,z]) fun a1=>(mB a1).bind fun b1=>some b1) (some k):Option Int).bind fun c1=>(cond (!a.1) (some true) (some (decide (c1<0))):Option Bool).bind fun d1=>cond (d1) (some (.inl (true,IntKind.wrap .i64 (a.2.1+1),b.1,b.2))) (some (.inl (a.1,IntKind.wrap .i64 (a.2.1+1),a.2.2.1,a.2.2.2))))) (some (.inr (a.1,a.2.2.1,a.2.2.2)))
def M_w(g:ae)(b:Bool×List aD×List az)(a:Bool×Int×aD×aD):Option ((Bool×Int×aD×aD)⊕(Bool×aD×aD)):=
 cond (decide (a.2.1<(b.2.1.length:Int))) (((grd (0<=a.2.1/\a.2.1<(b.2.1.length:Int))).bind fun j=>(b.2.1[(Int.toNat a.2.1)]?).bind fun i=>(grd (0<=(IntKind.wrap .i64 (a.2.1+1))/\True/\Int.toNat (IntKind.wrap .i64 (a.2.1+1))<=b.2.1.length/\True)).bind fun k=>(bz (M_x g b a i) N0 (a.1,0,a.2.2.1,a.2.2.2)).bind fun c=>some (c.1,c.2.1,c.2.2):Option (Bool×aD×aD)).bind fun d=>some (.inl (d.1,IntKind.wrap .i64 (a.2.1+1),d.2.1,d.2.2))) (some (.inr (a.1,a.2.2.1,a.2.2.2)))
def LY(c:ae)(d:aK)(g:List az):Option (aD×aD×Bool×List az):=
 (FI c d g).bind fun a=>cond (!a.1) (some ((⟨(⟨0,[]⟩:ah),0⟩:aD),(⟨(⟨0,[]⟩:ah),0⟩:aD),false,a.2.2)) ((bz (M_w c a) N0 (false,0,(⟨(⟨0,[]⟩:ah),0⟩:aD),(⟨(⟨0,[]⟩:ah),0⟩:aD))).bind fun b=>some (b.2.1,b.2.2,b.1,a.2.2))
def Py(b:ae)(c:aK)(d:List az):Option (ah×ah×Bool×List az):=
 (LY b c d).bind fun a=>some (a.1.route,a.2.1.route,a.2.2.1,a.2.2.2)
def QT(g:List Int):Option Bool:=
 (Pf g).bind fun m=>cond (m) (some true) ((Kd g).bind fun b=>(BC b.1 b.2.1 b.2.2).bind fun d=>(BC b.1 b.2.2 b.2.1).bind fun j=>(Js b.1 b.2.1 b.2.2).bind fun k=>(cond (!(d.1==k.1)) (some true) (cond (!(d.2==k.2)) (some true) (cond (!(j.2==d.2)) (some true) (some (!(j.1==d.1))))):Option Bool).bind fun p=>cond (p) (some false) ((MO g).bind fun a=>(Py (⟨a.1.Nodes,a.1.Fibers⟩:ae) a.2.2 a.2.1).bind fun c=>(tf (⟨a.1.Nodes,a.1.Fibers⟩:ae) 0 a.2.1.length a.2.2 c.2.2.2).bind fun i=>(cond (!(c.2.2.1==i.2.2.1)) (some true) ((EJ c.1 i.1).bind fun q=>cond (!q) (some true) ((EJ c.2.1 i.2.1).bind fun s=>some (!s))):Option Bool).bind fun t=>cond (t) (some false) ((Om (⟨a.1.Nodes,a.1.Fibers⟩:ae) c.1 c.2.1).bind fun l=>cond (!c.2.2.1) (some true) (cond (l.2) (some l.1) (some false)))))
end Vs

namespace Vs
open Go Go.Proofs
theorem be:Tryz.prog.follows .mixedOrders=true:=Tryz.checked.mixed
def oM:Go.Shelf.Ren:=⟨fun|6=>265|15=>232|14=>275|28=>258|29=>259|20=>279|21=>280|22=>281|23=>282|24=>283|25=>284|26=>285|27=>286|46=>288|47=>268|48=>269|49=>289|50=>290|57=>291|n=>n,fun|22=>159|24=>41|25=>271|3=>3|39=>114|0=>0|53=>202|55=>116|4=>4|46=>261|45=>260|50=>61|5=>5|9=>9|66=>272|70=>276|76=>281|77=>162|n=>n,fun|n=>n⟩
theorem JH:Go.Proofs.SlLaysF0.n6 Tryz.prog oM:={
 mixed:=by kernel_rfl
 f6:=⟨Tryz.f265.name,by decide,Tryz.func265.trans (congrArg some (by kernel_rfl))⟩
 f14:=⟨Tryz.f275.name,by decide,Tryz.func275.trans (congrArg some (by kernel_rfl))⟩
 f15:=Tryz.func232.trans (congrArg some (by kernel_rfl))
 f20:=⟨Tryz.f279.name,by decide,Tryz.func279.trans (congrArg some (by kernel_rfl))⟩
 f21:=⟨Tryz.f280.name,by decide,Tryz.func280.trans (congrArg some (by kernel_rfl))⟩
 f22:=⟨Tryz.f281.name,by decide,Tryz.func281.trans (congrArg some (by kernel_rfl))⟩
 f23:=⟨Tryz.f282.name,by decide,Tryz.func282.trans (congrArg some (by kernel_rfl))⟩
 f24:=⟨Tryz.f283.name,by decide,Tryz.func283.trans (congrArg some (by kernel_rfl))⟩
 f25:=⟨Tryz.f284.name,by decide,Tryz.func284.trans (congrArg some (by kernel_rfl))⟩
 f26:=⟨Tryz.f285.name,by decide,Tryz.func285.trans (congrArg some (by kernel_rfl))⟩
 f27:=⟨Tryz.f286.name,by decide,Tryz.func286.trans (congrArg some (by kernel_rfl))⟩
 f28:=Tryz.func258.trans (congrArg some (by kernel_rfl))
 f29:=Tryz.func259.trans (congrArg some (by kernel_rfl))
 f46:=⟨Tryz.f288.name,by decide,Tryz.func288.trans (congrArg some (by kernel_rfl))⟩
 f47:=Tryz.func268.trans (congrArg some (by kernel_rfl))
 f48:=Tryz.func269.trans (congrArg some (by kernel_rfl))
 f49:=⟨Tryz.f289.name,by decide,Tryz.func289.trans (congrArg some (by kernel_rfl))⟩
 f50:=⟨Tryz.f290.name,by decide,Tryz.func290.trans (congrArg some (by kernel_rfl))⟩
 f57:=⟨Tryz.f291.name,by decide,Tryz.func291.trans (congrArg some (by kernel_rfl))⟩
 t0:=Tryz.underlying0
 a0:=Tryz.isAgg0
 z0:=Tryz.sizeOf0
 v0:=Tryz.zeroValue0
 t3:=Tryz.underlying3
 a3:=Tryz.isAgg3
 z3:=Tryz.sizeOf3
 v3:=Tryz.zeroValue3
 t4:=Tryz.underlying4
 a4:=Tryz.isAgg4
 z4:=Tryz.sizeOf4
 v4:=Tryz.zeroValue4
 t5:=Tryz.underlying5
 a5:=Tryz.isAgg5
 z5:=Tryz.sizeOf5
 v5:=Tryz.zeroValue5
 t9:=Tryz.underlying9
 a9:=Tryz.isAgg9
 z9:=Tryz.sizeOf9
 v9:=Tryz.zeroValue9
 t22:=Tryz.underlying159
 a22:=Tryz.isAgg159
 z22:=Tryz.sizeOf159
 v22:=Tryz.zeroValue159
 t25:=Tryz.underlying271
 a25:=Tryz.isAgg271
 z25:=Tryz.sizeOf271
 v25:=Tryz.zeroValue271
 t39:=Tryz.underlying114
 a39:=Tryz.isAgg114
 z39:=Tryz.sizeOf114
 v39:=Tryz.zeroValue114
 t45:=Tryz.underlying260
 a45:=Tryz.isAgg260
 z45:=Tryz.sizeOf260
 v45:=Tryz.zeroValue260
 t46:=Tryz.underlying261
 a46:=Tryz.isAgg261
 z46:=Tryz.sizeOf261
 v46:=Tryz.zeroValue261
 t50:=Tryz.underlying61
 a50:=Tryz.isAgg61
 z50:=Tryz.sizeOf61
 v50:=Tryz.zeroValue61
 t53:=Tryz.underlying202
 a53:=Tryz.isAgg202
 z53:=Tryz.sizeOf202
 v53:=Tryz.zeroValue202
 t55:=Tryz.underlying116
 a55:=Tryz.isAgg116
 z55:=Tryz.sizeOf116
 v55:=Tryz.zeroValue116
 t66:=Tryz.underlying272
 a66:=Tryz.isAgg272
 z66:=Tryz.sizeOf272
 v66:=Tryz.zeroValue272
 t70:=Tryz.underlying276
 a70:=Tryz.isAgg276
 z70:=Tryz.sizeOf276
 v70:=Tryz.zeroValue276
 t76:=Tryz.underlying281
 a76:=Tryz.isAgg281
 z76:=Tryz.sizeOf281
 v76:=Tryz.zeroValue281
 t77:=Tryz.underlying162
 a77:=Tryz.isAgg162
 z77:=Tryz.sizeOf162
 v77:=Tryz.zeroValue162}
theorem NY:Af Tryz.prog 265 2 (shK 2):=Vu (ρ:=oM) JH 2 (by decide) Tryz.isAgg41 Tryz.sizeOf41 (AnyF.slices_SortFunc_none JH) ⟨_,Tryz.func265,by kernel_rfl,by kernel_rfl⟩
def A10:ar:=(Zs [Zo 2 (.mv (Zy false))] (Zs [Zm 3 0,Zk 4 3,Zd 5 .gtr 4 65536,Zm 2 5] .ret))
def V10:List RV:=[.t 2]
theorem m10:bf Tryz.prog 10 1 A10 V10=true:=by kernel_rfl
def vd:ar:=(Zs [Zm 25 0,Zo 26 (.nilc (Zt 25)),Za 27 1 26,Zl 28 27,Zd 29 .add 28 1,Zo 30 (.nilc (Zt 25)),Za 31 1 30,Zw (.store 1 (Zt 31) (Zt 29))] (Zs [Zm 32 0,Zm 33 0,Zo 34 (.nilc (Zt 33)),Za 35 2 34,Zl 36 35,Zo 37 (.bin .mul (Zt 36) (.c (.sc (.int .u64 6364136223846793005)))),Zm 38 3,Zo 39 (.conv .u64 (Zt 38)),Zb 40 .add 37 39,Zo 41 (.bin .add (Zt 40) (.c (.sc (.int .u64 897897)))),Zo 42 (.nilc (Zt 32)),Za 43 2 42,Zw (.store 1 (Zt 43) (Zt 41))] (.seq (.seq (.drw [Zm 44 0,Zo 45 (.nilc (Zt 44)),Za 46 1 45,Zl 47 46,Zm 48 0,Zo 49 (.nilc (Zt 48)),Za 50 0 49,Zl 51 50,Zk 52 51,Zb 53 .leq 47 52] []) (.cond (Zt 53) (Zs [Zm 54 3,Zm 2 54] .ret) .skip)) (Zs [Zm 55 0,Zo 56 (.nilc (Zt 55)),Za 57 2 56,Zl 58 57,Zo 59 (.bin .shr (Zt 58) (.c (.sc (.int .u64 40)))),Zo 60 (.bin .and (Zt 59) (.c (.sc (.int .u64 255)))),Zo 61 (.conv .i64 (Zt 60)),Zm 2 61] .ret))))
def Gn:ar:=(Zs [Zn 2 0] (Zs [Zn 3 0] (.seqr (.seq (.drw [Zm 4 0,Zo 5 (.nilc (Zt 4)),Za 6 1 5,Zl 7 6,Zm 8 0,Zo 9 (.nilc (Zt 8)),Za 10 0 9,Zl 11 10,Zk 12 11,Zb 13 .lss 7 12] []) (.cond (Zt 13) (.drw [Zm 14 0,Zo 15 (.nilc (Zt 14)),Za 16 0 15,Zl 17 16,Zm 18 0,Zo 19 (.nilc (Zt 18)),Za 20 1 19,Zl 21 20,Zx 22 1 17 21,Zl 23 22,Zo 24 (.conv .i64 (Zt 23)),Zm 3 24] []) .skip)) [0,3] [1000000000] vd)))
theorem UW:bf Tryz.prog 193 1 Gn V10=true:=by kernel_rfl
def Ke:ar:=(Zs [Zn 4 0] (.seq (Zs [Zm 6 1,Zd 7 .leq 6 1] (.cond (Zt 7) (Zs [Zn 4 0] .ret) .skip)) (Zs [Zm 8 0,Zo 9 (.callM 193 [(Zt 8)] [1000000000]),Zm 5 9] (.seq (Zs [Zm 10 1,Zd 11 .gtr 10 200] (.cond (Zt 11) (.reg [Zm 12 5,Zd 13 .mul 12 256,Zm 14 0,Zo 15 (.callM 193 [(Zt 14)] [1000000000]),Zb 16 .add 13 15,Zm 5 16] []) .skip)) (Zs [Zm 17 5,Zm 18 1,Zb 19 .rem 17 18,Zm 4 19] .ret)))))
def aC:List RV:=[.t 4]
theorem Uu:bf Tryz.prog 129 2 Ke aC=true:=by kernel_rfl
def Hb:ar:=(Zs [Zo 4 (.mv (Zy false))] (Zs [Zm 5 0,Zm 6 1,Zo 7 (.callM 129 [(Zt 5),(Zt 6)] [1000000000]),Zd 8 .eql 7 0,Zm 4 8] .ret))
theorem Ty:bf Tryz.prog 130 2 Hb aC=true:=by kernel_rfl
def A235:ar:=(Zs [Zn 4 0] (.seq (Zs [Zm 5 0,Zm 6 1,Zb 7 .lss 5 6] (.cond (Zt 7) (Zs [Zm 8 0,Zm 4 8] .ret) .skip)) (Zs [Zm 9 1,Zm 4 9] .ret)))
theorem m235:bf Tryz.prog 235 2 A235 aC=true:=by kernel_rfl
def A236:ar:=(Zs [Zn 4 0] (.seq (Zs [Zm 5 0,Zm 6 1,Zb 7 .gtr 5 6] (.cond (Zt 7) (Zs [Zm 8 0,Zm 4 8] .ret) .skip)) (Zs [Zm 9 1,Zm 4 9] .ret)))
theorem m236:bf Tryz.prog 236 2 A236 aC=true:=by kernel_rfl
def Mo:ar:=(Zs [Zn 4 0] (Zs [Zm 5 1,Zm 6 0,Zm 7 1,Zk 8 7,Zo 9 (.callM 129 [(Zt 6),(Zt 8)] [1000000000]),Zx 10 1 5 9,Zl 11 10,Zm 4 11] .ret))
theorem Tm:bf Tryz.prog 151 2 Mo aC=true:=by kernel_rfl
def A197:ar:=(Zs [Zo 2 (.box 4 (Zt 0)),Zo 3 (.box 4 (Zt 1)),Zn 4 0] (.seq (.blk 0 (Zs [Za 6 0 2,Zl 7 6,Za 8 0 3,Zl 9 8,Zb 10 .neq 7 9,Zm 5 10] (.cond (Zt 5) (Zs [Za 11 0 2,Zl 12 11,Za 13 0 3,Zl 14 13,Zb 15 .sub 12 14,Zm 4 15] .ret) (Zs [Za 17 1 2,Zl 18 17,Za 19 1 3,Zl 20 19,Zb 21 .neq 18 20,Zm 16 21] (.cond (Zt 16) (Zs [Za 22 1 2,Zl 23 22,Za 24 1 3,Zl 25 24,Zb 26 .sub 23 25,Zm 4 26] .ret) (Zs [Za 28 2 2,Zl 29 28,Za 30 2 3,Zl 31 30,Zb 32 .neq 29 31,Zm 27 32] (.cond (Zt 27) (Zs [Za 33 2 2,Zl 34 33,Za 35 2 3,Zl 36 35,Zb 37 .sub 34 36,Zm 4 37] .ret) .skip))))))) (Zs [Za 38 3 2,Zl 39 38,Za 40 3 3,Zl 41 40,Zb 42 .sub 39 41,Zm 4 42] .ret)))
theorem m197:bf Tryz.prog 197 2 A197 aC=true:=by kernel_rfl
def yV:ar:=(.seq (.seq (.drw [Zm 6 5,Zm 7 0,Zk 8 7,Zb 9 .lss 6 8,Zm 10 9,Zg 11 (.mv (Zt 0)) 10 true,Zg 12 (.mv (Zt 5)) 10 true,Zg 13 (.idx 4 (Zt 11) (Zt 12)) 10 true,Zg 14 (.load 4 true (Zt 13)) 10 true,Zg 15 (.load 4 true (Zt 3)) 10 true,Zg 16 (.call 197 [(Zt 14),(Zt 15)]) 10 true,Zg 17 (.bin .leq (Zt 16) (.c (.i 0))) 10 true,Zo 18 (.pick (Zt 10) (Zt 17) (Zy false))] []) (.cond (Zt 18) .skip (.exit 0))) (.blk 1 (.reg [Zm 19 5,Zd 20 .add 19 1,Zm 5 20] [])))
def Km:ar:=(.seq (.drw [Zo 21 (.bsl 4 true []),Zm 22 0,Zm 23 5,Zo 24 (.slc 4 (Zt 22) none (some (Zt 23)) none),Zo 25 (.app 4 32 false (Zt 21) (Zt 24)),Zv 26 4 3,Zo 27 (.bsl 4 true [(Zt 26)]),Zo 28 (.app 4 32 true (Zt 25) (Zt 27)),Zm 29 0,Zm 30 5,Zo 31 (.slc 4 (Zt 29) (some (Zt 30)) none none),Zo 32 (.app 4 32 false (Zt 28) (Zt 31)),Zm 4 32] [.s 4]) .ret)
def A234:ar:=(.seq (.reg [Zo 3 (.box 4 (Zt 1)),Zo 4 (.mv (.c (.lst .u 4 [])))] [.s 4]) (Zs [Zn 5 0] (.seqr (.blk 0 (.loop yV)) [0,3,5] [3] Km)))
theorem m234:bf Tryz.prog 234 2 A234 aC=true:=by kernel_rfl
def vK:ar:=(.cond (Zt 32) (.exit 1) .skip)
def oz:ar:=(.seq (Zs [Zm 17 5,Zm 18 3,Zb 19 .lss 17 18] (.cond (Zt 19) .skip (.exit 0))) (.seq (.blk 1 (Zs [Zm 22 5,Zd 23 .add 22 1,Zm 24 3,Zb 25 .rem 23 24,Zm 6 25] (.seq (.seqr (.reg [Zm 26 5,Zm 27 6,Zb 28 .eql 26 27,Zm 29 28,Zg 30 (.mv (Zt 0)) 29 false,Zg 31 (.callM 130 [(Zt 30),(.c (.i 10))] [1000000000]) 29 false,Zo 32 (.pick (Zt 29) (Zy true) (Zt 31))] []) [0,2,3,4,5,6,32] [2,4,500000256,500000257,1000000000] vK) (.drw [Zo 33 (.fdv [46,1000000000] 1 (Zt 4)),Zo 34 (.ldv [46,1000000000] 1 false (Zt 33)),Zm 35 5,Zm 36 6,Zo 37 (.call 235 [(Zt 35),(Zt 36)]),Zm 38 5,Zm 39 6,Zo 40 (.call 236 [(Zt 38),(Zt 39)]),Zm 41 0,Zo 42 (.callM 129 [(Zt 41),(.c (.i 8))] [1000000000]),Zo 43 (.bin .add (.c (.i 1)) (Zt 42)),Zo 44 (.bin .mul (.c (.i 100)) (Zt 43)),Zm 45 0,Zo 46 (.bsl 1 true [(.c (.i 0)),(.c (.i 0)),(.c (.i 0)),(.c (.i 1)),(.c (.i 2))]),Zo 47 (.callM 151 [(Zt 45),(Zt 46)] [1000000000,46]),Zo 48 (.build [.i 0,.i 0,.i 0,.i 0] [(0,1,(Zt 37)),(1,1,(Zt 40)),(2,1,(Zt 44)),(3,1,(Zt 47))]),Zo 49 (.call 234 [(Zt 34),(Zt 48)]),Za 50 1 4,Zw (.store 1 (Zt 50) (Zt 49))] [.f false 500000257 4 1])))) (.reg [Zm 20 5,Zd 21 .add 20 1,Zm 5 21] [])))
def pZ:ar:=(.seq (Zs [Zm 53 7,Zd 54 .gtr 53 0] (.cond (Zt 54) .skip (.exit 2))) (.seq (.blk 3 (Zs [Zm 57 0,Zm 58 3,Zo 59 (.callM 129 [(Zt 57),(Zt 58)] [1000000000]),Zm 60 0,Zm 61 3,Zo 62 (.callM 129 [(Zt 60),(Zt 61)] [1000000000]),Zm 8 59,Zm 9 62] (Zs [Zm 63 8,Zm 64 9,Zb 65 .neq 63 64] (.cond (Zt 65) (.drw [Zo 66 (.fdv [79,1000000000] 1 (Zt 4)),Zo 67 (.ldv [79,1000000000] 1 false (Zt 66)),Zm 68 8,Zm 69 9,Zo 70 (.call 235 [(Zt 68),(Zt 69)]),Zm 71 8,Zm 72 9,Zo 73 (.call 236 [(Zt 71),(Zt 72)]),Zm 74 0,Zo 75 (.callM 129 [(Zt 74),(.c (.i 8))] [1000000000]),Zo 76 (.bin .add (.c (.i 1)) (Zt 75)),Zo 77 (.bin .mul (.c (.i 100)) (Zt 76)),Zm 78 0,Zo 79 (.bsl 1 true [(.c (.i 0)),(.c (.i 0)),(.c (.i 0)),(.c (.i 1)),(.c (.i 2))]),Zo 80 (.callM 151 [(Zt 78),(Zt 79)] [1000000000,79]),Zo 81 (.build [.i 0,.i 0,.i 0,.i 0] [(0,1,(Zt 70)),(1,1,(Zt 73)),(2,1,(Zt 77)),(3,1,(Zt 80))]),Zo 82 (.call 234 [(Zt 67),(Zt 81)]),Za 83 1 4,Zw (.store 1 (Zt 83) (Zt 82))] [.f false 500000257 4 1]) .skip)))) (.reg [Zm 55 7,Zd 56 .sub 55 1,Zm 7 56] [])))
def vm:ar:=(.seq (.reg [Zv 84 2 4,Zw (.store 2 (Zt 2) (Zt 84))] [.f false 500000128 2 0,.f false 500000129 2 1]) .ret)
def vj:ar:=(.seqa (.reg [Zm 51 0,Zo 52 (.callM 129 [(Zt 51),(.c (.i 4))] [1000000000]),Zm 7 52] []) (.blk 2 (.loop pZ)) [2,4] [2,4,500000256,500000257,1000000000] vm)
def EP:ar:=(Zs [Zo 2 (.alloc (.agg [.lst .u 1 [],.lst .u 4 []]))] (Zs [Zm 10 0,Zo 11 (.callM 129 [(Zt 10),(.c (.i 5))] [1000000000]),Zo 12 (.bin .add (.c (.i 2)) (Zt 11)),Zm 3 12] (.seq (.reg [Zo 13 (.bsl 1 false [(.c (.z ⟨#[97]⟩)),(.c (.z ⟨#[98]⟩)),(.c (.z ⟨#[99]⟩)),(.c (.z ⟨#[100]⟩)),(.c (.z ⟨#[101]⟩)),(.c (.z ⟨#[102]⟩))]),Zm 14 3,Zo 15 (.slc 1 (Zt 13) none (some (Zt 14)) none),Zo 16 (.build [.lst .u 1 [],.lst .u 4 []] [(0,1,(Zt 15))]),Zo 4 (.alloc (.agg [.lst .u 1 [],.lst .u 4 []])),Zw (.store 2 (Zt 4) (Zt 16))] [.f false 500000256 4 0,.f false 500000257 4 1]) (.seqa (.reg [Zn 5 0] []) (.blk 0 (.loop oz)) [0,2,3,4] [2,4,500000256,500000257,1000000000] vj))))
def dz:List RV:=[.c 2 2 true]
theorem TY:bf Tryz.prog 209 1 EP dz=true:=by kernel_rfl
def Je:ar:=(Zs [Zo 2 (.alloc (.agg [.lst .u 1 [],.lst .u 4 []]))] (.seq (.reg [Zm 4 0,Zo 5 (.callM 209 [(Zt 4)] [1000000000]),Zo 3 (.alloc (.agg [.lst .u 1 [],.lst .u 4 []])),Zw (.store 2 (Zt 3) (Zt 5))] [.f false 500000192 3 0,.f false 500000193 3 1]) (.seq (Zs [Za 6 1 3,Zl 7 6,Zk 8 7,Zd 9 .eql 8 0] (.cond (Zt 9) (.reg [Za 10 1 3,Zl 11 10,Zo 12 (.build [.i 0,.i 0,.i 0,.i 0] [(1,1,(.c (.i 1))),(2,1,(.c (.i 100)))]),Zo 13 (.bsl 4 false [(Zt 12)]),Zo 14 (.app 4 32 true (Zt 11) (Zt 13)),Za 15 1 3,Zw (.store 1 (Zt 15) (Zt 14))] [.f false 500000193 3 1]) .skip)) (.seq (.reg [Zv 16 2 3,Zw (.store 2 (Zt 2) (Zt 16))] [.f false 500000128 2 0,.f false 500000129 2 1]) .ret))))
theorem UI:bf Tryz.prog 207 1 Je dz=true:=by kernel_rfl
def RB:ar:=(Zs [Zo 3 (.box 2 (Zt 1)),Zo 4 (.alloc (.agg [.i 0,.i 0,.i 0,.i 0]))] (Zs [Zm 7 0,Za 8 0 3,Zl 9 8,Zk 10 9,Zo 11 (.callM 129 [(Zt 7),(Zt 10)] [1000000000]),Zm 5 11] (.seq (.drw [Zm 12 5,Zm 13 5,Zd 14 .add 13 1,Zm 15 0,Zo 16 (.fdv [27,1000000000] 0 (Zt 3)),Zo 17 (.ldv [27,1000000000] 1 false (Zt 16)),Zk 18 17,Zd 19 .sub 18 1,Zo 20 (.callM 129 [(Zt 15),(Zt 19)] [1000000000]),Zb 21 .add 14 20,Zo 22 (.fdv [27,1000000000] 0 (Zt 3)),Zo 23 (.ldv [27,1000000000] 1 false (Zt 22)),Zo 24 (.lnv [27,1000000000] (Zt 23)),Zb 25 .rem 21 24,Zm 26 0,Zo 27 (.bsl 1 true [(.c (.i 10)),(.c (.i 20)),(.c (.i 40)),(.c (.i 50)),(.c (.i 90)),(.c (.i 120))]),Zo 28 (.callM 151 [(Zt 26),(Zt 27)] [1000000000,27]),Zm 29 0,Zo 30 (.callM 129 [(Zt 29),(.c (.i 3))] [1000000000]),Zo 31 (.build [.i 0,.i 0,.i 0,.i 0] [(0,1,(Zt 12)),(1,1,(Zt 25)),(2,1,(Zt 28)),(3,1,(Zt 30))]),Zo 6 (.alloc (.agg [.i 0,.i 0,.i 0,.i 0])),Zw (.store 4 (Zt 6) (Zt 31))] []) (.seq (Zs [Zm 32 0,Zo 33 (.callM 129 [(Zt 32),(.c (.i 48))] [1000000000])] (.blk 0 (Zs [Zd 35 .eql 33 0,Zm 34 35] (.cond (Zt 34) (.reg [Zm 36 0,Zo 37 (.callM 129 [(Zt 36),(.c (.i 10))] [1000000000]),Zd 38 .sub 37 1,Za 39 1 6,Zw (.store 1 (Zt 39) (Zt 38))] []) (Zs [Zd 41 .eql 33 1,Zm 40 41] (.cond (Zt 40) (.reg [Zm 42 0,Zo 43 (.bsl 1 false [(.c (.i 0)),(.c (.i 1)),(.c (.i 1000)),(.c (.i 1001))]),Zo 44 (.callM 151 [(Zt 42),(Zt 43)] [1000000000,43]),Za 45 2 6,Zw (.store 1 (Zt 45) (Zt 44))] []) (Zs [Zd 47 .eql 33 2,Zm 46 47] (.cond (Zt 46) (.reg [Zm 48 0,Zo 49 (.bsl 1 false [(.c (.i (-1))),(.c (.i 3))]),Zo 50 (.callM 151 [(Zt 48),(Zt 49)] [1000000000,49]),Za 51 3 6,Zw (.store 1 (Zt 51) (Zt 50))] []) .skip)))))))) (Zs [Zv 52 4 6,Zw (.store 4 (Zt 4) (Zt 52))] .ret)))))
def rF:List RV:=[.c 4 4 true]
theorem Wh:bf Tryz.prog 84 2 RB rF=true:=by kernel_rfl
def A173:ar:=(Zs [Zo 6 (.mv (Zy false))] (Zs [Zm 7 0,Zm 8 1,Zb 9 .geq 7 8,Zm 10 9,Zg 11 (.mv (Zt 0)) 10 true,Zg 12 (.mv (Zt 2)) 10 true,Zg 13 (.bin .leq (Zt 11) (Zt 12)) 10 true,Zo 14 (.pick (Zt 10) (Zt 13) (Zy false)),Zm 6 14] .ret))
def cx:List RV:=[.t 6]
theorem m173:bf Tryz.prog 173 3 A173 cx=true:=by kernel_rfl
def A226:ar:=(Zs [Zo 2 (.mv (Zy false))] (Zs [Zm 3 0,Zo 4 (.bin .geq (Zt 3) (.c (.sc (.int .u8 97)))),Zm 5 4,Zg 6 (.mv (Zt 0)) 5 true,Zg 7 (.bin .leq (Zt 6) (.c (.sc (.int .u8 122)))) 5 true,Zo 8 (.pick (Zt 5) (Zt 7) (Zy false)),Zm 9 8,Zg 10 (.mv (Zt 0)) 9 false,Zg 11 (.bin .geq (Zt 10) (.c (.sc (.int .u8 48)))) 9 false,Zg 12 (.mv (Zt 11)) 9 false,Zg 13 (.mv (Zt 0)) 12 true,Zg 14 (.bin .leq (Zt 13) (.c (.sc (.int .u8 57)))) 12 true,Zg 15 (.pick (Zt 12) (Zt 14) (Zy false)) 9 false,Zo 16 (.pick (Zt 9) (Zy true) (Zt 15)),Zm 2 16] .ret))
theorem m226:bf Tryz.prog 226 1 A226 V10=true:=by kernel_rfl
def MN:ar:=(.cond (Zt 17) (Zs [Zo 2 (.mv (Zy false))] .ret) .skip)
def xj:ar:=(.seq (Zs [Zm 18 3,Zm 19 0,Zo 20 (.lenz (Zt 19)),Zb 21 .lss 18 20] (.cond (Zt 21) .skip (.exit 0))) (.seq (.blk 1 (Zs [Zm 24 0,Zm 25 3,Zo 26 (.stri (Zt 24) (Zt 25)),Zo 27 (.call 226 [(Zt 26)]),Zo 28 (.un .not (Zt 27))] (.cond (Zt 28) (Zs [Zo 2 (.mv (Zy false))] .ret) .skip))) (.reg [Zm 22 3,Zd 23 .add 22 1,Zm 3 23] [])))
def KC:ar:=(Zs [Zo 2 (.mv (Zy true))] .ret)
def A194:ar:=(Zs [Zo 2 (.mv (Zy false))] (.seq (.seqr (.reg [Zm 4 0,Zo 5 (.lenz (Zt 4)),Zo 6 (.call 173 [(Zt 5),(.c (.i 1)),(.c (.i 8))]),Zo 7 (.un .not (Zt 6)),Zm 8 7,Zg 9 (.mv (Zt 0)) 8 false,Zg 10 (.stri (Zt 9) (.c (.i 0))) 8 false,Zg 11 (.bin .lss (Zt 10) (.c (.sc (.int .u8 97)))) 8 false,Zo 12 (.pick (Zt 8) (Zy true) (Zt 11)),Zm 13 12,Zg 14 (.mv (Zt 0)) 13 false,Zg 15 (.stri (Zt 14) (.c (.i 0))) 13 false,Zg 16 (.bin .gtr (Zt 15) (.c (.sc (.int .u8 122)))) 13 false,Zo 17 (.pick (Zt 13) (Zy true) (Zt 16))] []) [0,17] [] MN) (.seqa (.reg [Zn 3 0] []) (.blk 0 (.loop xj)) [] [] KC)))
theorem m194:bf Tryz.prog 194 1 A194 V10=true:=by kernel_rfl
def yL:ar:=(.seq (Zs [Zm 6 5,Zm 7 0,Zk 8 7,Zb 9 .lss 6 8] (.cond (Zt 9) .skip (.exit 0))) (.seq (.blk 1 (Zs [Zm 12 0,Zm 13 5,Zx 14 1 12 13,Zl 15 14,Zm 16 1,Zb 17 .eql 15 16] (.cond (Zt 17) (Zs [Zm 18 5,Zm 4 18] .ret) .skip))) (.reg [Zm 10 5,Zd 11 .add 10 1,Zm 5 11] [])))
def IG:ar:=(Zs [Zn 4 (-1)] .ret)
def A195:ar:=(Zs [Zn 4 0] (.seqa (.reg [Zn 5 0] []) (.blk 0 (.loop yL)) [] [] IG))
theorem m195:bf Tryz.prog 195 2 A195 aC=true:=by kernel_rfl
def A196:ar:=(Zs [Zo 2 (.box 4 (Zt 0)),Zo 4 (.mv (Zy false))] (Zs [Za 5 0 2,Zl 6 5,Zm 7 1,Zd 8 .sub 7 1,Zo 9 (.call 173 [(Zt 6),(.c (.i 0)),(Zt 8)]),Zm 10 9,Zg 11 (.fad 1 (Zt 2)) 10 true,Zg 12 (.load 1 false (Zt 11)) 10 true,Zg 13 (.fad 0 (Zt 2)) 10 true,Zg 14 (.load 1 false (Zt 13)) 10 true,Zg 15 (.bin .add (Zt 14) (.c (.i 1))) 10 true,Zg 16 (.mv (Zt 1)) 10 true,Zg 17 (.bin .sub (Zt 16) (.c (.i 1))) 10 true,Zg 18 (.call 173 [(Zt 12),(Zt 15),(Zt 17)]) 10 true,Zo 19 (.pick (Zt 10) (Zt 18) (Zy false)),Zm 20 19,Zg 21 (.fad 2 (Zt 2)) 20 true,Zg 22 (.load 1 false (Zt 21)) 20 true,Zg 23 (.call 173 [(Zt 22),(.c (.i 1)),(.c (.i 5000))]) 20 true,Zo 24 (.pick (Zt 20) (Zt 23) (Zy false)),Zm 25 24,Zg 26 (.fad 3 (Zt 2)) 25 true,Zg 27 (.load 1 false (Zt 26)) 25 true,Zg 28 (.call 173 [(Zt 27),(.c (.i 0)),(.c (.i 9))]) 25 true,Zo 29 (.pick (Zt 25) (Zt 28) (Zy false)),Zm 4 29] .ret))
theorem m196:bf Tryz.prog 196 2 A196 aC=true:=by kernel_rfl
def EZ:ar:=(.cond (Zt 15) (Zs [Zo 2 (.mv (Zy false))] .ret) .skip)
def Iy:ar:=(.cond (Zt 41) (Zs [Zo 2 (.mv (Zy false))] .ret) .skip)
def yK:ar:=(.seq (Zs [Zm 16 3,Za 17 0 1,Zl 18 17,Zk 19 18,Zb 20 .lss 16 19] (.cond (Zt 20) .skip (.exit 0))) (.seq (.blk 1 (.seqr (.drw [Za 23 0 1,Zl 24 23,Zm 25 3,Zx 26 1 24 25,Zl 27 26,Zo 28 (.call 194 [(Zt 27)]),Zo 29 (.un .not (Zt 28)),Zm 30 29,Zg 31 (.fad 0 (Zt 1)) 30 false,Zg 32 (.load 1 false (Zt 31)) 30 false,Zg 33 (.fad 0 (Zt 1)) 30 false,Zg 34 (.load 1 false (Zt 33)) 30 false,Zg 35 (.mv (Zt 3)) 30 false,Zg 36 (.idx 1 (Zt 34) (Zt 35)) 30 false,Zg 37 (.load 1 false (Zt 36)) 30 false,Zg 38 (.call 195 [(Zt 32),(Zt 37)]) 30 false,Zg 39 (.mv (Zt 3)) 30 false,Zg 40 (.bin .neq (Zt 38) (Zt 39)) 30 false,Zo 41 (.pick (Zt 30) (Zy true) (Zt 40))] []) [1,3,41] [1] Iy)) (.reg [Zm 21 3,Zd 22 .add 21 1,Zm 3 22] [])))
def Fu:ar:=(.cond (Zt 77) (Zs [Zo 2 (.mv (Zy false))] .ret) .skip)
def xu:ar:=(.seq (Zs [Zm 42 4,Za 43 1 1,Zl 44 43,Zk 45 44,Zb 46 .lss 42 45] (.cond (Zt 46) .skip (.exit 2))) (.seq (.blk 3 (.seqr (.drw [Za 49 1 1,Zl 50 49,Zm 51 4,Zx 52 4 50 51,Zv 53 4 52,Za 54 0 1,Zl 55 54,Zk 56 55,Zo 57 (.call 196 [(Zt 53),(Zt 56)]),Zo 58 (.un .not (Zt 57)),Zm 59 58,Zg 60 (.mv (Zt 4)) 59 false,Zg 61 (.bin .gtr (Zt 60) (.c (.i 0))) 59 false,Zg 62 (.mv (Zt 61)) 59 false,Zg 63 (.fad 1 (Zt 1)) 62 true,Zg 64 (.load 1 false (Zt 63)) 62 true,Zg 65 (.mv (Zt 4)) 62 true,Zg 66 (.bin .sub (Zt 65) (.c (.i 1))) 62 true,Zg 67 (.idx 4 (Zt 64) (Zt 66)) 62 true,Zg 68 (.load 4 true (Zt 67)) 62 true,Zg 69 (.fad 1 (Zt 1)) 62 true,Zg 70 (.load 1 false (Zt 69)) 62 true,Zg 71 (.mv (Zt 4)) 62 true,Zg 72 (.idx 4 (Zt 70) (Zt 71)) 62 true,Zg 73 (.load 4 true (Zt 72)) 62 true,Zg 74 (.call 197 [(Zt 68),(Zt 73)]) 62 true,Zg 75 (.bin .gtr (Zt 74) (.c (.i 0))) 62 true,Zg 76 (.pick (Zt 62) (Zt 75) (Zy false)) 59 false,Zo 77 (.pick (Zt 59) (Zy true) (Zt 76))] []) [1,4,77] [1] Fu)) (.reg [Zm 47 4,Zd 48 .add 47 1,Zm 4 48] [])))
def ET:ar:=(Zs [Zo 2 (.mv (Zy true))] .ret)
def Gg:ar:=(.seqa (.reg [Zn 4 0] []) (.blk 2 (.loop xu)) [] [] ET)
def A131:ar:=(Zs [Zo 1 (.box 2 (Zt 0)),Zo 2 (.mv (Zy false))] (.seq (.seqr (.reg [Za 5 0 1,Zl 6 5,Zk 7 6,Zo 8 (.call 173 [(Zt 7),(.c (.i 2)),(.c (.i 8))]),Zo 9 (.un .not (Zt 8)),Zm 10 9,Zg 11 (.fad 1 (Zt 1)) 10 false,Zg 12 (.load 1 false (Zt 11)) 10 false,Zg 13 (.len (Zt 12)) 10 false,Zg 14 (.bin .gtr (Zt 13) (.c (.i 14))) 10 false,Zo 15 (.pick (Zt 10) (Zy true) (Zt 14))] []) [1,15] [1] EZ) (.seqa (.reg [Zn 3 0] []) (.blk 0 (.loop yK)) [1] [1] Gg)))
theorem m131:bf Tryz.prog 131 1 A131 V10=true:=by kernel_rfl
def A233:ar:=(Zs [Zo 3 (.box 2 (Zt 0)),Zn 6 0] (Zs [Za 8 1 3,Zl 9 8,Zm 10 1,Zx 11 4 9 10,Zv 12 4 11,Zo 7 (.alloc (.agg [.i 0,.i 0,.i 0,.i 0])),Zw (.store 4 (Zt 7) (Zt 12))] (.seq (Zs [Zm 13 2] (.blk 0 (Zs [Za 15 0 7,Zl 16 15,Zb 17 .eql 13 16,Zm 14 17] (.cond (Zt 14) (Zs [Za 18 1 7,Zl 19 18,Zm 6 19] .ret) (Zs [Za 21 1 7,Zl 22 21,Zb 23 .eql 13 22,Zm 20 23] (.cond (Zt 20) (Zs [Za 24 0 7,Zl 25 24,Zm 6 25] .ret) .skip)))))) (Zs [Zn 6 (-1)] .ret))))
theorem m233:bf Tryz.prog 233 3 A233 cx=true:=by kernel_rfl
def Jy:ar:=(.seq (Zs [Zm 6 5,Zm 7 0,Zk 8 7,Zb 9 .lss 6 8] (.cond (Zt 9) .skip (.exit 0))) (.seq (.blk 1 (Zs [Zm 12 0,Zm 13 5,Zx 14 1 12 13,Zl 15 14,Zm 16 1,Zb 17 .eql 15 16] (.cond (Zt 17) (Zs [Zo 4 (.mv (Zy true))] .ret) .skip))) (.reg [Zm 10 5,Zd 11 .add 10 1,Zm 5 11] [])))
def Rl:ar:=(Zs [Zo 4 (.mv (Zy false))] .ret)
def A74:ar:=(Zs [Zo 4 (.mv (Zy false))] (.seqa (.reg [Zn 5 0] []) (.blk 0 (.loop Jy)) [] [] Rl))
theorem m74:bf Tryz.prog 74 2 A74 aC=true:=by kernel_rfl
def FN:ar:=(.cond (Zt 25) (.seq (.reg [Zm 26 6,Zm 4 26,Zo 5 (.mv (Zy false))] [.s 4]) .ret) .skip)
def KI:ar:=(.cond (Zt 65) (.seq (.reg [Zm 66 6,Zm 4 66,Zo 5 (.mv (Zy false))] [.s 4]) .ret) .skip)
def xH:ar:=(.seq (Zs [Zm 27 7,Za 28 1 3,Zl 29 28,Zk 30 29,Zb 31 .lss 27 30] (.cond (Zt 31) .skip (.exit 0))) (.seq (.blk 1 (.seq (.seq (.drw [Za 34 1 3,Zl 35 34,Zm 36 7,Zx 37 1 35 36,Zl 38 37,Za 39 1 2,Zl 40 39,Zk 41 40,Zd 42 .sub 41 1,Zo 43 (.call 173 [(Zt 38),(.c (.i 0)),(Zt 42)]),Zo 44 (.un .not (Zt 43))] []) (.cond (Zt 44) (.seq (.reg [Zm 45 6,Zm 4 45,Zo 5 (.mv (Zy false))] [.s 4]) .ret) .skip)) (.seq (.drw [Zv 46 2 2,Za 47 1 3,Zl 48 47,Zm 49 7,Zx 50 1 48 49,Zl 51 50,Zm 52 6,Zm 53 6,Zk 54 53,Zd 55 .sub 54 1,Zx 56 1 52 55,Zl 57 56,Zo 58 (.call 233 [(Zt 46),(Zt 51),(Zt 57)]),Zm 8 58] []) (.seq (.seqr (.reg [Zm 59 8,Zd 60 .lss 59 0,Zm 61 60,Zg 62 (.mv (Zt 6)) 61 false,Zg 63 (.mv (Zt 8)) 61 false,Zg 64 (.call 74 [(Zt 62),(Zt 63)]) 61 false,Zo 65 (.pick (Zt 61) (Zy true) (Zt 64))] []) [2,3,6,7,8,65] [2,3,6] KI) (.reg [Zm 67 6,Zm 68 8,Zo 69 (.bsl 1 false [(Zt 68)]),Zo 70 (.app 1 8 true (Zt 67) (Zt 69)),Zm 6 70] [.s 6]))))) (.reg [Zm 32 7,Zd 33 .add 32 1,Zm 7 33] [])))
def Fd:ar:=(.seq (.reg [Zm 71 6,Zm 4 71,Zo 5 (.mv (Zy true))] [.s 4]) .ret)
def A227:ar:=(.seq (.reg [Zo 2 (.box 2 (Zt 0)),Zo 3 (.box 2 (Zt 1)),Zo 4 (.mv (.c (.lst .u 1 []))),Zo 5 (.mv (Zy false))] [.s 4]) (.seq (.reg [Za 9 0 3,Zl 10 9,Zo 11 (.bsl 1 false [(Zt 10)]),Zm 6 11] [.s 6]) (.seq (.seqr (.reg [Za 12 0 3,Zl 13 12,Za 14 0 2,Zl 15 14,Zk 16 15,Zd 17 .sub 16 1,Zo 18 (.call 173 [(Zt 13),(.c (.i 0)),(Zt 17)]),Zo 19 (.un .not (Zt 18)),Zm 20 19,Zg 21 (.fad 1 (Zt 3)) 20 false,Zg 22 (.load 1 false (Zt 21)) 20 false,Zg 23 (.len (Zt 22)) 20 false,Zg 24 (.bin .eql (Zt 23) (.c (.i 0))) 20 false,Zo 25 (.pick (Zt 20) (Zy true) (Zt 24))] []) [2,3,6,25] [2,3,6] FN) (.seqa (.reg [Zn 7 0] []) (.blk 0 (.loop xH)) [6] [6] Fd))))
def gf:List RV:=[.t 4,.t 5]
theorem m227:bf Tryz.prog 227 2 A227 gf=true:=by kernel_rfl
def A198:ar:=(Zs [Zo 2 (.box 2 (Zt 0)),Zo 3 (.box 2 (Zt 1)),Zo 4 (.mv (Zy false))] (.seq (Zs [Zv 7 2 2,Zo 8 (.call 131 [(Zt 7)]),Zo 9 (.un .not (Zt 8))] (.cond (Zt 9) (Zs [Zo 4 (.mv (Zy false))] .ret) .skip)) (.seq (.reg [Zv 11 2 2,Zv 12 2 3,Zo 13 (.call 227 [(Zt 11),(Zt 12)]),Zm 10 13,Ze 14 10 0,Ze 15 10 1,Zm 5 14,Zm 6 15] [.s 5]) (Zs [Zm 16 6,Zm 4 16] .ret))))
theorem m198:bf Tryz.prog 198 2 A198 aC=true:=by kernel_rfl
def A199:ar:=(Zs [Zo 1 (.box 2 (Zt 0)),Zo 2 (.mv (Zy false))] (Zs [Za 3 0 1,Zl 4 3,Zo 5 (.call 173 [(Zt 4),(.c (.i 0)),(.c (.i 23))]),Zm 6 5,Zg 7 (.fad 1 (Zt 1)) 6 true,Zg 8 (.load 1 false (Zt 7)) 6 true,Zg 9 (.fad 0 (Zt 1)) 6 true,Zg 10 (.load 1 false (Zt 9)) 6 true,Zg 11 (.bin .sub (.c (.i 24)) (Zt 10)) 6 true,Zg 12 (.call 173 [(Zt 8),(.c (.i 1)),(Zt 11)]) 6 true,Zo 13 (.pick (Zt 6) (Zt 12) (Zy false)),Zm 2 13] .ret))
theorem m199:bf Tryz.prog 199 1 A199 V10=true:=by kernel_rfl
def A228:ar:=(.seq (.reg [Zo 2 (.box 2 (Zt 0)),Zo 3 (.box 2 (Zt 1)),Zo 4 (.mv (.c (.lst .u 1 [])))] [.s 4]) (.seq (.reg [Zv 8 2 2,Zv 9 2 3,Zo 10 (.call 227 [(Zt 8),(Zt 9)]),Zm 7 10,Ze 11 7 0,Ze 12 7 1,Zm 5 11,Zm 6 12] [.s 5]) (.seq (.reg [Zm 13 5,Zm 4 13] [.s 4]) .ret)))
theorem m228:bf Tryz.prog 228 2 A228 aC=true:=by kernel_rfl
def A200:ar:=(Zs [Zo 2 (.box 2 (Zt 0)),Zo 3 (.box 2 (Zt 1)),Zn 4 0] (.seq (.reg [Zv 6 2 2,Zv 7 2 3,Zo 8 (.call 228 [(Zt 6),(Zt 7)]),Zm 5 8] [.s 5]) (Zs [Zm 9 5,Zm 10 5,Zk 11 10,Zd 12 .sub 11 1,Zx 13 1 9 12,Zl 14 13,Zm 4 14] .ret)))
theorem m200:bf Tryz.prog 200 2 A200 aC=true:=by kernel_rfl
def wZ:ar:=(.seq (Zs [Zm 17 6,Za 18 1 2,Zl 19 18,Zk 20 19,Zb 21 .lss 17 20] (.cond (Zt 21) .skip (.exit 0))) (.seq (.blk 1 (.seq (.drw [Za 24 1 2,Zl 25 24,Zm 26 6,Zx 27 4 25 26,Za 28 3 27,Zl 29 28,Za 30 1 2,Zl 31 30,Zm 32 1,Zx 33 4 31 32,Za 34 3 33,Zl 35 34,Zb 36 .eql 29 35] []) (.cond (Zt 36) (.reg [Zm 37 5,Zm 38 6,Zo 39 (.bsl 1 false [(Zt 38)]),Zo 40 (.app 1 8 true (Zt 37) (Zt 39)),Zm 5 40] [.s 5]) .skip))) (.reg [Zm 22 6,Zd 23 .add 22 1,Zm 6 23] [])))
def Ly:ar:=(.seq (.reg [Zm 41 5,Zm 4 41] [.s 4]) .ret)
def A192:ar:=(.seq (.reg [Zo 2 (.box 2 (Zt 0)),Zo 4 (.mv (.c (.lst .u 1 [])))] [.s 4]) (.seq (Zs [Za 7 1 2,Zl 8 7,Zm 9 1,Zx 10 4 8 9,Za 11 3 10,Zl 12 11,Zd 13 .eql 12 0] (.cond (Zt 13) (.seq (.reg [Zm 14 1,Zo 15 (.bsl 1 false [(Zt 14)]),Zm 4 15] [.s 4]) .ret) .skip)) (.seq (.reg [Zo 16 (.bsl 1 false []),Zm 5 16] [.s 5]) (.seqa (.reg [Zn 6 0] []) (.blk 0 (.loop wZ)) [5] [5] Ly))))
theorem m192:bf Tryz.prog 192 2 A192 aC=true:=by kernel_rfl
def yx:ar:=(.seq (Zs [Zm 24 9,Za 25 1 5,Zl 26 25,Zk 27 26,Zb 28 .lss 24 27] (.cond (Zt 28) .skip (.exit 2))) (.seq (.blk 3 (Zs [Zm 31 8,Za 32 1 5,Zl 33 32,Zm 34 9,Zx 35 1 33 34,Zl 36 35,Zo 37 (.call 74 [(Zt 31),(Zt 36)])] (.cond (Zt 37) (Zs [Zo 6 (.mv (Zy false))] .ret) .skip))) (.reg [Zm 29 9,Zd 30 .add 29 1,Zm 9 30] [])))
def ES:ar:=(.reg [Zm 15 7,Zd 16 .add 15 1,Zm 7 16] [])
def yr:ar:=(.seq (Zs [Zm 10 7,Za 11 1 4,Zl 12 11,Zk 13 12,Zb 14 .lss 10 13] (.cond (Zt 14) .skip (.exit 0))) (.seqr (.blk 1 (.seq (.drw [Zv 17 2 3,Za 18 1 4,Zl 19 18,Zm 20 7,Zx 21 1 19 20,Zl 22 21,Zo 23 (.call 192 [(Zt 17),(Zt 22)]),Zm 8 23] [.s 8]) (Zs [Zn 9 0] (.blk 2 (.loop yx))))) [3,4,5,7] [3,4,5] ES))
def He:ar:=(Zs [Zo 6 (.mv (Zy true))] .ret)
def A185:ar:=(Zs [Zo 3 (.box 2 (Zt 0)),Zo 4 (.box 2 (Zt 1)),Zo 5 (.box 2 (Zt 2)),Zo 6 (.mv (Zy false))] (.seqa (.reg [Zn 7 0] []) (.blk 0 (.loop yr)) [] [] He))
theorem m185:bf Tryz.prog 185 3 A185 cx=true:=by kernel_rfl
def Lm:ar:=(.cond (Zt 27) (Zs [Zo 4 (.mv (Zy false))] .ret) .skip)
def JC:ar:=.ret
def A132:ar:=(Zs [Zo 2 (.box 2 (Zt 0)),Zo 3 (.box 10 (Zt 1)),Zo 4 (.mv (Zy false))] (.seq (.seqr (.reg [Za 5 0 3,Zl 6 5,Zo 7 (.call 173 [(Zt 6),(.c (.i 1)),(.c (.i 999))]),Zo 8 (.un .not (Zt 7)),Zm 9 8,Zg 10 (.fad 1 (Zt 3)) 9 false,Zg 11 (.load 1 false (Zt 10)) 9 false,Zg 12 (.call 173 [(Zt 11),(.c (.i 0)),(.c (.i 2))]) 9 false,Zg 13 (.un .not (Zt 12)) 9 false,Zo 14 (.pick (Zt 9) (Zy true) (Zt 13)),Zm 15 14,Zg 16 (.load 2 true (Zt 2)) 15 false,Zg 17 (.fad 2 (Zt 3)) 15 false,Zg 18 (.load 2 true (Zt 17)) 15 false,Zg 19 (.call 198 [(Zt 16),(Zt 18)]) 15 false,Zg 20 (.un .not (Zt 19)) 15 false,Zo 21 (.pick (Zt 15) (Zy true) (Zt 20)),Zm 22 21,Zg 23 (.fad 4 (Zt 3)) 22 false,Zg 24 (.load 2 true (Zt 23)) 22 false,Zg 25 (.call 199 [(Zt 24)]) 22 false,Zg 26 (.un .not (Zt 25)) 22 false,Zo 27 (.pick (Zt 22) (Zy true) (Zt 26))] []) [2,3,27] [2,3] Lm) (.seq (Zs [Za 28 1 3,Zl 29 28,Zd 30 .eql 29 0] (.cond (Zt 30) (.seqr (.reg [Za 31 6 3,Za 32 0 31,Zl 33 32,Zd 34 .eql 33 0,Zm 35 34,Zg 36 (.fad 6 (Zt 3)) 35 true,Zg 37 (.fad 1 (Zt 36)) 35 true,Zg 38 (.load 1 false (Zt 37)) 35 true,Zg 39 (.len (Zt 38)) 35 true,Zg 40 (.bin .eql (Zt 39) (.c (.i 0))) 35 true,Zo 41 (.pick (Zt 35) (Zt 40) (Zy false)),Zm 42 41,Zg 43 (.fad 8 (Zt 3)) 42 true,Zg 44 (.load 2 true (Zt 43)) 42 true,Zg 45 (.build [.i 0,.i 0] []) 42 true,Zg 46 (.aeq false (Zt 44) (Zt 45)) 42 true,Zo 47 (.pick (Zt 42) (Zt 46) (Zy false)),Zm 4 47] []) [4] [] JC) .skip)) (.seq (.drw [Zv 48 2 2,Za 49 6 3,Zv 50 2 49,Zo 51 (.call 198 [(Zt 48),(Zt 50)]),Zm 52 51,Zg 53 (.fad 8 (Zt 3)) 52 true,Zg 54 (.load 2 true (Zt 53)) 52 true,Zg 55 (.call 199 [(Zt 54)]) 52 true,Zo 56 (.pick (Zt 52) (Zt 55) (Zy false)),Zm 57 56,Zg 58 (.fad 6 (Zt 3)) 57 true,Zg 59 (.fad 0 (Zt 58)) 57 true,Zg 60 (.load 1 false (Zt 59)) 57 true,Zg 61 (.fad 2 (Zt 3)) 57 true,Zg 62 (.fad 0 (Zt 61)) 57 true,Zg 63 (.load 1 false (Zt 62)) 57 true,Zg 64 (.bin .eql (Zt 60) (Zt 63)) 57 true,Zo 65 (.pick (Zt 57) (Zt 64) (Zy false)),Zm 66 65,Zg 67 (.load 2 true (Zt 2)) 66 true,Zg 68 (.fad 6 (Zt 3)) 66 true,Zg 69 (.load 2 true (Zt 68)) 66 true,Zg 70 (.call 200 [(Zt 67),(Zt 69)]) 66 true,Zg 71 (.load 2 true (Zt 2)) 66 true,Zg 72 (.fad 2 (Zt 3)) 66 true,Zg 73 (.load 2 true (Zt 72)) 66 true,Zg 74 (.call 200 [(Zt 71),(Zt 73)]) 66 true,Zg 75 (.bin .eql (Zt 70) (Zt 74)) 66 true,Zo 76 (.pick (Zt 66) (Zt 75) (Zy false)),Zm 77 76,Zg 78 (.load 2 true (Zt 2)) 77 true,Zg 79 (.fad 2 (Zt 3)) 77 true,Zg 80 (.load 2 true (Zt 79)) 77 true,Zg 81 (.fad 6 (Zt 3)) 77 true,Zg 82 (.load 2 true (Zt 81)) 77 true,Zg 83 (.call 185 [(Zt 78),(Zt 80),(Zt 82)]) 77 true,Zo 84 (.pick (Zt 77) (Zt 83) (Zy false)),Zm 4 84] []) .ret))))
theorem m132:bf Tryz.prog 132 2 A132 aC=true:=by kernel_rfl
def wE:ar:=(.seq (Zs [Zm 6 5,Za 7 1 2,Zl 8 7,Zk 9 8,Zb 10 .lss 6 9] (.cond (Zt 10) .skip (.exit 0))) (.seq (.blk 1 (Zs [Zm 13 1,Za 14 1 2,Zl 15 14,Zm 16 5,Zx 17 1 15 16,Zl 18 17,Zo 19 (.call 74 [(Zt 13),(Zt 18)])] (.cond (Zt 19) (Zs [Zo 4 (.mv (Zy true))] .ret) .skip))) (.reg [Zm 11 5,Zd 12 .add 11 1,Zm 5 12] [])))
def Gb:ar:=(Zs [Zo 4 (.mv (Zy false))] .ret)
def A144:ar:=(Zs [Zo 2 (.box 2 (Zt 0)),Zo 4 (.mv (Zy false))] (.seqa (.reg [Zn 5 0] []) (.blk 0 (.loop wE)) [] [] Gb))
theorem m144:bf Tryz.prog 144 2 A144 aC=true:=by kernel_rfl
def A75:ar:=(Zs [Zo 1 (.box 2 (Zt 0)),Zn 2 0] (Zs [Za 3 1 1,Zl 4 3,Zo 5 (.conv .u64 (Zt 4)),Zo 6 (.bin .shl (.c (.i 1)) (Zt 5)),Zd 7 .sub 6 1,Za 8 0 1,Zl 9 8,Zo 10 (.conv .u64 (Zt 9)),Zb 11 .shl 7 10,Zm 2 11] .ret))
theorem m75:bf Tryz.prog 75 1 A75 V10=true:=by kernel_rfl
def A145:ar:=(Zs [Zo 4 (.box 2 (Zt 0)),Zo 5 (.box 2 (Zt 1)),Zo 6 (.box 2 (Zt 2)),Zo 7 (.box 2 (Zt 3)),Zo 8 (.mv (Zy false))] (.seq (.drw [Zv 9 2 4,Za 10 1 6,Zl 11 10,Zo 12 (.call 144 [(Zt 9),(Zt 11)]),Zm 13 12,Zg 14 (.fad 1 (Zt 5)) 13 true,Zg 15 (.load 1 false (Zt 14)) 13 true,Zg 16 (.bin .gtr (Zt 15) (.c (.i 0))) 13 true,Zo 17 (.pick (Zt 13) (Zt 16) (Zy false)),Zm 18 17,Zg 19 (.fad 1 (Zt 7)) 18 true,Zg 20 (.load 1 false (Zt 19)) 18 true,Zg 21 (.bin .gtr (Zt 20) (.c (.i 0))) 18 true,Zo 22 (.pick (Zt 18) (Zt 21) (Zy false)),Zm 23 22,Zg 24 (.load 2 true (Zt 5)) 23 true,Zg 25 (.call 75 [(Zt 24)]) 23 true,Zg 26 (.load 2 true (Zt 7)) 23 true,Zg 27 (.call 75 [(Zt 26)]) 23 true,Zg 28 (.bin .and (Zt 25) (Zt 27)) 23 true,Zg 29 (.bin .neq (Zt 28) (.c (.i 0))) 23 true,Zo 30 (.pick (Zt 23) (Zt 29) (Zy false)),Zm 8 30] []) .ret))
def DR:List RV:=[.t 8]
theorem m145:bf Tryz.prog 145 4 A145 DR=true:=by kernel_rfl
def HI:ar:=(.cond (Zt 37) (Zs [Zo 6 (.mv (Zy false))] .ret) .skip)
def Kx:ar:=(.cond (Zt 53) (Zs [Zo 6 (.mv (Zy true))] .ret) .skip)
def A133:ar:=(Zs [Zo 3 (.box 2 (Zt 0)),Zo 4 (.box 10 (Zt 1)),Zo 5 (.box 10 (Zt 2)),Zo 6 (.mv (Zy false))] (.seq (.seqr (.reg [Za 7 2 4,Zv 8 2 7,Za 9 4 4,Zv 10 2 9,Za 11 2 5,Zv 12 2 11,Za 13 4 5,Zv 14 2 13,Zo 15 (.call 145 [(Zt 8),(Zt 10),(Zt 12),(Zt 14)]),Zm 16 15,Zg 17 (.fad 2 (Zt 4)) 16 false,Zg 18 (.load 2 true (Zt 17)) 16 false,Zg 19 (.fad 4 (Zt 4)) 16 false,Zg 20 (.load 2 true (Zt 19)) 16 false,Zg 21 (.fad 6 (Zt 5)) 16 false,Zg 22 (.load 2 true (Zt 21)) 16 false,Zg 23 (.fad 8 (Zt 5)) 16 false,Zg 24 (.load 2 true (Zt 23)) 16 false,Zg 25 (.call 145 [(Zt 18),(Zt 20),(Zt 22),(Zt 24)]) 16 false,Zo 26 (.pick (Zt 16) (Zy true) (Zt 25)),Zm 27 26,Zg 28 (.fad 6 (Zt 4)) 27 false,Zg 29 (.load 2 true (Zt 28)) 27 false,Zg 30 (.fad 8 (Zt 4)) 27 false,Zg 31 (.load 2 true (Zt 30)) 27 false,Zg 32 (.fad 2 (Zt 5)) 27 false,Zg 33 (.load 2 true (Zt 32)) 27 false,Zg 34 (.fad 4 (Zt 5)) 27 false,Zg 35 (.load 2 true (Zt 34)) 27 false,Zg 36 (.call 145 [(Zt 29),(Zt 31),(Zt 33),(Zt 35)]) 27 false,Zo 37 (.pick (Zt 27) (Zy true) (Zt 36))] []) [3,4,5,37] [3,4,5] HI) (.seq (.seqr (.reg [Za 38 1 4,Zl 39 38,Zd 40 .eql 39 2,Zm 41 40,Zg 42 (.fad 1 (Zt 5)) 41 true,Zg 43 (.load 1 false (Zt 42)) 41 true,Zg 44 (.bin .eql (Zt 43) (.c (.i 2))) 41 true,Zo 45 (.pick (Zt 41) (Zt 44) (Zy false)),Zm 46 45,Zg 47 (.load 2 true (Zt 3)) 46 true,Zg 48 (.fad 2 (Zt 4)) 46 true,Zg 49 (.load 2 true (Zt 48)) 46 true,Zg 50 (.fad 2 (Zt 5)) 46 true,Zg 51 (.load 2 true (Zt 50)) 46 true,Zg 52 (.call 185 [(Zt 47),(Zt 49),(Zt 51)]) 46 true,Zo 53 (.pick (Zt 46) (Zt 52) (Zy false))] []) [4,5,53] [4,5] Kx) (Zs [Za 54 6 4,Zv 55 2 54,Za 56 8 4,Zv 57 2 56,Za 58 6 5,Zv 59 2 58,Za 60 8 5,Zv 61 2 60,Zo 62 (.call 145 [(Zt 55),(Zt 57),(Zt 59),(Zt 61)]),Zo 63 (.un .not (Zt 62)),Zm 6 63] .ret))))
theorem m133:bf Tryz.prog 133 3 A133 cx=true:=by kernel_rfl
def RA:ar:=(.cond (Zt 14) (Zs [Zo 4 (.mv (Zy false))] .ret) .skip)
def Sd:ar:=(.cond (Zt 45) (Zs [Zo 4 (.mv (Zy false))] .ret) .skip)
def MG:ar:=(.seq (Zs [Zm 46 6,Zm 47 5,Zb 48 .lss 46 47] (.cond (Zt 48) .skip (.exit 2))) (.seq (.blk 3 (.seq (.drw [Zv 51 2 2,Zm 52 1,Zm 53 6,Zx 54 10 52 53,Zv 55 10 54,Zm 56 1,Zm 57 5,Zx 58 10 56 57,Zv 59 10 58,Zo 60 (.call 133 [(Zt 51),(Zt 55),(Zt 59)]),Zo 61 (.un .not (Zt 60))] []) (.cond (Zt 61) (Zs [Zo 4 (.mv (Zy false))] .ret) .skip))) (.reg [Zm 49 6,Zd 50 .add 49 1,Zm 6 50] [])))
def Sa:ar:=(.reg [Zm 19 5,Zd 20 .add 19 1,Zm 5 20] [])
def MM:ar:=(.seq (Zs [Zm 15 5,Zm 16 1,Zk 17 16,Zb 18 .lss 15 17] (.cond (Zt 18) .skip (.exit 0))) (.seqr (.blk 1 (.seq (.seqr (.drw [Zv 21 2 2,Zm 22 1,Zm 23 5,Zx 24 10 22 23,Zv 25 10 24,Zo 26 (.call 132 [(Zt 21),(Zt 25)]),Zo 27 (.un .not (Zt 26)),Zm 28 27,Zg 29 (.mv (Zt 5)) 28 false,Zg 30 (.bin .gtr (Zt 29) (.c (.i 0))) 28 false,Zg 31 (.mv (Zt 30)) 28 false,Zg 32 (.mv (Zt 1)) 31 true,Zg 33 (.mv (Zt 5)) 31 true,Zg 34 (.bin .sub (Zt 33) (.c (.i 1))) 31 true,Zg 35 (.idx 10 (Zt 32) (Zt 34)) 31 true,Zg 36 (.fad 0 (Zt 35)) 31 true,Zg 37 (.load 1 false (Zt 36)) 31 true,Zg 38 (.mv (Zt 1)) 31 true,Zg 39 (.mv (Zt 5)) 31 true,Zg 40 (.idx 10 (Zt 38) (Zt 39)) 31 true,Zg 41 (.fad 0 (Zt 40)) 31 true,Zg 42 (.load 1 false (Zt 41)) 31 true,Zg 43 (.bin .geq (Zt 37) (Zt 42)) 31 true,Zg 44 (.pick (Zt 31) (Zt 43) (Zy false)) 28 false,Zo 45 (.pick (Zt 28) (Zy true) (Zt 44))] []) [1,2,5,45] [2] Sd) (Zs [Zn 6 0] (.blk 2 (.loop MG))))) [1,2,5] [2] Sa))
def RO:ar:=(Zs [Zo 4 (.mv (Zy true))] .ret)
def A88:ar:=(Zs [Zo 2 (.box 2 (Zt 0)),Zo 4 (.mv (Zy false))] (.seq (.seqr (.reg [Zv 7 2 2,Zo 8 (.call 131 [(Zt 7)]),Zo 9 (.un .not (Zt 8)),Zm 10 9,Zg 11 (.mv (Zt 1)) 10 false,Zg 12 (.len (Zt 11)) 10 false,Zg 13 (.bin .gtr (Zt 12) (.c (.i 8))) 10 false,Zo 14 (.pick (Zt 10) (Zy true) (Zt 13))] []) [1,2,14] [2] RA) (.seqa (.reg [Zn 5 0] []) (.blk 0 (.loop MM)) [] [] RO)))
theorem m88:bf Tryz.prog 88 2 A88 aC=true:=by kernel_rfl
def GW:ar:=(.cond (Zt 11) .skip (.exit 0))
def Iu:ar:=(.cond (Zt 61) (Zs [Zo 2 (.mv (Zy false))] .ret) .skip)
def wU:ar:=(.seq (.seqr (.reg [Zm 4 3,Zm 5 0,Zk 6 5,Zb 7 .lss 4 6,Zm 8 7,Zg 9 (.mv (Zt 3)) 8 true,Zg 10 (.bin .leq (Zt 9) (.c (.i 6))) 8 true,Zo 11 (.pick (Zt 8) (Zt 10) (Zy false))] []) [0,3,11] [] GW) (.seq (.blk 1 (.seqr (.drw [Zm 14 0,Zm 15 3,Zx 16 2 14 15,Za 17 0 16,Zl 18 17,Zo 19 (.call 173 [(Zt 18),(.c (.i 1)),(.c (.i 20000))]),Zo 20 (.un .not (Zt 19)),Zm 21 20,Zg 22 (.mv (Zt 0)) 21 false,Zg 23 (.mv (Zt 3)) 21 false,Zg 24 (.idx 2 (Zt 22) (Zt 23)) 21 false,Zg 25 (.fad 1 (Zt 24)) 21 false,Zg 26 (.load 1 false (Zt 25)) 21 false,Zg 27 (.call 173 [(Zt 26),(.c (.i 1)),(.c (.i 1000))]) 21 false,Zg 28 (.un .not (Zt 27)) 21 false,Zo 29 (.pick (Zt 21) (Zy true) (Zt 28)),Zm 30 29,Zg 31 (.mv (Zt 3)) 30 false,Zg 32 (.bin .gtr (Zt 31) (.c (.i 0))) 30 false,Zg 33 (.mv (Zt 32)) 30 false,Zg 34 (.mv (Zt 0)) 33 true,Zg 35 (.mv (Zt 3)) 33 true,Zg 36 (.bin .sub (Zt 35) (.c (.i 1))) 33 true,Zg 37 (.idx 2 (Zt 34) (Zt 36)) 33 true,Zg 38 (.fad 0 (Zt 37)) 33 true,Zg 39 (.load 1 false (Zt 38)) 33 true,Zg 40 (.mv (Zt 0)) 33 true,Zg 41 (.mv (Zt 3)) 33 true,Zg 42 (.idx 2 (Zt 40) (Zt 41)) 33 true,Zg 43 (.fad 0 (Zt 42)) 33 true,Zg 44 (.load 1 false (Zt 43)) 33 true,Zg 45 (.bin .leq (Zt 39) (Zt 44)) 33 true,Zg 46 (.mv (Zt 45)) 33 true,Zg 47 (.mv (Zt 0)) 46 false,Zg 48 (.mv (Zt 3)) 46 false,Zg 49 (.bin .sub (Zt 48) (.c (.i 1))) 46 false,Zg 50 (.idx 2 (Zt 47) (Zt 49)) 46 false,Zg 51 (.fad 1 (Zt 50)) 46 false,Zg 52 (.load 1 false (Zt 51)) 46 false,Zg 53 (.mv (Zt 0)) 46 false,Zg 54 (.mv (Zt 3)) 46 false,Zg 55 (.idx 2 (Zt 53) (Zt 54)) 46 false,Zg 56 (.fad 1 (Zt 55)) 46 false,Zg 57 (.load 1 false (Zt 56)) 46 false,Zg 58 (.bin .geq (Zt 52) (Zt 57)) 46 false,Zg 59 (.pick (Zt 46) (Zy true) (Zt 58)) 33 true,Zg 60 (.pick (Zt 33) (Zt 59) (Zy false)) 30 false,Zo 61 (.pick (Zt 30) (Zy true) (Zt 60))] []) [0,3,61] [] Iu)) (.reg [Zm 12 3,Zd 13 .add 12 1,Zm 3 13] [])))
def IM:ar:=(Zs [Zm 62 0,Zk 63 62,Zo 64 (.call 173 [(Zt 63),(.c (.i 1)),(.c (.i 6))]),Zm 2 64] .ret)
def A182:ar:=(Zs [Zo 2 (.mv (Zy false))] (.seqa (.reg [Zn 3 0] []) (.blk 0 (.loop wU)) [0] [] IM))
theorem m182:bf Tryz.prog 182 1 A182 V10=true:=by kernel_rfl
def A183:ar:=(Zs [Zo 2 (.box 2 (Zt 0)),Zo 3 (.box 4 (Zt 1)),Zo 4 (.mv (Zy false))] (Zs [Za 6 0 2,Zl 7 6,Zk 8 7,Zm 5 8] (Zs [Za 9 0 3,Zl 10 9,Zm 11 5,Zd 12 .sub 11 1,Zo 13 (.call 173 [(Zt 10),(.c (.i 0)),(Zt 12)]),Zm 14 13,Zg 15 (.fad 1 (Zt 3)) 14 true,Zg 16 (.load 1 false (Zt 15)) 14 true,Zg 17 (.mv (Zt 5)) 14 true,Zg 18 (.bin .sub (Zt 17) (.c (.i 1))) 14 true,Zg 19 (.call 173 [(Zt 16),(.c (.i 0)),(Zt 18)]) 14 true,Zo 20 (.pick (Zt 14) (Zt 19) (Zy false)),Zm 21 20,Zg 22 (.fad 0 (Zt 3)) 21 true,Zg 23 (.load 1 false (Zt 22)) 21 true,Zg 24 (.fad 1 (Zt 3)) 21 true,Zg 25 (.load 1 false (Zt 24)) 21 true,Zg 26 (.bin .neq (Zt 23) (Zt 25)) 21 true,Zo 27 (.pick (Zt 21) (Zt 26) (Zy false)),Zm 28 27,Zg 29 (.fad 2 (Zt 3)) 28 true,Zg 30 (.load 1 false (Zt 29)) 28 true,Zg 31 (.call 173 [(Zt 30),(.c (.i 1)),(.c (.i 1000))]) 28 true,Zo 32 (.pick (Zt 28) (Zt 31) (Zy false)),Zm 33 32,Zg 34 (.fad 3 (Zt 3)) 33 true,Zg 35 (.load 1 false (Zt 34)) 33 true,Zg 36 (.call 173 [(Zt 35),(.c (.i 0)),(.c (.i 2))]) 33 true,Zo 37 (.pick (Zt 33) (Zt 36) (Zy false)),Zm 4 37] .ret)))
theorem m183:bf Tryz.prog 183 2 A183 aC=true:=by kernel_rfl
def Gu:ar:=(.seq (Zs [Zm 7 6,Za 8 1 3,Zl 9 8,Zk 10 9,Zb 11 .lss 7 10] (.cond (Zt 11) .skip (.exit 0))) (.seq (.blk 1 (.drw [Zm 14 5,Za 15 1 2,Zl 16 15,Za 17 1 3,Zl 18 17,Zm 19 6,Zx 20 1 18 19,Zl 21 20,Zx 22 4 16 21,Za 23 2 22,Zl 24 23,Zb 25 .add 14 24,Zm 5 25] [])) (.reg [Zm 12 6,Zd 13 .add 12 1,Zm 6 13] [])))
def RY:ar:=(Zs [Zm 26 5,Zm 4 26] .ret)
def A91:ar:=(Zs [Zo 2 (.box 2 (Zt 0)),Zo 3 (.box 2 (Zt 1)),Zn 4 0] (Zs [Zn 5 0] (.seqa (.reg [Zn 6 0] []) (.blk 0 (.loop Gu)) [5] [] RY)))
theorem m91:bf Tryz.prog 91 2 A91 aC=true:=by kernel_rfl
def A278:ar:=(Zs [Zn 2 0] (.seq (.blk 0 (Zs [Zm 4 0,Zd 5 .lss 4 0,Zm 3 5] (.cond (Zt 3) (Zs [Zn 2 (-1)] .ret) (Zs [Zm 7 0,Zd 8 .gtr 7 0,Zm 6 8] (.cond (Zt 6) (Zs [Zn 2 1] .ret) .skip))))) (Zs [Zn 2 0] .ret)))
theorem m278:bf Tryz.prog 278 1 A278 V10=true:=by kernel_rfl
def wX:ar:=(.seq (Zs [Zm 32 9,Za 33 1 4,Zl 34 33,Zk 35 34,Zb 36 .lss 32 35] (.cond (Zt 36) .skip (.exit 0))) (.seq (.blk 1 (.seq (.drw [Za 39 1 4,Zl 40 39,Zm 41 9,Zx 42 1 40 41,Zl 43 42,Za 44 1 5,Zl 45 44,Zm 46 9,Zx 47 1 45 46,Zl 48 47,Zb 49 .neq 43 48] []) (.cond (Zt 49) (.seq (.drw [Za 50 1 4,Zl 51 50,Zm 52 9,Zx 53 1 51 52,Zl 54 53,Za 55 1 5,Zl 56 55,Zm 57 9,Zx 58 1 56 57,Zl 59 58,Zb 60 .sub 54 59,Zo 61 (.call 278 [(Zt 60)]),Zm 6 61] []) .ret) .skip))) (.reg [Zm 37 9,Zd 38 .add 37 1,Zm 9 38] [])))
def FL:ar:=(Zs [Za 62 0 4,Zl 63 62,Za 64 0 5,Zl 65 64,Zb 66 .sub 63 65,Zo 67 (.call 278 [(Zt 66)]),Zm 6 67] .ret)
def A274:ar:=(Zs [Zo 3 (.box 2 (Zt 0)),Zo 4 (.box 2 (Zt 1)),Zo 5 (.box 2 (Zt 2)),Zn 6 0] (.seq (.seq (.drw [Zv 10 2 3,Zv 11 2 4,Zo 12 (.call 91 [(Zt 10),(Zt 11)]),Zv 13 2 3,Zv 14 2 5,Zo 15 (.call 91 [(Zt 13),(Zt 14)]),Zb 16 .sub 12 15,Zm 7 16] []) (Zs [Zm 17 7,Zd 18 .neq 17 0] (.cond (Zt 18) (Zs [Zm 19 7,Zo 20 (.call 278 [(Zt 19)]),Zm 6 20] .ret) .skip))) (.seq (Zs [Za 21 1 4,Zl 22 21,Zk 23 22,Za 24 1 5,Zl 25 24,Zk 26 25,Zb 27 .sub 23 26,Zm 8 27] (Zs [Zm 28 8,Zd 29 .neq 28 0] (.cond (Zt 29) (Zs [Zm 30 8,Zo 31 (.call 278 [(Zt 30)]),Zm 6 31] .ret) .skip))) (.seqa (.reg [Zn 9 0] []) (.blk 0 (.loop wX)) [4,5] [4,5] FL))))
theorem m274:bf Tryz.prog 274 3 A274 cx=true:=by kernel_rfl
def A107:ar:=(.seq (.reg [Zo 2 (.mv (.c (.lst .u 1 [])))] [.s 2]) (.seq (.reg [Zo 3 (.bsl 1 false []),Zm 4 0,Zo 5 (.app 1 8 false (Zt 3) (Zt 4)),Zm 2 5] [.s 2]) .ret))
theorem m107:bf Tryz.prog 107 1 A107 V10=true:=by kernel_rfl
def yA:ar:=(.seq (Zs [Zm 7 6,Zm 8 0,Zk 9 8,Zb 10 .lss 7 9] (.cond (Zt 10) .skip (.exit 0))) (.seq (.blk 1 (Zs [Zm 13 0,Zm 14 6,Zx 15 2 13 14,Za 16 0 15,Zl 17 16,Zm 18 1,Zb 19 .geq 17 18] (.cond (Zt 19) (.reg [Zm 20 6,Zm 5 20] []) .skip))) (.reg [Zm 11 6,Zd 12 .add 11 1,Zm 6 12] [])))
def ML:ar:=(Zs [Zm 21 5,Zm 4 21] .ret)
def A165:ar:=(Zs [Zn 4 0] (Zs [Zn 5 (-1)] (.seqa (.reg [Zn 6 0] []) (.blk 0 (.loop yA)) [5] [] ML)))
theorem m165:bf Tryz.prog 165 2 A165 aC=true:=by kernel_rfl
def A90:ar:=(Zs [Zn 6 0] (Zs [Zm 9 0,Zm 10 1,Zo 11 (.call 165 [(Zt 9),(Zt 10)]),Zm 7 11] (.seq (Zs [Zm 12 7,Zd 13 .lss 12 0] (.cond (Zt 13) (Zs [Zn 6 0] .ret) .skip)) (.seq (.drw [Zm 14 2,Zm 15 0,Zm 16 7,Zx 17 2 15 16,Za 18 1 17,Zl 19 18,Zb 20 .add 14 19,Zd 21 .sub 20 1,Zm 22 0,Zm 23 7,Zx 24 2 22 23,Za 25 1 24,Zl 26 25,Zb 27 .quo 21 26,Zm 8 27] []) (.seq (Zs [Zm 28 8,Zd 29 .gtr 28 24] (.cond (Zt 29) (Zs [Zn 6 0] .ret) .skip)) (Zs [Zm 30 8,Zm 6 30] .ret))))))
theorem m90:bf Tryz.prog 90 3 A90 cx=true:=by kernel_rfl
def Mt:ar:=(.cond (Zt 39) (.reg [Zm 40 6,Zm 5 40] []) .skip)
def xC:ar:=(.seq (Zs [Zm 7 6,Zm 8 0,Zk 9 8,Zb 10 .lss 7 9] (.cond (Zt 10) .skip (.exit 0))) (.seq (.blk 1 (.seqr (.drw [Zm 13 5,Zd 14 .lss 13 0,Zm 15 14,Zg 16 (.mv (Zt 1)) 15 false,Zg 17 (.mv (Zt 6)) 15 false,Zg 18 (.idx 1 (Zt 16) (Zt 17)) 15 false,Zg 19 (.load 1 false (Zt 18)) 15 false,Zg 20 (.mv (Zt 0)) 15 false,Zg 21 (.mv (Zt 6)) 15 false,Zg 22 (.idx 2 (Zt 20) (Zt 21)) 15 false,Zg 23 (.fad 1 (Zt 22)) 15 false,Zg 24 (.load 1 false (Zt 23)) 15 false,Zg 25 (.len (Zt 24)) 15 false,Zg 26 (.bin .mul (Zt 19) (Zt 25)) 15 false,Zg 27 (.mv (Zt 1)) 15 false,Zg 28 (.mv (Zt 5)) 15 false,Zg 29 (.idx 1 (Zt 27) (Zt 28)) 15 false,Zg 30 (.load 1 false (Zt 29)) 15 false,Zg 31 (.mv (Zt 0)) 15 false,Zg 32 (.mv (Zt 5)) 15 false,Zg 33 (.idx 2 (Zt 31) (Zt 32)) 15 false,Zg 34 (.fad 1 (Zt 33)) 15 false,Zg 35 (.load 1 false (Zt 34)) 15 false,Zg 36 (.len (Zt 35)) 15 false,Zg 37 (.bin .mul (Zt 30) (Zt 36)) 15 false,Zg 38 (.bin .lss (Zt 26) (Zt 37)) 15 false,Zo 39 (.pick (Zt 15) (Zy true) (Zt 38))] []) [0,1,5,6,39] [] Mt)) (.reg [Zm 11 6,Zd 12 .add 11 1,Zm 6 12] [])))
def Kr:ar:=(Zs [Zm 41 5,Zm 4 41] .ret)
def A164:ar:=(Zs [Zn 4 0] (Zs [Zn 5 (-1)] (.seqa (.reg [Zn 6 0] []) (.blk 0 (.loop xC)) [5] [] Kr)))
theorem m164:bf Tryz.prog 164 2 A164 aC=true:=by kernel_rfl
def MW:ar:=(.cond (Zt 79) (.exit 3) .skip)
def KD:ar:=(.cond (Zt 88) (Zs [Zm 89 11,Zm 8 89] (Zs [Zm 90 12,Zm 9 90] (.reg [Zm 91 13,Zm 92 14,Zb 93 .add 91 92,Zm 10 93] []))) .skip)
def yi:ar:=(.seq (Zs [Zm 21 12,Zm 22 1,Zk 23 22,Zb 24 .lss 21 23] (.cond (Zt 24) .skip (.exit 2))) (.seq (.blk 3 (.seq (.drw [Zm 27 2,Zm 28 11,Zx 29 1 27 28,Zl 30 29,Zm 31 1,Zm 32 11,Zx 33 2 31 32,Za 34 1 33,Zl 35 34,Zk 36 35,Zb 37 .mul 30 36,Zm 38 2,Zm 39 12,Zx 40 1 38 39,Zl 41 40,Zm 42 1,Zm 43 12,Zx 44 2 42 43,Za 45 1 44,Zl 46 45,Zk 47 46,Zb 48 .mul 41 47,Zm 13 37,Zm 14 48] []) (.seq (.seqr (.drw [Zm 49 11,Zm 50 12,Zb 51 .eql 49 50,Zm 52 51,Zg 53 (.mv (Zt 13)) 52 false,Zg 54 (.mv (Zt 14)) 52 false,Zg 55 (.bin .gtr (Zt 53) (Zt 54)) 52 false,Zo 56 (.pick (Zt 52) (Zy true) (Zt 55)),Zm 57 56,Zg 58 (.mv (Zt 13)) 57 false,Zg 59 (.mv (Zt 14)) 57 false,Zg 60 (.bin .eql (Zt 58) (Zt 59)) 57 false,Zg 61 (.mv (Zt 60)) 57 false,Zg 62 (.mv (Zt 11)) 61 true,Zg 63 (.mv (Zt 12)) 61 true,Zg 64 (.bin .gtr (Zt 62) (Zt 63)) 61 true,Zg 65 (.pick (Zt 61) (Zt 64) (Zy false)) 57 false,Zo 66 (.pick (Zt 57) (Zy true) (Zt 65)),Zm 67 66,Zg 68 (.load 2 true (Zt 3)) 67 false,Zg 69 (.mv (Zt 1)) 67 false,Zg 70 (.mv (Zt 11)) 67 false,Zg 71 (.idx 2 (Zt 69) (Zt 70)) 67 false,Zg 72 (.load 2 true (Zt 71)) 67 false,Zg 73 (.mv (Zt 1)) 67 false,Zg 74 (.mv (Zt 12)) 67 false,Zg 75 (.idx 2 (Zt 73) (Zt 74)) 67 false,Zg 76 (.load 2 true (Zt 75)) 67 false,Zg 77 (.call 185 [(Zt 68),(Zt 72),(Zt 76)]) 67 false,Zg 78 (.un .not (Zt 77)) 67 false,Zo 79 (.pick (Zt 67) (Zy true) (Zt 78))] []) [1,2,3,8,9,10,11,12,13,14,79] [3] MW) (.seqr (.reg [Zm 80 8,Zd 81 .lss 80 0,Zm 82 81,Zg 83 (.mv (Zt 13)) 82 false,Zg 84 (.mv (Zt 14)) 82 false,Zg 85 (.bin .add (Zt 83) (Zt 84)) 82 false,Zg 86 (.mv (Zt 10)) 82 false,Zg 87 (.bin .lss (Zt 85) (Zt 86)) 82 false,Zo 88 (.pick (Zt 82) (Zy true) (Zt 87))] []) [1,2,3,8,9,10,11,12,13,14,88] [3] KD)))) (.reg [Zm 25 12,Zd 26 .add 25 1,Zm 12 26] [])))
def MC:ar:=(.reg [Zm 19 11,Zd 20 .add 19 1,Zm 11 20] [])
def wD:ar:=(.seq (Zs [Zm 15 11,Zm 16 1,Zk 17 16,Zb 18 .lss 15 17] (.cond (Zt 18) .skip (.exit 0))) (.seqr (.blk 1 (Zs [Zn 12 0] (.blk 2 (.loop yi)))) [1,2,3,8,9,10,11] [3] MC))
def Fe:ar:=(Zs [Zm 94 8,Zm 95 9,Zm 6 94,Zm 7 95] .ret)
def A122:ar:=(Zs [Zo 3 (.box 2 (Zt 0)),Zn 6 0,Zn 7 0] (Zs [Zn 8 (-1),Zn 9 (-1),Zn 10 0] (.seqa (.reg [Zn 11 0] []) (.blk 0 (.loop wD)) [8,9] [] Fe)))
def eB:List RV:=[.t 6,.t 7]
theorem m122:bf Tryz.prog 122 3 A122 eB=true:=by kernel_rfl
def xP:ar:=(.seq (Zs [Zm 8 7,Zm 9 1,Zk 10 9,Zb 11 .lss 8 10] (.cond (Zt 11) .skip (.exit 0))) (.seq (.blk 1 (.seq (.drw [Zv 14 2 3,Zm 15 1,Zm 16 7,Zx 17 10 15 16,Zv 18 10 17,Zv 19 10 5,Zo 20 (.call 133 [(Zt 14),(Zt 18),(Zt 19)]),Zo 21 (.un .not (Zt 20))] []) (.cond (Zt 21) (Zs [Zo 6 (.mv (Zy false))] .ret) .skip))) (.reg [Zm 12 7,Zd 13 .add 12 1,Zm 7 13] [])))
def Ma:ar:=(Zs [Zo 6 (.mv (Zy true))] .ret)
def A166:ar:=(Zs [Zo 3 (.box 2 (Zt 0)),Zo 5 (.box 10 (Zt 2)),Zo 6 (.mv (Zy false))] (.seqa (.reg [Zn 7 0] []) (.blk 0 (.loop xP)) [] [] Ma))
theorem m166:bf Tryz.prog 166 3 A166 cx=true:=by kernel_rfl
def qd:ar:=(.seq (.seq (.drw [Zm 10 4,Zd 11 .gtr 10 0,Zm 12 11,Zg 13 (.mv (Zt 0)) 12 true,Zg 14 (.nilc (Zt 13)) 12 true,Zg 15 (.fad 0 (Zt 14)) 12 true,Zg 16 (.load 2 true (Zt 15)) 12 true,Zg 17 (.load 2 true (Zt 3)) 12 true,Zg 18 (.mv (Zt 0)) 12 true,Zg 19 (.nilc (Zt 18)) 12 true,Zg 20 (.fad 3 (Zt 19)) 12 true,Zg 21 (.load 1 false (Zt 20)) 12 true,Zg 22 (.mv (Zt 4)) 12 true,Zg 23 (.bin .sub (Zt 22) (.c (.i 1))) 12 true,Zg 24 (.idx 2 (Zt 21) (Zt 23)) 12 true,Zg 25 (.load 2 true (Zt 24)) 12 true,Zg 26 (.call 274 [(Zt 16),(Zt 17),(Zt 25)]) 12 true,Zg 27 (.bin .lss (Zt 26) (.c (.i 0))) 12 true,Zo 28 (.pick (Zt 12) (Zt 27) (Zy false))] []) (.cond (Zt 28) .skip (.exit 0))) (.blk 1 (.reg [Zm 29 4,Zd 30 .sub 29 1,Zm 4 30] [])))
def tZ:ar:=(.drw [Zm 31 0,Zo 32 (.bsl 2 true []),Zm 33 0,Zo 34 (.nilc (Zt 33)),Za 35 3 34,Zl 36 35,Zm 37 4,Zo 38 (.slc 2 (Zt 36) none (some (Zt 37)) none),Zo 39 (.app 2 32 false (Zt 32) (Zt 38)),Zv 40 2 3,Zo 41 (.bsl 2 true [(Zt 40)]),Zo 42 (.app 2 32 true (Zt 39) (Zt 41)),Zm 43 0,Zo 44 (.nilc (Zt 43)),Za 45 3 44,Zl 46 45,Zm 47 4,Zo 48 (.slc 2 (Zt 46) (some (Zt 47)) none none),Zo 49 (.app 2 32 false (Zt 42) (Zt 48)),Zo 50 (.nilc (Zt 31)),Za 51 3 50,Zw (.store 1 (Zt 51) (Zt 49))] [])
def HN:ar:=(Zs [Zo 3 (.box 2 (Zt 1))] (Zs [Zm 5 0,Zo 6 (.nilc (Zt 5)),Za 7 3 6,Zl 8 7,Zk 9 8,Zm 4 9] (.seqr (.blk 0 (.loop qd)) [0,3,4] [3,1000000000,1000000001] tZ)))
def ce:List RV:=[]
theorem Uv:bf Tryz.prog 261 2 HN ce=true:=by kernel_rfl
def qx:ar:=(.seq (.seq (.drw [Zm 10 4,Zd 11 .gtr 10 0,Zm 12 11,Zg 13 (.mv (Zt 0)) 12 true,Zg 14 (.nilc (Zt 13)) 12 true,Zg 15 (.fad 0 (Zt 14)) 12 true,Zg 16 (.load 2 true (Zt 15)) 12 true,Zg 17 (.load 2 true (Zt 3)) 12 true,Zg 18 (.mv (Zt 0)) 12 true,Zg 19 (.nilc (Zt 18)) 12 true,Zg 20 (.fad 3 (Zt 19)) 12 true,Zg 21 (.load 1 false (Zt 20)) 12 true,Zg 22 (.mv (Zt 4)) 12 true,Zg 23 (.bin .sub (Zt 22) (.c (.i 1))) 12 true,Zg 24 (.idx 2 (Zt 21) (Zt 23)) 12 true,Zg 25 (.load 2 true (Zt 24)) 12 true,Zg 26 (.call 274 [(Zt 16),(Zt 17),(Zt 25)]) 12 true,Zg 27 (.bin .lss (Zt 26) (.c (.i 0))) 12 true,Zo 28 (.pick (Zt 12) (Zt 27) (Zy false))] []) (.cond (Zt 28) .skip (.exit 0))) (.blk 1 (.reg [Zm 29 4,Zd 30 .sub 29 1,Zm 4 30] [])))
def wj:ar:=(.drw [Zm 31 0,Zo 32 (.bsl 2 true []),Zm 33 0,Zo 34 (.nilc (Zt 33)),Za 35 3 34,Zl 36 35,Zm 37 4,Zo 38 (.slc 2 (Zt 36) none (some (Zt 37)) none),Zo 39 (.app 2 32 false (Zt 32) (Zt 38)),Zv 40 2 3,Zo 41 (.bsl 2 true [(Zt 40)]),Zo 42 (.app 2 32 true (Zt 39) (Zt 41)),Zm 43 0,Zo 44 (.nilc (Zt 43)),Za 45 3 44,Zl 46 45,Zm 47 4,Zo 48 (.slc 2 (Zt 46) (some (Zt 47)) none none),Zo 49 (.app 2 32 false (Zt 42) (Zt 48)),Zo 50 (.nilc (Zt 31)),Za 51 3 50,Zw (.store 1 (Zt 51) (Zt 49))] [])
def Gx:ar:=(Zs [Zo 3 (.box 2 (Zt 1))] (Zs [Zm 5 0,Zo 6 (.nilc (Zt 5)),Za 7 3 6,Zl 8 7,Zk 9 8,Zm 4 9] (.seqr (.blk 0 (.loop qx)) [0,3,4] [3,1000000000,1000000001] wj)))
theorem UK:bf Tryz.prog 261 2 Gx ce=true:=by kernel_rfl
def rJ:ar:=(.cond (Zt 39) .skip (.exit 0))
def rD:ar:=(.cond (Zt 56) (.drw [Zm 57 0,Zo 58 (.fdv [65,71,470000003,1000000000] 0 (Zt 4)),Zo 59 (.ldv [65,71,470000003,1000000000] 1 false (Zt 58)),Zo 60 (.fdv [65,71,470000003,1000000000] 1 (Zt 4)),Zo 61 (.ldv [65,71,470000003,1000000000] 1 false (Zt 60)),Zo 62 (.call 107 [(Zt 61)]),Zm 63 7,Zo 64 (.bsl 1 true [(Zt 63)]),Zo 65 (.app 1 8 true (Zt 62) (Zt 64)),Zo 66 (.build [.i 0,.lst .u 1 []] [(0,1,(Zt 59)),(1,1,(Zt 65))]),Zm 67 2,Zo 68 (.call 107 [(Zt 67)]),Zm 69 8,Zo 70 (.bsl 1 true [(Zt 69)]),Zo 71 (.app 1 8 true (Zt 68) (Zt 70)),Zo 72 (.callM 240 [(Zt 57),(Zt 66),(Zt 71)] [1000000000,470000003,65,71])] [.f true 470000003 1000000000 3]) .skip)
def mO:ar:=(.seq (.seqr (.reg [Zm 24 7,Zm 25 0,Zo 26 (.nilc (Zt 25)),Za 27 0 26,Za 28 1 27,Zl 29 28,Zk 30 29,Zb 31 .lss 24 30,Zm 32 31,Zg 33 (.mv (Zt 0)) 32 true,Zg 34 (.nilc (Zt 33)) 32 true,Zg 35 (.fad 3 (Zt 34)) 32 true,Zg 36 (.load 1 false (Zt 35)) 32 true,Zg 37 (.len (Zt 36)) 32 true,Zg 38 (.bin .leq (Zt 37) (.c (.i 200))) 32 true,Zo 39 (.pick (Zt 32) (Zt 38) (Zy false))] []) [0,2,4,6,7,39] [4,470000003,1000000000,1000000003] rJ) (.seq (.blk 1 (Zs [Zm 42 0,Zo 43 (.nilc (Zt 42)),Za 44 0 43,Zv 45 2 44,Zm 46 7,Zm 47 6,Zo 48 (.call 233 [(Zt 45),(Zt 46),(Zt 47)]),Zm 8 48] (.seqr (.reg [Zm 49 8,Zd 50 .geq 49 0,Zm 51 50,Zg 52 (.mv (Zt 2)) 51 true,Zg 53 (.mv (Zt 8)) 51 true,Zg 54 (.call 74 [(Zt 52),(Zt 53)]) 51 true,Zg 55 (.un .not (Zt 54)) 51 true,Zo 56 (.pick (Zt 51) (Zt 55) (Zy false))] []) [0,2,4,6,7,8,56] [4,470000003,1000000000,1000000003] rD))) (.reg [Zm 40 7,Zd 41 .add 40 1,Zm 7 41] [])))
def Au:ar:=(.seq (.reg [Zo 4 (.box 2 (Zt 1))] [.w 4,.f true 470000003 1000000000 3,.f true 500000257 4 1]) (Zs [Zm 9 2,Zm 10 2,Zk 11 10,Zd 12 .sub 11 1,Zx 13 1 9 12,Zl 14 13,Zm 6 14] (.seq (Zs [Zm 15 6,Zm 16 0,Zo 17 (.nilc (Zt 16)),Za 18 2 17,Zl 19 18,Zb 20 .eql 15 19] (.cond (Zt 20) (.seq (.reg [Zm 21 0,Zv 22 2 4,Zo 23 (.callM 261 [(Zt 21),(Zt 22)] [1000000000,470000003])] [.f true 470000003 1000000000 3]) .ret) .skip)) (Zs [Zn 7 0] (.blk 0 (.loop mO))))))
theorem Ra:bf Tryz.prog 240 3 Au ce=true:=by kernel_rfl
def uW:ar:=(.cond (Zt 39) .skip (.exit 0))
def ud:ar:=(.cond (Zt 56) (.drw [Zm 57 0,Zo 58 (.fdv [65,71,470000003,1000000000] 0 (Zt 4)),Zo 59 (.ldv [65,71,470000003,1000000000] 1 false (Zt 58)),Zo 60 (.fdv [65,71,470000003,1000000000] 1 (Zt 4)),Zo 61 (.ldv [65,71,470000003,1000000000] 1 false (Zt 60)),Zo 62 (.call 107 [(Zt 61)]),Zm 63 7,Zo 64 (.bsl 1 true [(Zt 63)]),Zo 65 (.app 1 8 true (Zt 62) (Zt 64)),Zo 66 (.build [.i 0,.lst .u 1 []] [(0,1,(Zt 59)),(1,1,(Zt 65))]),Zm 67 2,Zo 68 (.call 107 [(Zt 67)]),Zm 69 8,Zo 70 (.bsl 1 true [(Zt 69)]),Zo 71 (.app 1 8 true (Zt 68) (Zt 70)),Zo 72 (.callM 240 [(Zt 57),(Zt 66),(Zt 71)] [1000000000,470000003,65,71])] [.f true 470000003 1000000000 3]) .skip)
def qh:ar:=(.seq (.seqr (.reg [Zm 24 7,Zm 25 0,Zo 26 (.nilc (Zt 25)),Za 27 0 26,Za 28 1 27,Zl 29 28,Zk 30 29,Zb 31 .lss 24 30,Zm 32 31,Zg 33 (.mv (Zt 0)) 32 true,Zg 34 (.nilc (Zt 33)) 32 true,Zg 35 (.fad 3 (Zt 34)) 32 true,Zg 36 (.load 1 false (Zt 35)) 32 true,Zg 37 (.len (Zt 36)) 32 true,Zg 38 (.bin .leq (Zt 37) (.c (.i 200))) 32 true,Zo 39 (.pick (Zt 32) (Zt 38) (Zy false))] []) [0,2,4,6,7,39] [4,470000003,1000000000,1000000001] uW) (.seq (.blk 1 (Zs [Zm 42 0,Zo 43 (.nilc (Zt 42)),Za 44 0 43,Zv 45 2 44,Zm 46 7,Zm 47 6,Zo 48 (.call 233 [(Zt 45),(Zt 46),(Zt 47)]),Zm 8 48] (.seqr (.reg [Zm 49 8,Zd 50 .geq 49 0,Zm 51 50,Zg 52 (.mv (Zt 2)) 51 true,Zg 53 (.mv (Zt 8)) 51 true,Zg 54 (.call 74 [(Zt 52),(Zt 53)]) 51 true,Zg 55 (.un .not (Zt 54)) 51 true,Zo 56 (.pick (Zt 51) (Zt 55) (Zy false))] []) [0,2,4,6,7,8,56] [4,470000003,1000000000,1000000001] ud))) (.reg [Zm 40 7,Zd 41 .add 40 1,Zm 7 41] [])))
def LE:ar:=(.seq (.reg [Zo 4 (.box 2 (Zt 1))] [.w 4,.f true 470000003 1000000000 3]) (Zs [Zm 9 2,Zm 10 2,Zk 11 10,Zd 12 .sub 11 1,Zx 13 1 9 12,Zl 14 13,Zm 6 14] (.seq (Zs [Zm 15 6,Zm 16 0,Zo 17 (.nilc (Zt 16)),Za 18 2 17,Zl 19 18,Zb 20 .eql 15 19] (.cond (Zt 20) (.seq (.reg [Zm 21 0,Zv 22 2 4,Zo 23 (.callM 261 [(Zt 21),(Zt 22)] [1000000000,470000003])] [.f true 470000003 1000000000 3]) .ret) .skip)) (Zs [Zn 7 0] (.blk 0 (.loop qh))))))
theorem Vm:bf Tryz.prog 240 3 LE ce=true:=by kernel_rfl
def Me:ar:=(.seq (.reg [Zo 3 (.box 2 (Zt 0)),Zo 6 (.mv (.c (.lst .u 2 []))),Zo 7 (.mv (Zy false))] [.s 6]) (Zs [Zv 9 2 3,Zm 10 2,Zo 11 (.build [.lst .u 1 [],.lst .u 4 [],.i 0,.lst .u 2 []] [(0,2,(Zt 9)),(2,1,(Zt 10))]),Zo 12 (.box 4 (Zt 11)),Zm 8 12] (Zs [Zm 13 8,Zm 14 1,Zo 15 (.build [.i 0,.lst .u 1 []] [(0,1,(Zt 14))]),Zm 16 1,Zo 17 (.bsl 1 false [(Zt 16)]),Zo 18 (.callM 240 [(Zt 13),(Zt 15),(Zt 17)] [12,17])] (.seq (Zs [Zm 19 8,Zo 20 (.nilc (Zt 19)),Za 21 3 20,Zl 22 21,Zk 23 22,Zd 24 .gtr 23 200] (.cond (Zt 24) (.seq (.reg [Zo 25 (.bsl 2 false []),Zm 6 25,Zo 7 (.mv (Zy false))] [.s 6]) .ret) .skip)) (.seq (.reg [Zo 26 (.bsl 2 false []),Zm 27 8,Zo 28 (.nilc (Zt 27)),Za 29 3 28,Zl 30 29,Zo 31 (.app 2 32 false (Zt 26) (Zt 30)),Zm 6 31,Zo 7 (.mv (Zy true))] [.s 6]) .ret)))))
theorem UX:bf Tryz.prog 218 3 Me eB=true:=by kernel_rfl
def pz:ar:=(.seq (Zs [Zm 30 13,Zm 31 11,Zk 32 31,Zb 33 .lss 30 32] (.cond (Zt 33) .skip (.exit 0))) (.seq (.blk 1 (.seq (.drw [Zm 36 1,Zv 37 2 3,Zm 38 11,Zm 39 13,Zx 40 2 38 39,Zv 41 2 40,Zo 42 (.call 91 [(Zt 37),(Zt 41)]),Za 43 2 5,Zl 44 43,Zo 45 (.call 90 [(Zt 36),(Zt 42),(Zt 44)]),Zm 14 45] []) (Zs [Zm 46 14,Zd 47 .gtr 46 0] (.cond (Zt 47) (.seq (.reg [Zm 48 9,Zm 49 11,Zm 50 13,Zx 51 2 49 50,Zv 52 2 51,Zo 53 (.bsl 2 false [(Zt 52)]),Zo 54 (.app 2 32 true (Zt 48) (Zt 53)),Zm 9 54] [.s 9]) (.reg [Zm 55 10,Zm 56 14,Zo 57 (.bsl 1 false [(Zt 56)]),Zo 58 (.app 1 8 true (Zt 55) (Zt 57)),Zm 10 58] [.s 10])) .skip)))) (.reg [Zm 34 13,Zd 35 .add 34 1,Zm 13 35] [])))
def wa:ar:=(.seq (.reg [Zm 59 9,Zm 60 10,Zm 6 59,Zm 7 60,Zo 8 (.mv (Zy true))] [.s 6,.s 7]) .ret)
def GK:ar:=(.seq (.reg [Zo 3 (.box 2 (Zt 0)),Zo 5 (.box 4 (Zt 2)),Zo 6 (.mv (.c (.lst .u 2 []))),Zo 7 (.mv (.c (.lst .u 1 []))),Zo 8 (.mv (Zy false))] [.s 6,.s 7,.w 3,.w 3]) (.seq (.reg [Zo 15 (.bsl 2 false []),Zo 16 (.bsl 1 false []),Zm 9 15,Zm 10 16] [.s 9,.s 10]) (.seq (.reg [Zv 18 2 3,Za 19 0 5,Zl 20 19,Za 21 1 5,Zl 22 21,Zo 23 (.callM 218 [(Zt 18),(Zt 20),(Zt 22)] []),Zm 17 23,Ze 24 17 0,Ze 25 17 1,Zm 11 24,Zm 12 25] [.s 11]) (.seq (Zs [Zm 26 12,Zo 27 (.un .not (Zt 26))] (.cond (Zt 27) (.seq (.reg [Zm 28 9,Zm 29 10,Zm 6 28,Zm 7 29,Zo 8 (.mv (Zy false))] [.s 6,.s 7]) .ret) .skip)) (.seqa (.reg [Zn 13 0] []) (.blk 0 (.loop pz)) [9,10] [9,10,1000000000] wa)))))
def jT:List RV:=[.t 6,.t 7,.t 8]
theorem Vz:bf Tryz.prog 184 3 GK jT=true:=by kernel_rfl
def vQ:ar:=(.cond (Zt 22) (.seq (.reg [Zo 23 (.bsl 2 false []),Zo 24 (.bsl 1 false []),Zm 6 23,Zm 7 24,Zo 8 (.mv (Zy false))] [.s 6,.s 7]) .ret) .skip)
def Gp:ar:=(.seq (.reg [Zo 3 (.box 2 (Zt 0)),Zo 5 (.box 4 (Zt 2)),Zo 6 (.mv (.c (.lst .u 2 []))),Zo 7 (.mv (.c (.lst .u 1 []))),Zo 8 (.mv (Zy false))] [.s 6,.s 7]) (.seq (.seqr (.reg [Zv 9 2 3,Zo 10 (.call 131 [(Zt 9)]),Zo 11 (.un .not (Zt 10)),Zm 12 11,Zg 13 (.mv (Zt 1)) 12 false,Zg 14 (.call 182 [(Zt 13)]) 12 false,Zg 15 (.un .not (Zt 14)) 12 false,Zo 16 (.pick (Zt 12) (Zy true) (Zt 15)),Zm 17 16,Zg 18 (.load 2 true (Zt 3)) 17 false,Zg 19 (.load 4 true (Zt 5)) 17 false,Zg 20 (.call 183 [(Zt 18),(Zt 19)]) 17 false,Zg 21 (.un .not (Zt 20)) 17 false,Zo 22 (.pick (Zt 17) (Zy true) (Zt 21))] []) [1,3,5,22] [3,5,1000000000] vQ) (.seq (.reg [Zv 25 2 3,Zm 26 1,Zv 27 4 5,Zo 28 (.callM 184 [(Zt 25),(Zt 26),(Zt 27)] [1000000000]),Ze 29 28 0,Ze 30 28 1,Ze 31 28 2,Zm 6 29,Zm 7 30,Zm 8 31] [.s 6,.s 7]) .ret)))
theorem UF:bf Tryz.prog 121 3 Gp jT=true:=by kernel_rfl
def Rx:ar:=(Zs [Zo 3 (.box 2 (Zt 0)),Zo 5 (.box 4 (Zt 2)),Zo 6 (.alloc (.agg [.i 0,.lst .u 1 []])),Zo 7 (.alloc (.agg [.i 0,.lst .u 1 []])),Zo 8 (.mv (Zy false))] (.seq (.reg [Zv 15 2 3,Zm 16 1,Zv 17 4 5,Zo 18 (.callM 121 [(Zt 15),(Zt 16),(Zt 17)] [1000000000]),Zm 14 18,Ze 19 14 0,Ze 20 14 1,Ze 21 14 2,Zm 9 19,Zm 10 20,Zm 11 21] [.s 9,.s 10]) (.seq (Zs [Zm 22 11,Zo 23 (.un .not (Zt 22))] (.cond (Zt 23) (.seq (.reg [Zo 24 (.build [.i 0,.lst .u 1 []] []),Zo 25 (.build [.i 0,.lst .u 1 []] []),Zw (.store 2 (Zt 6) (Zt 24)),Zw (.store 2 (Zt 7) (Zt 25)),Zo 8 (.mv (Zy false))] [.w 6,.w 7]) .ret) .skip)) (Zs [Zv 27 2 3,Zm 28 9,Zm 29 10,Zo 30 (.call 122 [(Zt 27),(Zt 28),(Zt 29)]),Zm 26 30,Ze 31 26 0,Ze 32 26 1,Zm 12 31,Zm 13 32] (.seq (Zs [Zm 33 12,Zd 34 .lss 33 0] (.cond (Zt 34) (.seq (.reg [Zo 35 (.build [.i 0,.lst .u 1 []] []),Zo 36 (.build [.i 0,.lst .u 1 []] []),Zw (.store 2 (Zt 6) (Zt 35)),Zw (.store 2 (Zt 7) (Zt 36)),Zo 8 (.mv (Zy false))] [.w 6,.w 7]) .ret) .skip)) (.seq (.drw [Zm 37 9,Zm 38 12,Zx 39 2 37 38,Zo 40 (.lda 2 true (Zt 39)),Zm 41 9,Zm 42 13,Zx 43 2 41 42,Zo 44 (.lda 2 true (Zt 43)),Zw (.stv 2 (Zt 6) (Zt 40)),Zw (.stv 2 (Zt 7) (Zt 44)),Zo 8 (.mv (Zy true))] [.w 6,.w 7]) .ret))))))
def mU:List RV:=[.c 6 2 true,.c 7 2 true,.t 8]
theorem VU:bf Tryz.prog 44 3 Rx mU=true:=by kernel_rfl
def A214:ar:=(Zs [Zo 1 (.box 2 (Zt 0)),Zo 2 (.alloc (.agg [.i 0,.lst .u 1 []]))] (.seq (.drw [Za 3 0 1,Zl 4 3,Za 5 1 1,Zl 6 5,Zo 7 (.call 107 [(Zt 6)]),Zo 8 (.build [.i 0,.lst .u 1 []] [(0,1,(Zt 4)),(1,1,(Zt 7))]),Zw (.store 2 (Zt 2) (Zt 8))] []) .ret))
theorem m214:bf Tryz.prog 214 1 A214 dz=true:=by kernel_rfl
def A167:ar:=(Zs [Zo 1 (.box 10 (Zt 0)),Zo 2 (.alloc (.agg [.i 0,.i 0,.i 0,.lst .u 1 [],.i 0,.i 0,.i 0,.lst .u 1 [],.i 0,.i 0]))] (Zs [Za 3 2 1,Zv 4 2 3,Zo 5 (.call 214 [(Zt 4)]),Za 6 2 1,Zw (.store 2 (Zt 6) (Zt 5))] (Zs [Za 7 6 1,Zv 8 2 7,Zo 9 (.call 214 [(Zt 8)]),Za 10 6 1,Zw (.store 2 (Zt 10) (Zt 9))] (Zs [Zv 11 10 1,Zw (.store 10 (Zt 2) (Zt 11))] .ret))))
def Vh:List RV:=[.c 2 10 true]
theorem m167:bf Tryz.prog 167 1 A167 Vh=true:=by kernel_rfl
def RJ:ar:=(.cond (Zt 21) .skip (.exit 0))
def Ii:ar:=(.seq (.seqr (.drw [Zm 8 6,Zm 9 0,Zk 10 9,Zb 11 .lss 8 10,Zm 12 11,Zg 13 (.mv (Zt 0)) 12 true,Zg 14 (.mv (Zt 6)) 12 true,Zg 15 (.idx 10 (Zt 13) (Zt 14)) 12 true,Zg 16 (.fad 0 (Zt 15)) 12 true,Zg 17 (.load 1 false (Zt 16)) 12 true,Zg 18 (.fad 0 (Zt 3)) 12 true,Zg 19 (.load 1 false (Zt 18)) 12 true,Zg 20 (.bin .lss (Zt 17) (Zt 19)) 12 true,Zo 21 (.pick (Zt 12) (Zt 20) (Zy false))] []) [0,3,5,6,21] [3,5] RJ) (.seq (.blk 1 (.reg [Zm 24 5,Zm 25 0,Zm 26 6,Zx 27 10 25 26,Zv 28 10 27,Zo 29 (.call 167 [(Zt 28)]),Zo 30 (.bsl 10 false [(Zt 29)]),Zo 31 (.app 10 112 true (Zt 24) (Zt 30)),Zm 5 31] [.s 5])) (.reg [Zm 22 6,Zd 23 .add 22 1,Zm 6 23] [])))
def Hc:ar:=(.seq (Zs [Zm 37 6,Zm 38 0,Zk 39 38,Zb 40 .lss 37 39] (.cond (Zt 40) .skip (.exit 2))) (.seq (.blk 3 (.reg [Zm 43 5,Zm 44 0,Zm 45 6,Zx 46 10 44 45,Zv 47 10 46,Zo 48 (.call 167 [(Zt 47)]),Zo 49 (.bsl 10 false [(Zt 48)]),Zo 50 (.app 10 112 true (Zt 43) (Zt 49)),Zm 5 50] [.s 5])) (.reg [Zm 41 6,Zd 42 .add 41 1,Zm 6 42] [])))
def RC:ar:=(.seq (.reg [Zm 51 5,Zm 4 51] [.s 4]) .ret)
def Rr:ar:=(.seq (.reg [Zm 32 5,Zv 33 10 3,Zo 34 (.call 167 [(Zt 33)]),Zo 35 (.bsl 10 false [(Zt 34)]),Zo 36 (.app 10 112 true (Zt 32) (Zt 35)),Zm 5 36] [.s 5]) (.seqr (.blk 2 (.loop Hc)) [5] [5] RC))
def A93:ar:=(.seq (.reg [Zo 3 (.box 10 (Zt 1)),Zo 4 (.mv (.c (.lst .u 10 [])))] [.s 4]) (.seq (.reg [Zo 7 (.bsl 10 false []),Zm 5 7] [.s 5]) (Zs [Zn 6 0] (.seqr (.blk 0 (.loop Ii)) [0,3,5,6] [3,5] Rr))))
theorem m93:bf Tryz.prog 93 2 A93 aC=true:=by kernel_rfl
def Sm:ar:=(Zs [Zo 3 (.box 2 (Zt 1)),Zo 4 (.alloc (.agg [.i 0,.i 0,.i 0,.i 0]))] (Zs [Zm 7 0,Za 8 0 3,Zl 9 8,Zk 10 9,Zo 11 (.callM 129 [(Zt 7),(Zt 10)] [1000000000]),Zm 5 11] (.seq (.drw [Zm 12 5,Zm 13 5,Zd 14 .add 13 1,Zm 15 0,Zo 16 (.fdv [27,1000000000] 0 (Zt 3)),Zo 17 (.ldv [27,1000000000] 1 false (Zt 16)),Zk 18 17,Zd 19 .sub 18 1,Zo 20 (.callM 129 [(Zt 15),(Zt 19)] [1000000000]),Zb 21 .add 14 20,Zo 22 (.fdv [27,1000000000] 0 (Zt 3)),Zo 23 (.ldv [27,1000000000] 1 false (Zt 22)),Zo 24 (.lnv [27,1000000000] (Zt 23)),Zb 25 .rem 21 24,Zm 26 0,Zo 27 (.bsl 1 true [(.c (.i 10)),(.c (.i 20)),(.c (.i 40)),(.c (.i 50)),(.c (.i 90)),(.c (.i 120))]),Zo 28 (.callM 151 [(Zt 26),(Zt 27)] [1000000000,27]),Zm 29 0,Zo 30 (.callM 129 [(Zt 29),(.c (.i 3))] [1000000000]),Zo 31 (.build [.i 0,.i 0,.i 0,.i 0] [(0,1,(Zt 12)),(1,1,(Zt 25)),(2,1,(Zt 28)),(3,1,(Zt 30))]),Zo 6 (.alloc (.agg [.i 0,.i 0,.i 0,.i 0])),Zw (.store 4 (Zt 6) (Zt 31))] []) (.seq (Zs [Zm 32 0,Zo 33 (.callM 129 [(Zt 32),(.c (.i 48))] [1000000000])] (.blk 0 (Zs [Zd 35 .eql 33 0,Zm 34 35] (.cond (Zt 34) (.reg [Zm 36 0,Zo 37 (.callM 129 [(Zt 36),(.c (.i 10))] [1000000000]),Zd 38 .sub 37 1,Za 39 1 6,Zw (.store 1 (Zt 39) (Zt 38))] []) (Zs [Zd 41 .eql 33 1,Zm 40 41] (.cond (Zt 40) (.reg [Zm 42 0,Zo 43 (.bsl 1 false [(.c (.i 0)),(.c (.i 1)),(.c (.i 1000)),(.c (.i 1001))]),Zo 44 (.callM 151 [(Zt 42),(Zt 43)] [1000000000,43]),Za 45 2 6,Zw (.store 1 (Zt 45) (Zt 44))] []) (Zs [Zd 47 .eql 33 2,Zm 46 47] (.cond (Zt 46) (.reg [Zm 48 0,Zo 49 (.bsl 1 false [(.c (.i (-1))),(.c (.i 3))]),Zo 50 (.callM 151 [(Zt 48),(Zt 49)] [1000000000,49]),Za 51 3 6,Zw (.store 1 (Zt 51) (Zt 50))] []) .skip)))))))) (Zs [Zv 52 4 6,Zw (.store 4 (Zt 4) (Zt 52))] .ret)))))
theorem VV:bf Tryz.prog 84 2 Sm rF=true:=by kernel_rfl
def Aq:ar:=(.cond (Zt 29) (.seq (.reg [Zo 30 (.build [.i 0,.lst .u 1 []] []),Zw (.store 2 (Zt 6) (Zt 30)),Zn 7 0,Zo 8 (.mv (Zy false))] [.w 6]) .ret) .skip)
def Sl:ar:=(Zs [Zo 3 (.box 2 (Zt 0)),Zo 5 (.box 4 (Zt 2)),Zo 6 (.alloc (.agg [.i 0,.lst .u 1 []])),Zn 7 0,Zo 8 (.mv (Zy false))] (.seq (.reg [Zv 14 2 3,Zm 15 1,Zv 16 4 5,Zo 17 (.callM 121 [(Zt 14),(Zt 15),(Zt 16)] [1000000000]),Zm 13 17,Ze 18 13 0,Ze 19 13 1,Ze 20 13 2,Zm 9 18,Zm 10 19,Zm 11 20] [.s 9,.s 10]) (Zs [Zm 21 9,Zm 22 10,Zo 23 (.call 164 [(Zt 21),(Zt 22)]),Zm 12 23] (.seq (.seqr (.reg [Zm 24 11,Zo 25 (.un .not (Zt 24)),Zm 26 25,Zg 27 (.mv (Zt 12)) 26 false,Zg 28 (.bin .lss (Zt 27) (.c (.i 0))) 26 false,Zo 29 (.pick (Zt 26) (Zy true) (Zt 28))] []) [6,9,10,12,29] [6,9,10,1000000000] Aq) (.seq (.drw [Zm 31 9,Zm 32 12,Zx 33 2 31 32,Zo 34 (.lda 2 true (Zt 33)),Zm 35 10,Zm 36 12,Zx 37 1 35 36,Zo 38 (.lda 1 false (Zt 37)),Zw (.stv 2 (Zt 6) (Zt 34)),Zm 7 38,Zo 8 (.mv (Zy true))] [.w 6]) .ret)))))
def AC:List RV:=[.c 6 2 true,.t 7,.t 8]
theorem VP:bf Tryz.prog 89 3 Sl AC=true:=by kernel_rfl
def sv:ar:=(.seq (.blk 1 (.seq (Zs [Zm 20 13,Zm 21 3,Zb 22 .add 20 21,Zd 23 .gtr 22 24] (.cond (Zt 23) (Zs [Zv 24 10 7,Zw (.store 10 (Zt 10) (Zt 24)),Zo 11 (.mv (Zy false))] .ret) .skip)) (Zs [Zm 25 13,Zm 26 3,Zo 27 (.build [.i 0,.i 0] [(0,1,(Zt 25)),(1,1,(Zt 26))]),Za 28 4 12,Zw (.store 2 (Zt 28) (Zt 27))] (Zs [Zv 29 2 5,Zm 30 1,Zv 31 10 12,Zo 32 (.call 166 [(Zt 29),(Zt 30),(Zt 31)])] (.cond (Zt 32) (.exit 0) .skip))))) (.reg [Zm 18 13,Zd 19 .add 18 1,Zm 13 19] []))
def tH:ar:=(.seq (Zs [Zm 40 14,Zm 41 4,Zb 42 .add 40 41,Zd 43 .leq 42 24] (.cond (Zt 43) .skip (.exit 2))) (.seq (.blk 3 (Zs [Zm 46 14,Zm 47 4,Zo 48 (.build [.i 0,.i 0] [(0,1,(Zt 46)),(1,1,(Zt 47))]),Za 49 8 7,Zw (.store 2 (Zt 49) (Zt 48))] (Zs [Zv 50 2 5,Zm 51 1,Zv 52 10 7,Zo 53 (.call 166 [(Zt 50),(Zt 51),(Zt 52)])] (.cond (Zt 53) (Zs [Zv 54 10 7,Zw (.store 10 (Zt 10) (Zt 54)),Zo 11 (.mv (Zy true))] .ret) .skip)))) (.reg [Zm 44 14,Zd 45 .add 44 1,Zm 14 45] [])))
def Av:ar:=(Zs [Zv 55 10 7,Zw (.store 10 (Zt 10) (Zt 55)),Zo 11 (.mv (Zy false))] .ret)
def zx:ar:=(Zs [Za 33 4 12,Zv 34 2 33,Za 35 4 7,Zw (.store 2 (Zt 35) (Zt 34))] (.seq (Zs [Za 36 1 7,Zl 37 36,Zd 38 .eql 37 0] (.cond (Zt 38) (Zs [Zv 39 10 7,Zw (.store 10 (Zt 10) (Zt 39)),Zo 11 (.mv (Zy true))] .ret) .skip)) (.seqa (.reg [Zn 14 0] []) (.blk 2 (.loop tH)) [7,10] [7,10,1000000000] Av)))
def RU:ar:=(Zs [Zo 5 (.box 2 (Zt 0)),Zo 7 (.box 10 (Zt 2)),Zo 10 (.alloc (.agg [.i 0,.i 0,.i 0,.lst .u 1 [],.i 0,.i 0,.i 0,.lst .u 1 [],.i 0,.i 0])),Zo 11 (.mv (Zy false))] (Zs [Za 15 2 7,Zv 16 2 15,Zo 17 (.build [.i 0,.i 0,.i 0,.lst .u 1 [],.i 0,.i 0,.i 0,.lst .u 1 [],.i 0,.i 0] [(1,1,(.c (.i 0))),(2,2,(Zt 16))]),Zo 12 (.alloc (.agg [.i 0,.i 0,.i 0,.lst .u 1 [],.i 0,.i 0,.i 0,.lst .u 1 [],.i 0,.i 0])),Zw (.store 10 (Zt 12) (Zt 17))] (.seqa (.reg [Zn 13 0] []) (.blk 0 (.loop sv)) [1,4,5,7,10,12] [5,7,10,12,1000000000] zx)))
def nh:List RV:=[.c 10 10 true,.t 11]
theorem VK:bf Tryz.prog 92 5 RU nh=true:=by kernel_rfl
def za:ar:=(.cond (Zt 32) (.seq (.reg [Zm 33 11,Zm 8 33,Zn 9 0,Zo 10 (.mv (Zy false))] [.s 8]) .ret) .skip)
def AH:ar:=(.cond (Zt 50) .skip (.exit 0))
def tF:ar:=(.seq (.seqr (.drw [Zm 37 13,Zm 38 2,Zk 39 38,Zb 40 .lss 37 39,Zm 41 40,Zg 42 (.mv (Zt 2)) 41 true,Zg 43 (.mv (Zt 13)) 41 true,Zg 44 (.idx 10 (Zt 42) (Zt 43)) 41 true,Zg 45 (.fad 0 (Zt 44)) 41 true,Zg 46 (.load 1 false (Zt 45)) 41 true,Zg 47 (.fad 0 (Zt 12)) 41 true,Zg 48 (.load 1 false (Zt 47)) 41 true,Zg 49 (.bin .eql (Zt 46) (Zt 48)) 41 true,Zo 50 (.pick (Zt 41) (Zt 49) (Zy false))] []) [1,2,4,7,11,12,13,50] [4,7,11,12,1000000000,1000000001] AH) (.seq (.blk 1 (.reg [Za 53 0 12,Zl 54 53,Zd 55 .add 54 1,Za 56 0 12,Zw (.store 1 (Zt 56) (Zt 55))] [])) (.reg [Zm 51 13,Zd 52 .add 51 1,Zm 13 52] [])))
def zF:ar:=(.seq (.reg [Zv 94 2 14,Za 95 2 12,Zw (.store 2 (Zt 95) (Zt 94))] [.w 12]) (.seq (.drw [Zv 97 2 4,Zm 98 2,Zv 99 10 12,Zm 100 1,Zv 101 2 4,Zv 102 2 14,Zo 103 (.call 91 [(Zt 101),(Zt 102)]),Za 104 2 7,Zl 105 104,Zo 106 (.call 90 [(Zt 100),(Zt 103),(Zt 105)]),Zm 107 17,Zo 108 (.callM 92 [(Zt 97),(Zt 98),(Zt 99),(Zt 106),(Zt 107)] [1000000001]),Zm 96 108,Ze 109 96 0,Ze 110 96 1,Zo 21 (.alloc (.agg [.i 0,.i 0,.i 0,.lst .u 1 [],.i 0,.i 0,.i 0,.lst .u 1 [],.i 0,.i 0])),Zw (.store 10 (Zt 21) (Zt 109)),Zm 22 110] []) (.seq (Zs [Zm 111 22,Zo 112 (.un .not (Zt 111))] (.cond (Zt 112) (.seq (.reg [Zm 113 11,Zm 8 113,Zn 9 0,Zo 10 (.mv (Zy false))] [.s 8]) .ret) .skip)) (.seq (.drw [Zm 114 2,Zv 115 10 21,Zo 116 (.call 93 [(Zt 114),(Zt 115)]),Za 117 0 21,Zl 118 117,Zm 8 116,Zm 9 118,Zo 10 (.mv (Zy true))] [.s 8]) .ret))))
def zL:ar:=(.seq (Zs [Zm 80 16,Zo 81 (.un .not (Zt 80))] (.cond (Zt 81) (.seq (.reg [Zm 82 11,Zm 8 82,Zn 9 0,Zo 10 (.mv (Zy false))] [.s 8]) .ret) .skip)) (.seqr (Zs [Za 83 3 7,Zl 84 83,Zd 85 .neq 84 0] (.cond (Zt 85) (.drw [Zm 86 1,Zv 87 2 4,Za 88 6 12,Zv 89 2 88,Zo 90 (.call 91 [(Zt 87),(Zt 89)]),Za 91 2 7,Zl 92 91,Zo 93 (.call 90 [(Zt 86),(Zt 90),(Zt 92)]),Zm 17 93] []) .skip)) [1,2,4,7,11,12,14,17] [4,7,11,12,14,1000000000,1000000001] zF))
def Aw:ar:=(Zs [Zv 58 2 4,Zm 59 1,Zv 60 4 7,Zo 61 (.callM 89 [(Zt 58),(Zt 59),(Zt 60)] [1000000000]),Zm 57 61,Ze 62 57 0,Ze 63 57 1,Ze 64 57 2,Zo 14 (.alloc (.agg [.i 0,.lst .u 1 []])),Zw (.store 2 (Zt 14) (Zt 62)),Zm 15 63,Zm 16 64] (Zs [Zn 17 0] (.seqr (Zs [Za 65 3 7,Zl 66 65,Zd 67 .neq 66 0] (.cond (Zt 67) (Zs [Zv 69 2 4,Zm 70 1,Zv 71 4 7,Zo 72 (.callM 44 [(Zt 69),(Zt 70),(Zt 71)] [1000000000]),Zm 68 72,Ze 73 68 0,Ze 74 68 1,Ze 75 68 2,Zo 18 (.alloc (.agg [.i 0,.lst .u 1 []])),Zo 19 (.alloc (.agg [.i 0,.lst .u 1 []])),Zw (.store 2 (Zt 18) (Zt 73)),Zw (.store 2 (Zt 19) (Zt 74)),Zm 20 75] (Zs [Zv 76 2 18,Zw (.store 2 (Zt 14) (Zt 76))] (Zs [Zm 77 20,Zm 16 77] (.reg [Zv 78 2 19,Za 79 6 12,Zw (.store 2 (Zt 79) (Zt 78))] [.w 12])))) .skip)) [1,2,4,7,11,12,14,16,17] [4,7,11,12,14,1000000000,1000000001] zL)))
def RX:ar:=(.seq (.reg [Zo 4 (.box 2 (Zt 0)),Zo 7 (.box 4 (Zt 3)),Zo 8 (.mv (.c (.lst .u 10 []))),Zn 9 0,Zo 10 (.mv (Zy false))] [.s 8,.w 4,.w 4]) (.seq (.reg [Zo 23 (.bsl 10 false []),Zm 11 23] [.s 11]) (.seq (.seqr (.reg [Zv 24 2 4,Zm 25 2,Zo 26 (.call 88 [(Zt 24),(Zt 25)]),Zo 27 (.un .not (Zt 26)),Zm 28 27,Zg 29 (.mv (Zt 2)) 28 false,Zg 30 (.len (Zt 29)) 28 false,Zg 31 (.bin .eql (Zt 30) (.c (.i 8))) 28 false,Zo 32 (.pick (Zt 28) (Zy true) (Zt 31))] []) [1,2,4,7,11,32] [4,7,11,1000000000,1000000001] za) (.seq (.reg [Za 34 3 7,Zl 35 34,Zo 36 (.build [.i 0,.i 0,.i 0,.lst .u 1 [],.i 0,.i 0,.i 0,.lst .u 1 [],.i 0,.i 0] [(0,1,(.c (.i 1))),(1,1,(Zt 35))]),Zo 12 (.alloc (.agg [.i 0,.i 0,.i 0,.lst .u 1 [],.i 0,.i 0,.i 0,.lst .u 1 [],.i 0,.i 0])),Zw (.store 10 (Zt 12) (Zt 36))] [.w 12,.w 12]) (.seqa (.reg [Zn 13 0] []) (.blk 0 (.loop tF)) [1,2,4,7,11,12] [4,7,11,12,1000000000,1000000001] Aw)))))
def Jq:List RV:=[.t 8,.t 9,.t 10]
theorem VE:bf Tryz.prog 23 4 RX Jq=true:=by kernel_rfl
def oC:ar:=(.seq (Zs [Zm 19 7,Zd 20 .gtr 19 0] (.cond (Zt 20) .skip (.exit 0))) (.seq (.blk 1 (.seq (.drw [Zo 24 (.ldv [5,6,1000000000] 2 true (Zt 4)),Zm 25 6,Zm 26 5,Zm 27 0,Zv 28 2 4,Zo 29 (.callM 84 [(Zt 27),(Zt 28)] [1000000000]),Zo 30 (.callM 23 [(Zt 24),(Zt 25),(Zt 26),(Zt 29)] [6,5]),Zm 23 30,Ze 31 23 0,Ze 32 23 1,Ze 33 23 2,Zm 8 31,Zm 9 32,Zm 10 33] [.s 8]) (Zs [Zm 34 10] (.cond (Zt 34) (.reg [Zm 35 8,Zm 5 35] [.s 5]) .skip)))) (.reg [Zm 21 7,Zd 22 .sub 21 1,Zm 7 22] [])))
def wm:ar:=(.seq (.reg [Zv 36 2 4,Zm 37 5,Zw (.store 2 (Zt 2) (Zt 36)),Zm 3 37] [.s 3]) .ret)
def KS:ar:=(.seq (.reg [Zo 2 (.alloc (.agg [.lst .u 1 [],.lst .u 4 []])),Zo 3 (.mv (.c (.lst .u 10 [])))] [.s 3]) (.seq (.reg [Zm 11 0,Zo 12 (.callM 207 [(Zt 11)] [1000000000]),Zo 4 (.alloc (.agg [.lst .u 1 [],.lst .u 4 []])),Zw (.store 2 (Zt 4) (Zt 12))] [.w 4,.w 4]) (.seq (.reg [Zo 13 (.bsl 10 false []),Zm 5 13] [.s 5]) (.seq (.reg [Zo 14 (.build [.i 0,.i 0] [(0,1,(.c (.i 3000))),(1,1,(.c (.i 10)))]),Zo 15 (.build [.i 0,.i 0] [(0,1,(.c (.i 900))),(1,1,(.c (.i 20)))]),Zo 16 (.bsl 2 false [(Zt 14),(Zt 15)]),Zm 6 16] [.s 6]) (.seqa (.reg [Zm 17 0,Zo 18 (.callM 129 [(Zt 17),(.c (.i 6))] [1000000000]),Zm 7 18] []) (.blk 0 (.loop oC)) [2,4,5] [2,4,5,1000000000] wm)))))
def kT:List RV:=[.c 2 2 true,.t 3]
theorem SD:bf Tryz.prog 150 1 KS kT=true:=by kernel_rfl
def vE:ar:=(.cond (Zt 53) (.reg [Zm 54 9,Zm 55 10,Zo 56 (.bsl 1 false [(Zt 55)]),Zo 57 (.app 1 8 true (Zt 54) (Zt 56)),Zm 9 57] [.s 9]) .skip)
def pY:ar:=(.seq (Zs [Zm 30 10,Za 31 1 3,Zl 32 31,Zk 33 32,Zb 34 .lss 30 33] (.cond (Zt 34) .skip (.exit 2))) (.seq (.blk 3 (.seq (.drw [Zv 37 2 3,Zm 38 10,Zm 39 7,Zm 40 7,Zk 41 40,Zd 42 .sub 41 1,Zx 43 1 39 42,Zl 44 43,Zo 45 (.call 233 [(Zt 37),(Zt 38),(Zt 44)]),Zm 11 45] []) (.seqr (.reg [Zm 46 11,Zd 47 .geq 46 0,Zm 48 47,Zg 49 (.mv (Zt 7)) 48 true,Zg 50 (.mv (Zt 11)) 48 true,Zg 51 (.call 74 [(Zt 49),(Zt 50)]) 48 true,Zg 52 (.un .not (Zt 51)) 48 true,Zo 53 (.pick (Zt 48) (Zt 52) (Zy false))] []) [0,3,4,6,7,8,9,10,53] [3,4,6,7,9,500000385,1000000000] vE))) (.reg [Zm 35 10,Zd 36 .add 35 1,Zm 10 36] [])))
def uc:ar:=(.seq (Zs [Zm 58 9,Zk 59 58,Zd 60 .eql 59 0] (.cond (Zt 60) (.exit 0) .skip)) (Zs [Zm 61 9,Zm 62 0,Zm 63 9,Zk 64 63,Zo 65 (.callM 129 [(Zt 62),(Zt 64)] [1000000000]),Zx 66 1 61 65,Zl 67 66,Zm 12 67] (.seq (.reg [Za 68 1 6,Zl 69 68,Zm 70 12,Zo 71 (.bsl 1 false [(Zt 70)]),Zo 72 (.app 1 8 true (Zt 69) (Zt 71)),Za 73 1 6,Zw (.store 1 (Zt 73) (Zt 72))] [.f false 500000385 6 1]) (.drw [Zm 74 7,Zv 75 2 3,Zm 76 12,Zm 77 7,Zm 78 7,Zk 79 78,Zd 80 .sub 79 1,Zx 81 1 77 80,Zl 82 81,Zo 83 (.call 233 [(Zt 75),(Zt 76),(Zt 82)]),Zo 84 (.bsl 1 true [(Zt 83)]),Zo 85 (.app 1 8 true (Zt 74) (Zt 84)),Zm 7 85] [.s 7]))))
def oB:ar:=(.seq (Zs [Zm 25 8,Zd 26 .gtr 25 0] (.cond (Zt 26) .skip (.exit 0))) (.seq (.blk 1 (.seq (.reg [Zo 29 (.bsl 1 false []),Zm 9 29] [.s 9]) (.seqa (.reg [Zn 10 0] []) (.blk 2 (.loop pY)) [0,3,4,6,7,8,9] [3,4,6,7,9,500000385,1000000000] uc))) (.reg [Zm 27 8,Zd 28 .sub 27 1,Zm 8 28] [])))
def wh:ar:=(.seq (.reg [Zv 86 2 6,Zw (.store 2 (Zt 4) (Zt 86))] [.f false 500000257 4 1]) .ret)
def JN:ar:=(Zs [Zo 3 (.box 2 (Zt 1)),Zo 4 (.alloc (.agg [.i 0,.lst .u 1 []]))] (Zs [Zm 13 0,Za 14 0 3,Zl 15 14,Zk 16 15,Zo 17 (.callM 129 [(Zt 13),(Zt 16)] [1000000000]),Zm 5 17] (.seq (.reg [Zm 18 5,Zo 19 (.build [.i 0,.lst .u 1 []] [(0,1,(Zt 18))]),Zo 6 (.alloc (.agg [.i 0,.lst .u 1 []])),Zw (.store 2 (Zt 6) (Zt 19))] [.f false 500000385 6 1]) (.seq (.reg [Zm 20 5,Zo 21 (.bsl 1 false [(Zt 20)]),Zm 7 21] [.s 7]) (.seqa (.reg [Zm 22 0,Zo 23 (.callM 129 [(Zt 22),(.c (.i 4))] [1000000000]),Zo 24 (.bin .add (.c (.i 1)) (Zt 23)),Zm 8 24] []) (.blk 0 (.loop oB)) [4,6] [4,6,500000385,1000000000] wh)))))
def mz:List RV:=[.c 4 2 true]
theorem Su:bf Tryz.prog 208 2 JN mz=true:=by kernel_rfl
def FX:ar:=(Zs [Zo 3 (.box 2 (Zt 1)),Zo 4 (.alloc (.agg [.i 0,.lst .u 1 []]))] (.seq (.reg [Zm 6 0,Zv 7 2 3,Zo 8 (.callM 208 [(Zt 6),(Zt 7)] [1000000000]),Zo 5 (.alloc (.agg [.i 0,.lst .u 1 []])),Zw (.store 2 (Zt 5) (Zt 8))] [.f false 500000321 5 1]) (.seq (Zs [Zm 9 0,Zo 10 (.callM 129 [(Zt 9),(.c (.i 16))] [1000000000])] (.blk 0 (Zs [Zd 12 .eql 10 0,Zm 11 12] (.cond (Zt 11) (.reg [Zm 13 0,Zo 14 (.callM 129 [(Zt 13),(.c (.i 8))] [1000000000]),Zd 15 .sub 14 1,Za 16 0 5,Zw (.store 1 (Zt 16) (Zt 15))] []) (Zs [Zd 18 .eql 10 1,Zm 17 18] (.cond (Zt 17) (.drw [Zo 19 (.fdv [1000000000] 1 (Zt 5)),Zo 20 (.ldv [1000000000] 1 false (Zt 19)),Zm 21 0,Zo 22 (.callM 129 [(Zt 21),(.c (.i 8))] [1000000000]),Zd 23 .sub 22 1,Zo 24 (.bsl 1 true [(Zt 23)]),Zo 25 (.app 1 8 true (Zt 20) (Zt 24)),Za 26 1 5,Zw (.store 1 (Zt 26) (Zt 25))] [.f false 500000321 5 1]) (Zs [Zd 28 .eql 10 2,Zm 27 28] (.cond (Zt 27) (.reg [Zo 29 (.bsl 1 false []),Za 30 1 5,Zw (.store 1 (Zt 30) (Zt 29))] [.f false 500000321 5 1]) (Zs [Zd 32 .eql 10 3,Zm 31 32] (.cond (Zt 31) (Zs [Za 33 1 5,Zl 34 33,Zk 35 34,Zd 36 .gtr 35 1] (.cond (Zt 36) (.drw [Za 37 1 5,Zl 38 37,Za 39 1 5,Zl 40 39,Za 41 1 5,Zl 42 41,Zk 43 42,Zd 44 .sub 43 1,Zx 45 1 40 44,Zl 46 45,Zo 47 (.bsl 1 true [(Zt 46)]),Zo 48 (.app 1 8 true (Zt 38) (Zt 47)),Za 49 1 5,Zw (.store 1 (Zt 49) (Zt 48))] [.f false 500000321 5 1]) .skip)) .skip)))))))))) (.seq (.reg [Zv 50 2 5,Zw (.store 2 (Zt 4) (Zt 50))] [.f false 500000257 4 1]) .ret))))
theorem Uk:bf Tryz.prog 152 2 FX mz=true:=by kernel_rfl
def My:ar:=(Zs [Zo 2 (.alloc (.agg [.i 0,.i 0]))] (.seq (Zs [Zm 4 0,Zo 5 (.callM 130 [(Zt 4),(.c (.i 12))] [1000000000])] (.cond (Zt 5) (Zs [Zm 6 0,Zo 7 (.callM 129 [(Zt 6),(.c (.i 26))] [1000000000]),Zd 8 .sub 7 1,Zm 9 0,Zo 10 (.callM 129 [(Zt 9),(.c (.i 27))] [1000000000]),Zd 11 .sub 10 1,Zo 12 (.build [.i 0,.i 0] [(0,1,(Zt 8)),(1,1,(Zt 11))]),Zw (.store 2 (Zt 2) (Zt 12))] .ret) .skip)) (Zs [Zm 13 0,Zo 14 (.callM 129 [(Zt 13),(.c (.i 6))] [1000000000]),Zo 15 (.bin .add (.c (.i 1)) (Zt 14)),Zm 3 15] (Zs [Zm 16 0,Zm 17 3,Zo 18 (.bin .sub (.c (.i 24)) (Zt 17)),Zd 19 .add 18 1,Zo 20 (.callM 129 [(Zt 16),(Zt 19)] [1000000000]),Zm 21 3,Zo 22 (.build [.i 0,.i 0] [(0,1,(Zt 20)),(1,1,(Zt 21))]),Zw (.store 2 (Zt 2) (Zt 22))] .ret))))
theorem VC:bf Tryz.prog 153 1 My dz=true:=by kernel_rfl
def IX:ar:=(Zs [Zo 4 (.mv (.c (.z ⟨#[]⟩)))] (Zs [Zm 5 1,Zm 6 0,Zm 7 1,Zk 8 7,Zo 9 (.callM 129 [(Zt 6),(Zt 8)] [1000000000]),Zx 10 1 5 9,Zl 11 10,Zm 4 11] .ret))
theorem SU:bf Tryz.prog 210 2 IX aC=true:=by kernel_rfl
def pe:ar:=(.seq (.seq (.drw [Zo 70 (.fdv [1000000000] 1 (Zt 3)),Zo 71 (.ldv [1000000000] 1 false (Zt 70)),Zo 72 (.lnv [1000000000] (Zt 71)),Zm 73 0,Zo 74 (.callM 129 [(Zt 73),(.c (.i 2))] [1000000000]),Zo 75 (.bin .add (.c (.i 14)) (Zt 74)),Zb 76 .lss 72 75] []) (.cond (Zt 76) .skip (.exit 1))) (.blk 2 (.drw [Za 77 1 3,Zl 78 77,Za 79 1 3,Zl 80 79,Za 81 1 3,Zl 82 81,Zk 83 82,Zd 84 .sub 83 1,Zx 85 4 80 84,Zv 86 4 85,Zo 87 (.bsl 4 true [(Zt 86)]),Zo 88 (.app 4 32 true (Zt 78) (Zt 87)),Za 89 1 3,Zw (.store 1 (Zt 89) (Zt 88))] [.f false 500000193 3 1])))
def vt:ar:=(.seq (.reg [Zv 90 2 3,Zw (.store 2 (Zt 2) (Zt 90))] [.f false 500000128 2 0,.f false 500000129 2 1]) .ret)
def tW:ar:=(Zs [Za 98 1 3,Zl 99 98,Zm 100 4,Zv 101 4 5,Zx 102 4 99 100,Zw (.store 4 (Zt 102) (Zt 101))] (.seq (.reg [Zv 103 2 3,Zw (.store 2 (Zt 2) (Zt 103))] [.f false 500000128 2 0,.f false 500000129 2 1]) .ret))
def JT:ar:=(Zs [Zo 2 (.alloc (.agg [.lst .u 1 [],.lst .u 4 []]))] (.seq (.reg [Zm 6 0,Zo 7 (.callM 209 [(Zt 6)] [1000000000]),Zo 3 (.alloc (.agg [.lst .u 1 [],.lst .u 4 []])),Zw (.store 2 (Zt 3) (Zt 7))] [.f false 500000192 3 0,.f false 500000193 3 1]) (.seq (Zs [Za 8 1 3,Zl 9 8,Zk 10 9,Zd 11 .eql 10 0] (.cond (Zt 11) (.seq (.reg [Zv 12 2 3,Zw (.store 2 (Zt 2) (Zt 12))] [.f false 500000128 2 0,.f false 500000129 2 1]) .ret) .skip)) (Zs [Zm 13 0,Za 14 1 3,Zl 15 14,Zk 16 15,Zo 17 (.callM 129 [(Zt 13),(Zt 16)] [1000000000]),Zm 4 17] (Zs [Za 18 1 3,Zl 19 18,Zm 20 4,Zx 21 4 19 20,Zv 22 4 21,Zo 5 (.alloc (.agg [.i 0,.i 0,.i 0,.i 0])),Zw (.store 4 (Zt 5) (Zt 22))] (.seqr (Zs [Zm 23 0,Zo 24 (.callM 129 [(Zt 23),(.c (.i 24))] [1000000000])] (.blk 0 (Zs [Zd 26 .eql 24 0,Zm 25 26] (.cond (Zt 25) (.drw [Zo 27 (.fdv [30,1000000000] 0 (Zt 3)),Zo 28 (.ldv [30,1000000000] 1 false (Zt 27)),Zm 29 0,Zo 30 (.bsl 1 true [(.c (.z ⟨#[98]⟩)),(.c (.z ⟨#[]⟩)),(.c (.z ⟨#[65]⟩)),(.c (.z ⟨#[97,98,99,100,101,102,103,104]⟩)),(.c (.z ⟨#[97,98,99,100,101,102,103,104,105]⟩)),(.c (.z ⟨#[120,49]⟩))]),Zo 31 (.callM 210 [(Zt 29),(Zt 30)] [1000000000,30]),Zo 32 (.idx 1 (Zt 28) (.c (.i 0))),Zw (.store 1 (Zt 32) (Zt 31))] []) (Zs [Zd 34 .eql 24 1,Zm 33 34] (.cond (Zt 33) (.reg [Zm 35 0,Zo 36 (.callM 129 [(Zt 35),(.c (.i 8))] [1000000000]),Zd 37 .sub 36 1,Za 38 0 5,Zw (.store 1 (Zt 38) (Zt 37))] []) (Zs [Zd 40 .eql 24 2,Zm 39 40] (.cond (Zt 39) (.reg [Zm 41 0,Zo 42 (.callM 129 [(Zt 41),(.c (.i 10))] [1000000000]),Zd 43 .sub 42 1,Za 44 1 5,Zw (.store 1 (Zt 44) (Zt 43))] []) (Zs [Zd 46 .eql 24 3,Zm 45 46] (.cond (Zt 45) (.reg [Zm 47 0,Zo 48 (.bsl 1 false [(.c (.i 0)),(.c (.i 1)),(.c (.i 5000)),(.c (.i 5001))]),Zo 49 (.callM 151 [(Zt 47),(Zt 48)] [1000000000,48]),Za 50 2 5,Zw (.store 1 (Zt 50) (Zt 49))] []) (Zs [Zd 52 .eql 24 4,Zm 51 52] (.cond (Zt 51) (.reg [Zm 53 0,Zo 54 (.bsl 1 false [(.c (.i (-1))),(.c (.i 9)),(.c (.i 10))]),Zo 55 (.callM 151 [(Zt 53),(Zt 54)] [1000000000,54]),Za 56 3 5,Zw (.store 1 (Zt 56) (Zt 55))] []) (Zs [Zd 58 .eql 24 5,Zm 57 58] (.cond (Zt 57) (.drw [Za 59 1 3,Zl 60 59,Za 61 1 3,Zl 62 61,Zo 63 (.idx 4 (Zt 62) (.c (.i 0))),Zv 64 4 63,Zo 65 (.bsl 4 true [(Zt 64)]),Zo 66 (.app 4 32 true (Zt 60) (Zt 65)),Za 67 1 3,Zw (.store 1 (Zt 67) (Zt 66))] [.f false 500000193 3 1]) (Zs [Zd 69 .eql 24 6,Zm 68 69] (.cond (Zt 68) (.seqr (.blk 1 (.loop pe)) [2,3] [2,3,500000192,500000193,1000000000] vt) (Zs [Zd 92 .eql 24 7,Zm 91 92] (.cond (Zt 91) (.reg [Za 93 0 3,Zl 94 93,Zo 95 (.bsl 1 false [(.c (.z ⟨#[112]⟩)),(.c (.z ⟨#[113]⟩)),(.c (.z ⟨#[114]⟩)),(.c (.z ⟨#[115]⟩))]),Zo 96 (.app 1 16 true (Zt 94) (Zt 95)),Za 97 0 3,Zw (.store 1 (Zt 97) (Zt 96))] [.f false 500000192 3 0]) .skip)))))))))))))))))) [2,3,4,5] [2,3,5,500000192,500000193,1000000000] tW))))))
theorem Uo:bf Tryz.prog 154 1 JT dz=true:=by kernel_rfl
def Ag:ar:=(Zs [Zm 72 5,Zm 73 6,Zv 74 10 7,Zx 75 10 72 73,Zw (.store 10 (Zt 75) (Zt 74))] (.seq (.reg [Zv 76 2 4,Zm 77 5,Zw (.store 2 (Zt 2) (Zt 76)),Zm 3 77] [.s 3]) .ret))
def RT:ar:=(.seq (.reg [Zo 2 (.alloc (.agg [.lst .u 1 [],.lst .u 4 []])),Zo 3 (.mv (.c (.lst .u 10 [])))] [.s 3]) (.seq (.reg [Zm 9 0,Zo 10 (.callM 150 [(Zt 9)] [1000000000]),Zm 8 10,Ze 11 8 0,Ze 12 8 1,Zo 4 (.alloc (.agg [.lst .u 1 [],.lst .u 4 []])),Zw (.store 2 (Zt 4) (Zt 11)),Zm 5 12] [.s 5,.w 4,.w 4,.w 5]) (.seq (Zs [Zm 13 5,Zk 14 13,Zd 15 .eql 14 0] (.cond (Zt 15) (.seq (.reg [Zv 16 2 4,Zm 17 5,Zw (.store 2 (Zt 2) (Zt 16)),Zm 3 17] [.s 3]) .ret) .skip)) (Zs [Zm 18 0,Zm 19 5,Zk 20 19,Zo 21 (.callM 129 [(Zt 18),(Zt 20)] [1000000000]),Zm 6 21] (.seq (.reg [Zm 22 5,Zm 23 6,Zx 24 10 22 23,Zv 25 10 24,Zo 7 (.alloc (.agg [.i 0,.i 0,.i 0,.lst .u 1 [],.i 0,.i 0,.i 0,.lst .u 1 [],.i 0,.i 0])),Zw (.store 10 (Zt 7) (Zt 25))] [.w 7,.w 7]) (.seqr (Zs [Zm 26 0,Zo 27 (.callM 129 [(Zt 26),(.c (.i 24))] [1000000000])] (.blk 0 (Zs [Zd 29 .eql 27 0,Zm 28 29] (.cond (Zt 28) (.reg [Zm 30 0,Zo 31 (.bsl 1 false [(.c (.i 0)),(.c (.i 999)),(.c (.i 1000)),(.c (.i 500)),(.c (.i 1))]),Zo 32 (.callM 151 [(Zt 30),(Zt 31)] [1000000000,31]),Za 33 0 7,Zw (.store 1 (Zt 33) (Zt 32))] []) (Zs [Zd 35 .eql 27 1,Zm 34 35] (.cond (Zt 34) (.reg [Zm 36 0,Zo 37 (.callM 129 [(Zt 36),(.c (.i 5))] [1000000000]),Zd 38 .sub 37 1,Za 39 1 7,Zw (.store 1 (Zt 39) (Zt 38))] []) (Zs [Zd 41 .eql 27 2,Zm 40 41] (.cond (Zt 40) (.reg [Zm 42 0,Zv 43 2 4,Zo 44 (.callM 152 [(Zt 42),(Zt 43)] [1000000000]),Za 45 2 7,Zw (.store 2 (Zt 45) (Zt 44))] [.w 7]) (Zs [Zd 47 .eql 27 3,Zm 46 47] (.cond (Zt 46) (.reg [Zm 48 0,Zo 49 (.callM 153 [(Zt 48)] [1000000000]),Za 50 4 7,Zw (.store 2 (Zt 50) (Zt 49))] []) (Zs [Zd 52 .eql 27 4,Zm 51 52] (.cond (Zt 51) (.reg [Zm 53 0,Zv 54 2 4,Zo 55 (.callM 152 [(Zt 53),(Zt 54)] [1000000000]),Za 56 6 7,Zw (.store 2 (Zt 56) (Zt 55))] [.w 7]) (Zs [Zd 58 .eql 27 5,Zm 57 58] (.cond (Zt 57) (.reg [Zm 59 0,Zo 60 (.callM 153 [(Zt 59)] [1000000000]),Za 61 8 7,Zw (.store 2 (Zt 61) (Zt 60))] []) (Zs [Zd 63 .eql 27 6,Zm 62 63] (.cond (Zt 62) (.reg [Zm 64 5,Zv 65 10 7,Zo 66 (.bsl 10 false [(Zt 65)]),Zo 67 (.app 10 112 true (Zt 64) (Zt 66)),Zm 5 67] [.s 5]) (Zs [Zd 69 .eql 27 7,Zm 68 69] (.cond (Zt 68) (.reg [Zm 70 0,Zo 71 (.callM 154 [(Zt 70)] [1000000000]),Zw (.store 2 (Zt 4) (Zt 71))] [.w 4,.w 4]) .skip)))))))))))))))))) [2,4,5,6,7] [2,4,5,7,1000000000] Ag))))))
theorem Wa:bf Tryz.prog 82 1 RT kT=true:=by kernel_rfl
def zi:ar:=(.cond (Zt 25) .skip (.exit 0))
def tJ:ar:=(.seq (.seqr (.reg [Zm 19 8,Zd 20 .lss 19 4,Zm 21 20,Zg 22 (.mv (Zt 7)) 21 true,Zg 23 (.len (Zt 22)) 21 true,Zg 24 (.bin .lss (Zt 23) (.c (.i 2))) 21 true,Zo 25 (.pick (Zt 21) (Zt 24) (Zy false))] []) [2,3,4,5,6,7,8,25] [2,3,4,6,7,13] zi) (.seq (.blk 1 (.reg [Zm 29 5,Zo 30 (.callM 82 [(Zt 29)] [13]),Zm 28 30,Ze 31 28 0,Ze 32 28 1,Zw (.store 2 (Zt 6) (Zt 31)),Zm 7 32] [.s 7])) (.reg [Zm 26 8,Zd 27 .add 26 1,Zm 8 27] [])))
def AQ:ar:=(.seq (Zs [Zm 33 7,Zk 34 33,Zd 35 .lss 34 2] (.cond (Zt 35) (.seq (.reg [Zv 36 2 6,Zo 37 (.build [.i 0,.i 0,.i 0,.lst .u 1 [],.i 0,.i 0,.i 0,.lst .u 1 [],.i 0,.i 0] []),Zo 38 (.build [.i 0,.i 0,.i 0,.lst .u 1 [],.i 0,.i 0,.i 0,.lst .u 1 [],.i 0,.i 0] []),Zw (.store 2 (Zt 2) (Zt 36)),Zw (.store 10 (Zt 3) (Zt 37)),Zw (.store 10 (Zt 4) (Zt 38))] [.w 3,.w 3,.w 4,.w 4]) .ret) .skip)) (.seq (.drw [Zm 39 7,Zm 40 5,Zm 41 7,Zk 42 41,Zo 43 (.callM 129 [(Zt 40),(Zt 42)] [13]),Zo 44 (.idv [9,13] 10 (Zt 39) (Zt 43)),Zo 45 (.lde [9,13] 10 true (Zt 44)),Zm 46 7,Zm 47 5,Zm 48 7,Zo 49 (.lnv [9,13] (Zt 48)),Zo 50 (.callM 129 [(Zt 47),(Zt 49)] [13]),Zo 51 (.idv [9,13] 10 (Zt 46) (Zt 50)),Zo 52 (.lde [9,13] 10 true (Zt 51)),Zo 9 (.alloc (.agg [.i 0,.i 0,.i 0,.lst .u 1 [],.i 0,.i 0,.i 0,.lst .u 1 [],.i 0,.i 0])),Zo 10 (.alloc (.agg [.i 0,.i 0,.i 0,.lst .u 1 [],.i 0,.i 0,.i 0,.lst .u 1 [],.i 0,.i 0])),Zw (.stw 9 10 (Zt 9) (Zt 45)),Zw (.store 10 (Zt 10) (Zt 52))] []) (.seq (Zs [Zm 53 5,Zo 54 (.callM 130 [(Zt 53),(.c (.i 3))] [13])] (.cond (Zt 54) (.reg [Za 55 8 9,Zv 56 2 55,Za 57 8 10,Zw (.store 2 (Zt 57) (Zt 56))] []) .skip)) (.seq (.drw [Zv 58 2 6,Zo 59 (.ldv [2,3] 10 true (Zt 9)),Zo 60 (.ldv [2,3] 10 true (Zt 10)),Zw (.stw 2 2 (Zt 2) (Zt 58)),Zw (.stw 3 10 (Zt 3) (Zt 59)),Zw (.store 10 (Zt 4) (Zt 60))] [.w 3,.w 3,.w 4,.w 4]) .ret))))
def RN:ar:=(Zs [Zo 2 (.alloc (.agg [.lst .u 1 [],.lst .u 4 []])),Zo 3 (.alloc (.agg [.i 0,.i 0,.i 0,.lst .u 1 [],.i 0,.i 0,.i 0,.lst .u 1 [],.i 0,.i 0])),Zo 4 (.alloc (.agg [.i 0,.i 0,.i 0,.lst .u 1 [],.i 0,.i 0,.i 0,.lst .u 1 [],.i 0,.i 0]))] (Zs [Zm 11 0,Zo 12 (.build [.lst .u 1 [],.i 0,.sc (.int .u64 0)] [(0,1,(Zt 11))]),Zo 13 (.box 3 (Zt 12)),Zm 5 13] (.seq (.reg [Zm 15 5,Zo 16 (.callM 82 [(Zt 15)] [13]),Zm 14 16,Ze 17 14 0,Ze 18 14 1,Zo 6 (.alloc (.agg [.lst .u 1 [],.lst .u 4 []])),Zw (.store 2 (Zt 6) (Zt 17)),Zm 7 18] [.s 7]) (.seqa (.reg [Zn 8 0] []) (.blk 0 (.loop tJ)) [2,3,4,5,6,7] [2,3,4,6,7,13] AQ))))
def ug:List RV:=[.c 2 2 true,.c 3 10 true,.c 4 10 true]
theorem VR:bf Tryz.prog 57 1 RN ug=true:=by kernel_rfl
def A76:ar:=(Zs [Zo 6 (.mv (Zy false))] (Zs [Zm 7 1,Zm 8 0,Zb 9 .leq 7 8,Zm 10 9,Zg 11 (.mv (Zt 0)) 10 true,Zg 12 (.mv (Zt 2)) 10 true,Zg 13 (.bin .leq (Zt 11) (Zt 12)) 10 true,Zo 14 (.pick (Zt 10) (Zt 13) (Zy false)),Zm 6 14] .ret))
theorem m76:bf Tryz.prog 76 3 A76 cx=true:=by kernel_rfl
def GP:ar:=(Zs [Zm 31 4,Zo 32 (.un .not (Zt 31)),Zm 33 32,Zg 34 (.mv (Zt 5)) 33 true,Zg 35 (.un .not (Zt 34)) 33 true,Zg 36 (.mv (Zt 35)) 33 true,Zg 37 (.mv (Zt 3)) 36 false,Zg 38 (.bin .eql (Zt 37) (.c (.i 0))) 36 false,Zg 39 (.pick (Zt 36) (Zy true) (Zt 38)) 33 true,Zo 40 (.pick (Zt 33) (Zt 39) (Zy false))] (.cond (Zt 40) (Zs [Zo 2 (.mv (Zy false))] .ret) .skip))
def yJ:ar:=(Zs [Zb 9 .lss 8 7] (.seq (.cond (Zt 9) .skip (.exit 0)) (.seq (.blk 1 (Zs [Zm 10 8,Zm 3 10] (.seqr (.drw [Zm 11 0,Zm 12 3,Zo 13 (.stri (Zt 11) (Zt 12)),Zo 14 (.bin .geq (Zt 13) (.c (.sc (.int .u8 97)))),Zm 15 14,Zg 16 (.mv (Zt 0)) 15 true,Zg 17 (.mv (Zt 3)) 15 true,Zg 18 (.stri (Zt 16) (Zt 17)) 15 true,Zg 19 (.bin .leq (Zt 18) (.c (.sc (.int .u8 122)))) 15 true,Zo 20 (.pick (Zt 15) (Zt 19) (Zy false)),Zm 21 0,Zm 22 3,Zo 23 (.stri (Zt 21) (Zt 22)),Zo 24 (.bin .geq (Zt 23) (.c (.sc (.int .u8 48)))),Zm 25 24,Zg 26 (.mv (Zt 0)) 25 true,Zg 27 (.mv (Zt 3)) 25 true,Zg 28 (.stri (Zt 26) (Zt 27)) 25 true,Zg 29 (.bin .leq (Zt 28) (.c (.sc (.int .u8 57)))) 25 true,Zo 30 (.pick (Zt 25) (Zt 29) (Zy false)),Zm 4 20,Zm 5 30] []) [0,3,4,5,7,8] [] GP))) (.reg [Zd 41 .add 8 1,Zm 8 41] []))))
def KG:ar:=(Zs [Zm 42 0,Zo 43 (.lenz (Zt 42)),Zo 44 (.call 76 [(Zt 43),(.c (.i 1)),(.c (.i 8))]),Zm 2 44] .ret)
def A147:ar:=(Zs [Zo 2 (.mv (Zy false))] (.seqa (.reg [Zm 6 0,Zo 7 (.lenz (Zt 6)),Zn 8 0] []) (.blk 0 (.loop yJ)) [0] [] KG))
theorem m147:bf Tryz.prog 147 1 A147 V10=true:=by kernel_rfl
def xN:ar:=(Zs [Zb 9 .lss 8 7] (.seq (.cond (Zt 9) .skip (.exit 0)) (.seq (.blk 1 (Zs [Zm 10 8,Zm 5 10] (Zs [Zm 11 1,Zm 12 0,Zm 13 5,Zx 14 1 12 13,Zl 15 14,Zb 16 .eql 11 15] (.cond (Zt 16) (Zs [Zm 17 5,Zm 4 17] .ret) .skip)))) (.reg [Zd 18 .add 8 1,Zm 8 18] []))))
def EX:ar:=(Zs [Zn 4 (-1)] .ret)
def A206:ar:=(Zs [Zn 4 0] (.seqa (.reg [Zm 6 0,Zk 7 6,Zn 8 0] []) (.blk 0 (.loop xN)) [] [] EX))
theorem m206:bf Tryz.prog 206 2 A206 aC=true:=by kernel_rfl
def A148:ar:=(Zs [Zo 4 (.mv (Zy false))] (Zs [Zm 5 0,Zm 6 1,Zo 7 (.call 206 [(Zt 5),(Zt 6)]),Zd 8 .geq 7 0,Zm 4 8] .ret))
theorem m148:bf Tryz.prog 148 2 A148 aC=true:=by kernel_rfl
def A224:ar:=(Zs [Zo 2 (.mv (Zy false))] (Zs [Zm 3 0,Zm 4 0,Zb 5 .neq 3 4,Zm 2 5] .ret))
theorem m224:bf Tryz.prog 224 1 A224 V10=true:=by kernel_rfl
def A189:ar:=(Zs [Zn 4 0] (Zs [Zm 7 0,Zo 8 (.call 224 [(Zt 7)]),Zm 5 8] (Zs [Zm 9 1,Zo 10 (.call 224 [(Zt 9)]),Zm 6 10] (.seq (Zs [Zm 11 5] (.cond (Zt 11) (.seq (Zs [Zm 12 6] (.cond (Zt 12) (Zs [Zn 4 0] .ret) .skip)) (Zs [Zn 4 (-1)] .ret)) .skip)) (.seq (Zs [Zm 13 6] (.cond (Zt 13) (Zs [Zn 4 1] .ret) .skip)) (.seq (Zs [Zm 14 0,Zm 15 1,Zb 16 .lss 14 15] (.cond (Zt 16) (Zs [Zn 4 (-1)] .ret) .skip)) (.seq (Zs [Zm 17 0,Zm 18 1,Zb 19 .gtr 17 18] (.cond (Zt 19) (Zs [Zn 4 1] .ret) .skip)) (Zs [Zn 4 0] .ret))))))))
theorem m189:bf Tryz.prog 189 2 A189 aC=true:=by kernel_rfl
def yp:ar:=(Zs [Zb 9 .lss 8 7] (.seq (.cond (Zt 9) .skip (.exit 0)) (.seq (.blk 1 (Zs [Zx 10 1 6 8,Zl 11 10,Zm 5 11] (Zs [Zm 12 5,Zm 13 3,Zb 14 .neq 12 13] (.cond (Zt 14) (Zs [Zm 15 5,Zm 2 15] .ret) .skip)))) (.reg [Zd 16 .add 8 1,Zm 8 16] []))))
def IA:ar:=(Zs [Zm 17 3,Zm 2 17] .ret)
def A188:ar:=(Zs [Zn 2 0] (Zs [Zn 3 0] (.seqa (.reg [Zm 6 0,Zk 7 6,Zn 8 0] []) (.blk 0 (.loop yp)) [3] [] IA)))
theorem m188:bf Tryz.prog 188 1 A188 V10=true:=by kernel_rfl
def A149:ar:=(Zs [Zo 2 (.box 4 (Zt 0)),Zo 3 (.box 4 (Zt 1)),Zn 4 0] (.seq (.drw [Za 5 0 2,Zl 6 5,Za 7 0 3,Zl 8 7,Zo 9 (.call 189 [(Zt 6),(Zt 8)]),Za 10 1 2,Zl 11 10,Za 12 1 3,Zl 13 12,Zo 14 (.call 189 [(Zt 11),(Zt 13)]),Za 15 2 2,Zl 16 15,Za 17 2 3,Zl 18 17,Zo 19 (.call 189 [(Zt 16),(Zt 18)]),Za 20 3 2,Zl 21 20,Za 22 3 3,Zl 23 22,Zo 24 (.call 189 [(Zt 21),(Zt 23)]),Zo 25 (.bsl 1 true [(Zt 9),(Zt 14),(Zt 19),(Zt 24)]),Zo 26 (.call 188 [(Zt 25)]),Zm 4 26] []) .ret))
theorem m149:bf Tryz.prog 149 2 A149 aC=true:=by kernel_rfl
def Kz:ar:=(Zs [Zb 11 .lss 10 9] (.seq (.cond (Zt 11) .skip (.exit 0)) (.seq (.blk 1 (Zs [Zm 12 10,Zx 13 1 8 10,Zl 14 13,Zm 3 12,Zm 4 14] (Zs [Zm 15 4,Zo 16 (.call 147 [(Zt 15)]),Zo 17 (.un .not (Zt 16)),Zm 18 17,Zg 19 (.fad 0 (Zt 1)) 18 false,Zg 20 (.load 1 false (Zt 19)) 18 false,Zg 21 (.mv (Zt 3)) 18 false,Zg 22 (.slc 1 (Zt 20) none (some (Zt 21)) none) 18 false,Zg 23 (.mv (Zt 4)) 18 false,Zg 24 (.call 148 [(Zt 22),(Zt 23)]) 18 false,Zo 25 (.pick (Zt 18) (Zy true) (Zt 24))] (.cond (Zt 25) (Zs [Zo 2 (.mv (Zy false))] .ret) .skip)))) (.reg [Zd 26 .add 10 1,Zm 10 26] []))))
def Gy:ar:=(Zs [Zb 31 .lss 30 29] (.seq (.cond (Zt 31) .skip (.exit 2)) (.seq (.blk 3 (Zs [Zm 32 30,Zx 33 4 28 30,Zv 34 4 33,Zo 6 (.alloc (.agg [.i 0,.i 0,.i 0,.i 0])),Zm 5 32,Zw (.store 4 (Zt 6) (Zt 34))] (.seq (.drw [Za 35 0 6,Zl 36 35,Zd 37 .lss 36 0,Zm 38 37,Zg 39 (.fad 0 (Zt 6)) 38 false,Zg 40 (.load 1 false (Zt 39)) 38 false,Zg 41 (.fad 1 (Zt 6)) 38 false,Zg 42 (.load 1 false (Zt 41)) 38 false,Zg 43 (.bin .geq (Zt 40) (Zt 42)) 38 false,Zo 44 (.pick (Zt 38) (Zy true) (Zt 43)),Zm 45 44,Zg 46 (.fad 1 (Zt 6)) 45 false,Zg 47 (.load 1 false (Zt 46)) 45 false,Zg 48 (.fad 0 (Zt 1)) 45 false,Zg 49 (.load 1 false (Zt 48)) 45 false,Zg 50 (.len (Zt 49)) 45 false,Zg 51 (.bin .geq (Zt 47) (Zt 50)) 45 false,Zo 52 (.pick (Zt 45) (Zy true) (Zt 51)),Zm 53 52,Zg 54 (.fad 2 (Zt 6)) 53 false,Zg 55 (.load 1 false (Zt 54)) 53 false,Zg 56 (.call 76 [(Zt 55),(.c (.i 1)),(.c (.i 5000))]) 53 false,Zg 57 (.un .not (Zt 56)) 53 false,Zo 58 (.pick (Zt 53) (Zy true) (Zt 57)),Zm 59 58,Zg 60 (.fad 3 (Zt 6)) 59 false,Zg 61 (.load 1 false (Zt 60)) 59 false,Zg 62 (.call 76 [(Zt 61),(.c (.i 0)),(.c (.i 9))]) 59 false,Zg 63 (.un .not (Zt 62)) 59 false,Zo 64 (.pick (Zt 59) (Zy true) (Zt 63)),Zm 65 64,Zg 66 (.mv (Zt 5)) 65 false,Zg 67 (.bin .gtr (Zt 66) (.c (.i 0))) 65 false,Zg 68 (.mv (Zt 67)) 65 false,Zg 69 (.fad 1 (Zt 1)) 68 true,Zg 70 (.load 1 false (Zt 69)) 68 true,Zg 71 (.mv (Zt 5)) 68 true,Zg 72 (.bin .sub (Zt 71) (.c (.i 1))) 68 true,Zg 73 (.idx 4 (Zt 70) (Zt 72)) 68 true,Zg 74 (.load 4 true (Zt 73)) 68 true,Zg 75 (.load 4 true (Zt 6)) 68 true,Zg 76 (.call 149 [(Zt 74),(Zt 75)]) 68 true,Zg 77 (.bin .gtr (Zt 76) (.c (.i 0))) 68 true,Zg 78 (.pick (Zt 68) (Zt 77) (Zy false)) 65 false,Zo 79 (.pick (Zt 65) (Zy true) (Zt 78))] []) (.cond (Zt 79) (Zs [Zo 2 (.mv (Zy false))] .ret) .skip)))) (.reg [Zd 80 .add 30 1,Zm 30 80] []))))
def Sg:ar:=(Zs [Za 81 0 1,Zl 82 81,Zk 83 82,Zo 84 (.call 76 [(Zt 83),(.c (.i 2)),(.c (.i 8))]),Zm 85 84,Zg 86 (.fad 1 (Zt 1)) 85 true,Zg 87 (.load 1 false (Zt 86)) 85 true,Zg 88 (.len (Zt 87)) 85 true,Zg 89 (.bin .leq (Zt 88) (.c (.i 14))) 85 true,Zo 90 (.pick (Zt 85) (Zt 89) (Zy false)),Zm 2 90] .ret)
def So:ar:=(.seqa (.reg [Za 27 1 1,Zl 28 27,Zk 29 28,Zn 30 0] []) (.blk 2 (.loop Gy)) [1] [1] Sg)
def A81:ar:=(Zs [Zo 1 (.box 2 (Zt 0)),Zo 2 (.mv (Zy false))] (.seqa (.reg [Za 7 0 1,Zl 8 7,Zk 9 8,Zn 10 0] []) (.blk 0 (.loop Kz)) [1] [1] So))
theorem m81:bf Tryz.prog 81 1 A81 V10=true:=by kernel_rfl
def A215:ar:=(Zs [Zo 2 (.box 4 (Zt 0)),Zn 4 0] (.seq (Zs [Zm 5 1] (.blk 0 (Zs [Za 7 0 2,Zl 8 7,Zb 9 .eql 5 8,Zm 6 9] (.cond (Zt 6) (Zs [Za 10 1 2,Zl 11 10,Zm 4 11] .ret) (Zs [Za 13 1 2,Zl 14 13,Zb 15 .eql 5 14,Zm 12 15] (.cond (Zt 12) (Zs [Za 16 0 2,Zl 17 16,Zm 4 17] .ret) .skip)))))) (Zs [Zn 4 (-1)] .ret)))
theorem m215:bf Tryz.prog 215 2 A215 aC=true:=by kernel_rfl
def xb:ar:=(Zs [Zb 9 .lss 8 7] (.seq (.cond (Zt 9) .skip (.exit 0)) (.seq (.blk 1 (Zs [Zm 10 8,Zm 5 10] (Zs [Zm 11 1,Zm 12 0,Zm 13 5,Zx 14 1 12 13,Zl 15 14,Zb 16 .eql 11 15] (.cond (Zt 16) (Zs [Zm 17 5,Zm 4 17] .ret) .skip)))) (.reg [Zd 18 .add 8 1,Zm 8 18] []))))
def MF:ar:=(Zs [Zn 4 (-1)] .ret)
def A139:ar:=(Zs [Zn 4 0] (.seqa (.reg [Zm 6 0,Zk 7 6,Zn 8 0] []) (.blk 0 (.loop xb)) [] [] MF))
theorem m139:bf Tryz.prog 139 2 A139 aC=true:=by kernel_rfl
def A68:ar:=(Zs [Zo 4 (.mv (Zy false))] (Zs [Zm 5 0,Zm 6 1,Zo 7 (.call 139 [(Zt 5),(Zt 6)]),Zd 8 .geq 7 0,Zm 4 8] .ret))
theorem m68:bf Tryz.prog 68 2 A68 aC=true:=by kernel_rfl
def Gf:ar:=(.cond (Zt 23) (.seq (.reg [Zo 4 (.mv (.c (.lst .u 1 []))),Zo 5 (.mv (Zy false))] [.s 4]) .ret) .skip)
def KB:ar:=(.cond (Zt 56) (.seq (.reg [Zo 4 (.mv (.c (.lst .u 1 []))),Zo 5 (.mv (Zy false))] [.s 4]) .ret) .skip)
def wC:ar:=(Zs [Zb 33 .lss 32 31] (.seq (.cond (Zt 33) .skip (.exit 0)) (.seq (.blk 1 (Zs [Zx 34 1 30 32,Zl 35 34,Zm 9 35] (.seq (Zs [Zm 36 9,Za 37 1 2,Zl 38 37,Zk 39 38,Zd 40 .sub 39 1,Zo 41 (.call 76 [(Zt 36),(.c (.i 0)),(Zt 40)]),Zo 42 (.un .not (Zt 41))] (.cond (Zt 42) (.seq (.reg [Zo 4 (.mv (.c (.lst .u 1 []))),Zo 5 (.mv (Zy false))] [.s 4]) .ret) .skip)) (Zs [Za 43 1 2,Zl 44 43,Zm 45 9,Zx 46 4 44 45,Zv 47 4 46,Zm 48 7,Zo 49 (.call 215 [(Zt 47),(Zt 48)]),Zm 7 49] (.seq (.seqr (.reg [Zm 50 7,Zd 51 .lss 50 0,Zm 52 51,Zg 53 (.mv (Zt 6)) 52 false,Zg 54 (.mv (Zt 7)) 52 false,Zg 55 (.call 68 [(Zt 53),(Zt 54)]) 52 false,Zo 56 (.pick (Zt 52) (Zy true) (Zt 55))] []) [2,6,7,30,31,32,56] [2,6] KB) (.reg [Zm 57 6,Zm 58 7,Zo 59 (.bsl 1 false [(Zt 58)]),Zo 60 (.app 1 8 true (Zt 57) (Zt 59)),Zm 6 60] [.s 6])))))) (.reg [Zd 61 .add 32 1,Zm 32 61] []))))
def Lu:ar:=(.seq (.reg [Zm 62 6,Zm 4 62,Zo 5 (.mv (Zy true))] [.s 4]) .ret)
def A168:ar:=(.seq (.reg [Zo 2 (.box 2 (Zt 0)),Zo 3 (.box 2 (Zt 1)),Zo 4 (.mv (.c (.lst .u 1 []))),Zo 5 (.mv (Zy false))] [.s 4]) (.seq (.seqr (.reg [Za 10 0 3,Zl 11 10,Za 12 0 2,Zl 13 12,Zk 14 13,Zd 15 .sub 14 1,Zo 16 (.call 76 [(Zt 11),(.c (.i 0)),(Zt 15)]),Zo 17 (.un .not (Zt 16)),Zm 18 17,Zg 19 (.fad 1 (Zt 3)) 18 false,Zg 20 (.load 1 false (Zt 19)) 18 false,Zg 21 (.len (Zt 20)) 18 false,Zg 22 (.bin .eql (Zt 21) (.c (.i 0))) 18 false,Zo 23 (.pick (Zt 18) (Zy true) (Zt 22))] []) [2,3,23] [2,3] Gf) (.seq (.drw [Za 24 0 3,Zl 25 24,Zo 26 (.bsl 1 true [(Zt 25)]),Za 27 0 3,Zl 28 27,Zm 6 26,Zm 7 28] [.s 6]) (.seqa (.reg [Za 29 1 3,Zl 30 29,Zk 31 30,Zn 32 0] []) (.blk 0 (.loop wC)) [6] [6] Lu))))
theorem m168:bf Tryz.prog 168 2 A168 gf=true:=by kernel_rfl
def A169:ar:=(Zs [Zo 1 (.box 2 (Zt 0)),Zo 2 (.mv (Zy false))] (Zs [Za 3 0 1,Zl 4 3,Zd 5 .geq 4 0,Zm 6 5,Zg 7 (.fad 1 (Zt 1)) 6 true,Zg 8 (.load 1 false (Zt 7)) 6 true,Zg 9 (.call 76 [(Zt 8),(.c (.i 1)),(.c (.i 24))]) 6 true,Zo 10 (.pick (Zt 6) (Zt 9) (Zy false)),Zm 11 10,Zg 12 (.fad 0 (Zt 1)) 11 true,Zg 13 (.load 1 false (Zt 12)) 11 true,Zg 14 (.fad 1 (Zt 1)) 11 true,Zg 15 (.load 1 false (Zt 14)) 11 true,Zg 16 (.bin .sub (.c (.i 24)) (Zt 15)) 11 true,Zg 17 (.bin .leq (Zt 13) (Zt 16)) 11 true,Zo 18 (.pick (Zt 11) (Zt 17) (Zy false)),Zm 2 18] .ret))
theorem m169:bf Tryz.prog 169 1 A169 V10=true:=by kernel_rfl
def Kw:ar:=(Zs [Zb 20 .lss 19 18] (.seq (.cond (Zt 20) .skip (.exit 2)) (.seq (.blk 3 (Zs [Zm 21 19,Zx 22 4 17 19,Zv 23 4 22,Zo 7 (.alloc (.agg [.i 0,.i 0,.i 0,.i 0])),Zm 6 21,Zw (.store 4 (Zt 7) (Zt 23))] (Zs [Za 24 3 7,Zl 25 24,Zm 26 4,Zb 27 .eql 25 26] (.cond (Zt 27) (.reg [Zm 28 5,Zm 29 6,Zo 30 (.bsl 1 false [(Zt 29)]),Zo 31 (.app 1 8 true (Zt 28) (Zt 30)),Zm 5 31] [.s 5]) .skip)))) (.reg [Zd 32 .add 19 1,Zm 19 32] []))))
def RM:ar:=(Zs [Zm 33 5,Zk 34 33,Zd 35 .gtr 34 0] (.cond (Zt 35) (.reg [Zm 36 3,Zm 37 5,Zo 38 (.bsl 1 false [(Zt 37)]),Zo 39 (.app 1 24 true (Zt 36) (Zt 38)),Zm 3 39] [.s 3]) .skip))
def IC:ar:=(.seq (Zs [Zm 11 4,Zd 12 .leq 11 9] (.cond (Zt 12) .skip (.exit 0))) (.seq (.blk 1 (.seq (.reg [Zo 15 (.bsl 1 false []),Zm 5 15] [.s 5]) (.seqa (.reg [Za 16 1 1,Zl 17 16,Zk 18 17,Zn 19 0] []) (.blk 2 (.loop Kw)) [1,3,4,5] [1,3,5] RM))) (.reg [Zm 13 4,Zd 14 .add 13 1,Zm 4 14] [])))
def Lj:ar:=(Zs [Zb 44 .lss 43 42] (.seq (.cond (Zt 44) .skip (.exit 4)) (.seq (.blk 5 (Zs [Zm 45 43,Zx 46 4 41 43,Zv 47 4 46,Zo 9 (.alloc (.agg [.i 0,.i 0,.i 0,.i 0])),Zm 8 45,Zw (.store 4 (Zt 9) (Zt 47))] (Zs [Za 48 3 9,Zl 49 48,Zd 50 .eql 49 0] (.cond (Zt 50) (.reg [Zm 51 3,Zm 52 8,Zo 53 (.bsl 1 false [(Zt 52)]),Zo 54 (.bsl 1 false [(Zt 53)]),Zo 55 (.app 1 24 true (Zt 51) (Zt 54)),Zm 3 55] [.s 3]) .skip)))) (.reg [Zd 56 .add 43 1,Zm 43 56] []))))
def Se:ar:=(.seq (.reg [Zm 57 3,Zm 2 57] [.s 2]) .ret)
def Rv:ar:=(.seqa (.reg [Za 40 1 1,Zl 41 40,Zk 42 41,Zn 43 0] []) (.blk 4 (.loop Lj)) [3] [3] Se)
def A78:ar:=(.seq (.reg [Zo 1 (.box 2 (Zt 0)),Zo 2 (.mv (.c (.lst .u 1 [])))] [.s 2]) (.seq (.reg [Zo 10 (.bsl 1 false []),Zm 3 10] [.s 3]) (.seqa (.reg [Zn 4 1] []) (.blk 0 (.loop IC)) [1,3] [1,3] Rv)))
theorem m78:bf Tryz.prog 78 1 A78 V10=true:=by kernel_rfl
def A248:ar:=(Zs [Zo 3 (.mv (Zy false))] (Zs [Zm 4 0,Zl 5 1,Zo 6 (.call 68 [(Zt 4),(Zt 5)]),Zm 3 6] .ret))
def sH:List RV:=[.t 3]
theorem m248:bf Tryz.prog 248 2 A248 sH=true:=by kernel_rfl
def xe:ar:=(Zs [Zb 9 .lss 8 7] (.seq (.cond (Zt 9) .skip (.exit 0)) (.seq (.blk 1 (Zs [Zm 10 8,Zm 5 10] (Zs [Zm 11 1,Zm 12 0,Zm 13 5,Zx 14 1 12 13,Zl 15 14,Zo 16 (.dyn (Zt 11) [(Zt 15)])] (.cond (Zt 16) (Zs [Zm 17 5,Zm 4 17] .ret) .skip)))) (.reg [Zd 18 .add 8 1,Zm 8 18] []))))
def MH:ar:=(Zs [Zn 4 (-1)] .ret)
def A247:ar:=(Zs [Zn 4 0] (.seqa (.reg [Zm 6 0,Zk 7 6,Zn 8 0] []) (.blk 0 (.loop xe)) [] [] MH))
theorem m247:bf Tryz.prog 247 2 A247 aC=true:=by kernel_rfl
def A230:ar:=(Zs [Zo 2 (.box 2 (Zt 0)),Zo 3 (.box 1 (Zt 1)),Zn 4 0] (Zs [Zv 5 2 2,Zo 6 (.call 78 [(Zt 5)]),Zo 7 (.mkf 248 [(Zt 3)]),Zo 8 (.call 247 [(Zt 6),(Zt 7)]),Zm 4 8] .ret))
theorem m230:bf Tryz.prog 230 2 A230 aC=true:=by kernel_rfl
def xD:ar:=(Zs [Zb 12 .lss 11 10] (.seq (.cond (Zt 12) .skip (.exit 0)) (.seq (.blk 1 (Zs [Zx 13 1 9 11,Zl 14 13,Zm 7 14] (.reg [Zm 15 5,Zv 16 2 2,Zm 17 7,Zo 18 (.call 230 [(Zt 16),(Zt 17)]),Zo 19 (.bsl 1 false [(Zt 18)]),Zo 20 (.app 1 8 true (Zt 15) (Zt 19)),Zm 5 20] [.s 5]))) (.reg [Zd 21 .add 11 1,Zm 11 21] []))))
def Gz:ar:=(.seq (.reg [Zm 22 5,Zm 4 22] [.s 4]) .ret)
def A202:ar:=(.seq (.reg [Zo 2 (.box 2 (Zt 0)),Zo 4 (.mv (.c (.lst .u 1 [])))] [.s 4]) (.seq (.reg [Zo 8 (.bsl 1 false []),Zm 5 8] [.s 5]) (.seqa (.reg [Zm 9 1,Zk 10 9,Zn 11 0] []) (.blk 0 (.loop xD)) [5] [5] Gz)))
theorem m202:bf Tryz.prog 202 2 A202 aC=true:=by kernel_rfl
def Jo:ar:=(Zs [Zm 19 2,Zm 20 0,Zo 21 (.conv .u8 (Zt 20)),Zo 22 (.stri (.c (.z ⟨#[0,1,2,2,3,3,3,3,4,4,4,4,4,4,4,4,5,5,5,5,5,5,5,5,5,5,5,5,5,5,5,5,6,6,6,6,6,6,6,6,6,6,6,6,6,6,6,6,6,6,6,6,6,6,6,6,6,6,6,6,6,6,6,6,7,7,7,7,7,7,7,7,7,7,7,7,7,7,7,7,7,7,7,7,7,7,7,7,7,7,7,7,7,7,7,7,7,7,7,7,7,7,7,7,7,7,7,7,7,7,7,7,7,7,7,7,7,7,7,7,7,7,7,7,7,7,7,7,8,8,8,8,8,8,8,8,8,8,8,8,8,8,8,8,8,8,8,8,8,8,8,8,8,8,8,8,8,8,8,8,8,8,8,8,8,8,8,8,8,8,8,8,8,8,8,8,8,8,8,8,8,8,8,8,8,8,8,8,8,8,8,8,8,8,8,8,8,8,8,8,8,8,8,8,8,8,8,8,8,8,8,8,8,8,8,8,8,8,8,8,8,8,8,8,8,8,8,8,8,8,8,8,8,8,8,8,8,8,8,8,8,8,8,8,8,8,8,8,8,8,8,8,8,8,8,8]⟩)) (Zt 21)),Zo 23 (.conv .i64 (Zt 22)),Zb 24 .add 19 23,Zm 2 24] .ret)
def IH:ar:=(.seqr (Zs [Zm 13 0,Zo 14 (.bin .geq (Zt 13) (.c (.sc (.int .u64 256))))] (.cond (Zt 14) (Zs [Zm 15 0,Zo 16 (.bin .shr (Zt 15) (.c (.sc (.int .u64 8)))),Zm 0 16] (.reg [Zm 17 2,Zd 18 .add 17 8,Zm 2 18] [])) .skip)) [0,2] [] Jo)
def Iz:ar:=(.seqr (Zs [Zm 7 0,Zo 8 (.bin .geq (Zt 7) (.c (.sc (.int .u64 65536))))] (.cond (Zt 8) (Zs [Zm 9 0,Zo 10 (.bin .shr (Zt 9) (.c (.sc (.int .u64 16)))),Zm 0 10] (.reg [Zm 11 2,Zd 12 .add 11 16,Zm 2 12] [])) .skip)) [0,2] [] IH)
def A259:ar:=(Zs [Zn 2 0] (.seqr (Zs [Zm 3 0,Zo 4 (.bin .geq (Zt 3) (.c (.sc (.int .u64 4294967296))))] (.cond (Zt 4) (Zs [Zm 5 0,Zo 6 (.bin .shr (Zt 5) (.c (.sc (.int .u64 32)))),Zm 0 6] (.reg [Zn 2 32] [])) .skip)) [0,2] [] Iz))
theorem m259:bf Tryz.prog 259 1 A259 V10=true:=by kernel_rfl
def A232:ar:=(Zs [Zn 2 0] (.seq (.cond (Zy false) (Zs [Zm 3 0,Zo 4 (.conv .u32 (Zt 3)),Zo 5 (.call 258 [(Zt 4)]),Zm 2 5] .ret) .skip) (Zs [Zm 6 0,Zo 7 (.call 259 [(Zt 6)]),Zm 2 7] .ret)))
theorem m232:bf Tryz.prog 232 1 A232 V10=true:=by kernel_rfl
def A255:ar:=(Zs [Zo 4 (.mv (Zy false))] (Zs [Zm 5 0,Zo 6 (.call 224 [(Zt 5)]),Zm 7 6,Zg 8 (.mv (Zt 1)) 7 true,Zg 9 (.call 224 [(Zt 8)]) 7 true,Zg 10 (.un .not (Zt 9)) 7 true,Zo 11 (.pick (Zt 7) (Zt 10) (Zy false)),Zm 12 11,Zg 13 (.mv (Zt 0)) 12 false,Zg 14 (.mv (Zt 1)) 12 false,Zg 15 (.bin .lss (Zt 13) (Zt 14)) 12 false,Zo 16 (.pick (Zt 12) (Zy true) (Zt 15)),Zm 4 16] .ret))
theorem m255:bf Tryz.prog 255 2 A255 aC=true:=by kernel_rfl
def vb:ar:=(.cond (Zt 30) .skip (.exit 2))
def oK:ar:=(.seq (.seqr (.drw [Zm 16 7,Zm 17 1,Zb 18 .gtr 16 17,Zm 19 18,Zg 20 (.mv (Zt 0)) 19 true,Zg 21 (.mv (Zt 7)) 19 true,Zg 22 (.idx 1 (Zt 20) (Zt 21)) 19 true,Zg 23 (.load 1 false (Zt 22)) 19 true,Zg 24 (.mv (Zt 0)) 19 true,Zg 25 (.mv (Zt 7)) 19 true,Zg 26 (.bin .sub (Zt 25) (.c (.i 1))) 19 true,Zg 27 (.idx 1 (Zt 24) (Zt 26)) 19 true,Zg 28 (.load 1 false (Zt 27)) 19 true,Zg 29 (.call 255 [(Zt 23),(Zt 28)]) 19 true,Zo 30 (.pick (Zt 19) (Zt 29) (Zy false))] []) [0,1,2,6,7,30] [1000000000] vb) (.seq (.blk 3 (.drw [Zm 33 0,Zm 34 7,Zm 35 0,Zm 36 7,Zd 37 .sub 36 1,Zm 38 0,Zm 39 7,Zd 40 .sub 39 1,Zx 41 1 38 40,Zl 42 41,Zm 43 0,Zm 44 7,Zx 45 1 43 44,Zl 46 45,Zx 47 1 33 34,Zw (.store 1 (Zt 47) (Zt 42)),Zx 48 1 35 37,Zw (.store 1 (Zt 48) (Zt 46))] [])) (.reg [Zm 31 7,Zd 32 .sub 31 1,Zm 7 32] [])))
def vy:ar:=(.reg [Zm 13 6,Zd 14 .add 13 1,Zm 6 14] [])
def pN:ar:=(.seq (Zs [Zm 10 6,Zm 11 2,Zb 12 .lss 10 11] (.cond (Zt 12) .skip (.exit 0))) (.seqr (.blk 1 (Zs [Zm 15 6,Zm 7 15] (.blk 2 (.loop oK)))) [0,1,2,6] [1000000000] vy))
def Lz:ar:=(Zs [Zm 8 1,Zd 9 .add 8 1,Zm 6 9] (.blk 0 (.loop pN)))
theorem Te:bf Tryz.prog 249 3 Lz ce=true:=by kernel_rfl
def pF:ar:=(.blk 1 (Zs [Zm 19 2,Zm 20 1,Zb 21 .sub 19 20,Zm 10 21] (.seq (Zs [Zm 22 10,Zd 23 .leq 22 12] (.cond (Zt 23) (Zs [Zm 24 0,Zm 25 1,Zm 26 2,Zo 27 (.callM 249 [(Zt 24),(Zt 25),(Zt 26)] [1000000000])] .ret) .skip)) (.seq (Zs [Zm 28 3,Zd 29 .eql 28 0] (.cond (Zt 29) (Zs [Zm 30 0,Zm 31 1,Zm 32 2,Zo 33 (.call 250 [(Zt 30),(Zt 31),(Zt 32)])] .ret) .skip)) (.seq (Zs [Zm 34 8,Zo 35 (.un .not (Zt 34))] (.cond (Zt 35) (Zs [Zm 36 0,Zm 37 1,Zm 38 2,Zo 39 (.call 251 [(Zt 36),(Zt 37),(Zt 38)])] (.reg [Zm 40 3,Zd 41 .sub 40 1,Zm 3 41] [])) .skip)) (Zs [Zm 43 0,Zm 44 1,Zm 45 2,Zo 46 (.call 252 [(Zt 43),(Zt 44),(Zt 45)]),Zm 42 46,Ze 47 42 0,Ze 48 42 1,Zm 11 47,Zm 12 48] (.seq (Zs [Zm 49 12,Zd 50 .eql 49 2] (.cond (Zt 50) (Zs [Zm 51 0,Zm 52 1,Zm 53 2,Zo 54 (.call 253 [(Zt 51),(Zt 52),(Zt 53)])] (Zs [Zm 55 2,Zd 56 .sub 55 1,Zm 57 11,Zm 58 1,Zb 59 .sub 57 58,Zb 60 .sub 56 59,Zm 11 60] (.reg [Zn 12 1] []))) .skip)) (.seq (Zs [Zm 61 8,Zm 62 61,Zg 63 (.mv (Zt 9)) 62 true,Zo 64 (.pick (Zt 62) (Zt 63) (Zy false)),Zm 65 64,Zg 66 (.mv (Zt 12)) 65 true,Zg 67 (.bin .eql (Zt 66) (.c (.i 1))) 65 true,Zo 68 (.pick (Zt 65) (Zt 67) (Zy false))] (.cond (Zt 68) (Zs [Zm 69 0,Zm 70 1,Zm 71 2,Zo 72 (.call 254 [(Zt 69),(Zt 70),(Zt 71)])] (.cond (Zt 72) .ret .skip)) .skip)) (.seq (.seq (.drw [Zm 73 1,Zd 74 .gtr 73 0,Zm 75 74,Zg 76 (.mv (Zt 0)) 75 true,Zg 77 (.mv (Zt 1)) 75 true,Zg 78 (.bin .sub (Zt 77) (.c (.i 1))) 75 true,Zg 79 (.idx 1 (Zt 76) (Zt 78)) 75 true,Zg 80 (.load 1 false (Zt 79)) 75 true,Zg 81 (.mv (Zt 0)) 75 true,Zg 82 (.mv (Zt 11)) 75 true,Zg 83 (.idx 1 (Zt 81) (Zt 82)) 75 true,Zg 84 (.load 1 false (Zt 83)) 75 true,Zg 85 (.call 255 [(Zt 80),(Zt 84)]) 75 true,Zg 86 (.un .not (Zt 85)) 75 true,Zo 87 (.pick (Zt 75) (Zt 86) (Zy false))] []) (.cond (Zt 87) (Zs [Zm 88 0,Zm 89 1,Zm 90 2,Zm 91 11,Zo 92 (.call 256 [(Zt 88),(Zt 89),(Zt 90),(Zt 91)]),Zm 13 92] (Zs [Zm 93 13,Zm 1 93] (.exit 1))) .skip)) (Zs [Zm 95 0,Zm 96 1,Zm 97 2,Zm 98 11,Zo 99 (.call 257 [(Zt 95),(Zt 96),(Zt 97),(Zt 98)]),Zm 94 99,Ze 100 94 0,Ze 101 94 1,Zm 14 100,Zm 15 101] (Zs [Zm 102 15,Zm 9 102] (Zs [Zm 103 14,Zm 104 1,Zb 105 .sub 103 104,Zm 106 2,Zm 107 14,Zb 108 .sub 106 107,Zm 16 105,Zm 17 108] (Zs [Zm 109 10,Zd 110 .quo 109 8,Zm 18 110] (Zs [Zm 111 16,Zm 112 17,Zb 113 .lss 111 112] (.cond (Zt 113) (Zs [Zm 114 16,Zm 115 18,Zb 116 .geq 114 115,Zm 8 116] (Zs [Zm 117 0,Zm 118 1,Zm 119 14,Zm 120 3,Zo 121 (.call 231 [(Zt 117),(Zt 118),(Zt 119),(Zt 120)])] (.reg [Zm 122 14,Zd 123 .add 122 1,Zm 1 123] []))) (Zs [Zm 124 17,Zm 125 18,Zb 126 .geq 124 125,Zm 8 126] (Zs [Zm 127 0,Zm 128 14,Zd 129 .add 128 1,Zm 130 2,Zm 131 3,Zo 132 (.call 231 [(Zt 127),(Zt 129),(Zt 130),(Zt 131)])] (.reg [Zm 133 14,Zm 2 133] []))))))))))))))))))
def MR:ar:=(Zs [Zo 8 (.mv (Zy true))] (Zs [Zo 9 (.mv (Zy true))] (.blk 0 (.loop pF))))
theorem Td:bf Tryz.prog 231 4 MR ce=true:=by kernel_rfl
def JI:ar:=(Zs [Zm 3 0,Zk 4 3,Zm 2 4] (.reg [Zm 5 0,Zm 6 2,Zm 7 2,Zo 8 (.conv .u64 (Zt 7)),Zo 9 (.call 232 [(Zt 8)]),Zo 10 (.callM 231 [(Zt 5),(.c (.i 0)),(Zt 6),(Zt 9)] [1000000000])] []))
theorem TR:bf Tryz.prog 203 1 JI ce=true:=by kernel_rfl
def qr:ar:=(.seq (Zs [Zm 29 5,Zm 30 4,Zk 31 30,Zb 32 .lss 29 31] (.cond (Zt 32) .skip (.exit 2))) (.seq (.blk 3 (.seq (.drw [Zm 35 4,Zm 36 5,Zx 37 1 35 36,Zl 38 37,Zm 39 4,Zm 40 5,Zd 41 .sub 40 1,Zx 42 1 39 41,Zl 43 42,Zb 44 .neq 38 43] []) (.cond (Zt 44) (Zs [Zm 45 0,Zm 46 3,Zm 47 4,Zm 48 5,Zx 49 1 47 48,Zl 50 49,Zx 51 1 45 46,Zw (.store 1 (Zt 51) (Zt 50))] (.reg [Zm 52 3,Zd 53 .add 52 1,Zm 3 53] [])) .skip))) (.reg [Zm 33 5,Zd 34 .add 33 1,Zm 5 34] [])))
def uz:ar:=(Zs [Zm 54 0,Zm 55 3,Zo 56 (.slc 1 (Zt 54) (some (Zt 55)) none none),Zw (.clr 1 (.i 0) (Zt 56))] (.seq (.reg [Zm 57 0,Zm 58 3,Zo 59 (.slc 1 (Zt 57) none (some (Zt 58)) none),Zm 2 59] [.s 2]) .ret))
def pw:ar:=(.seq (Zs [Zm 10 3,Zm 11 0,Zk 12 11,Zb 13 .lss 10 12] (.cond (Zt 13) .skip (.exit 0))) (.seq (.blk 1 (.seq (.drw [Zm 16 0,Zm 17 3,Zx 18 1 16 17,Zl 19 18,Zm 20 0,Zm 21 3,Zd 22 .sub 21 1,Zx 23 1 20 22,Zl 24 23,Zb 25 .eql 19 24] []) (.cond (Zt 25) (.seq (.reg [Zm 26 0,Zm 27 3,Zo 28 (.slc 1 (Zt 26) (some (Zt 27)) none none),Zm 4 28] [.s 4]) (.seqa (.reg [Zn 5 1] []) (.blk 2 (.loop qr)) [0,3] [1000000000] uz)) .skip))) (.reg [Zm 14 3,Zd 15 .add 14 1,Zm 3 15] [])))
def tP:ar:=(.seq (.reg [Zm 60 0,Zm 2 60] [.s 2]) .ret)
def La:ar:=(.seq (.reg [Zo 2 (.mv (.c (.lst .u 1 [])))] [.s 2]) (.seq (Zs [Zm 6 0,Zk 7 6,Zd 8 .lss 7 2] (.cond (Zt 8) (.seq (.reg [Zm 9 0,Zm 2 9] [.s 2]) .ret) .skip)) (.seqa (.reg [Zn 3 1] []) (.blk 0 (.loop pw)) [0] [1000000000] tP)))
theorem Tb:bf Tryz.prog 204 1 La V10=true:=by kernel_rfl
def yn:ar:=(Zs [Zb 12 .lss 11 10] (.seq (.cond (Zt 12) .skip (.exit 0)) (.seq (.blk 1 (Zs [Zx 13 1 9 11,Zl 14 13,Zm 7 14] (Zs [Zm 15 1,Zm 16 7,Zo 17 (.call 68 [(Zt 15),(Zt 16)])] (.cond (Zt 17) (.reg [Zm 18 5,Zm 19 7,Zo 20 (.bsl 1 false [(Zt 19)]),Zo 21 (.app 1 8 true (Zt 18) (Zt 20)),Zm 5 21] [.s 5]) .skip)))) (.reg [Zd 22 .add 11 1,Zm 11 22] []))))
def LV:ar:=(Zs [Zm 23 5,Zo 24 (.callM 203 [(Zt 23)] [5])] (.seq (.reg [Zm 25 5,Zo 26 (.callM 204 [(Zt 25)] [5]),Zm 4 26] [.s 4]) .ret))
def A140:ar:=(.seq (.reg [Zo 4 (.mv (.c (.lst .u 1 [])))] [.s 4]) (.seq (.reg [Zo 8 (.bsl 1 false []),Zm 5 8] [.s 5]) (.seqa (.reg [Zm 9 0,Zk 10 9,Zn 11 0] []) (.blk 0 (.loop yn)) [5] [5] LV)))
theorem m140:bf Tryz.prog 140 2 A140 aC=true:=by kernel_rfl
def A136:ar:=(Zs [Zo 3 (.box 2 (Zt 0)),Zo 6 (.mv (Zy false))] (.seq (.drw [Zv 7 2 3,Zm 8 1,Zo 9 (.call 202 [(Zt 7),(Zt 8)]),Zv 10 2 3,Zm 11 2,Zo 12 (.call 202 [(Zt 10),(Zt 11)]),Zo 13 (.call 140 [(Zt 9),(Zt 12)]),Zk 14 13,Zd 15 .eql 14 0,Zm 6 15] []) .ret))
theorem m136:bf Tryz.prog 136 3 A136 cx=true:=by kernel_rfl
def RL:ar:=(.cond (Zt 35) (Zs [Zo 4 (.mv (Zy false))] .ret) .skip)
def RG:ar:=.ret
def A94:ar:=(Zs [Zo 2 (.box 2 (Zt 0)),Zo 3 (.box 10 (Zt 1)),Zo 4 (.mv (Zy false))] (.seq (.reg [Zv 10 2 2,Za 11 2 3,Zv 12 2 11,Zo 13 (.call 168 [(Zt 10),(Zt 12)]),Zm 9 13,Ze 14 9 0,Ze 15 9 1,Zm 5 14,Zm 6 15] [.s 5]) (.seq (.seqr (.reg [Za 16 0 3,Zl 17 16,Zo 18 (.call 76 [(Zt 17),(.c (.i 1)),(.c (.i 999))]),Zo 19 (.un .not (Zt 18)),Zm 20 19,Zg 21 (.fad 1 (Zt 3)) 20 false,Zg 22 (.load 1 false (Zt 21)) 20 false,Zg 23 (.call 76 [(Zt 22),(.c (.i 0)),(.c (.i 2))]) 20 false,Zg 24 (.un .not (Zt 23)) 20 false,Zo 25 (.pick (Zt 20) (Zy true) (Zt 24)),Zm 26 25,Zg 27 (.mv (Zt 6)) 26 false,Zg 28 (.un .not (Zt 27)) 26 false,Zo 29 (.pick (Zt 26) (Zy true) (Zt 28)),Zm 30 29,Zg 31 (.fad 4 (Zt 3)) 30 false,Zg 32 (.load 2 true (Zt 31)) 30 false,Zg 33 (.call 169 [(Zt 32)]) 30 false,Zg 34 (.un .not (Zt 33)) 30 false,Zo 35 (.pick (Zt 30) (Zy true) (Zt 34))] []) [2,3,5,35] [2,3,5] RL) (.seq (Zs [Za 36 1 3,Zl 37 36,Zd 38 .eql 37 0] (.cond (Zt 38) (.seqr (.reg [Za 39 6 3,Za 40 0 39,Zl 41 40,Zd 42 .eql 41 0,Zm 43 42,Zg 44 (.fad 6 (Zt 3)) 43 true,Zg 45 (.fad 1 (Zt 44)) 43 true,Zg 46 (.load 1 false (Zt 45)) 43 true,Zg 47 (.len (Zt 46)) 43 true,Zg 48 (.bin .eql (Zt 47) (.c (.i 0))) 43 true,Zo 49 (.pick (Zt 43) (Zt 48) (Zy false)),Zm 50 49,Zg 51 (.fad 8 (Zt 3)) 50 true,Zg 52 (.load 2 true (Zt 51)) 50 true,Zg 53 (.build [.i 0,.i 0] []) 50 true,Zg 54 (.aeq false (Zt 52) (Zt 53)) 50 true,Zo 55 (.pick (Zt 50) (Zt 54) (Zy false)),Zm 4 55] []) [4] [] RG) .skip)) (.seq (.reg [Zv 57 2 2,Za 58 6 3,Zv 59 2 58,Zo 60 (.call 168 [(Zt 57),(Zt 59)]),Zm 56 60,Ze 61 56 0,Ze 62 56 1,Zm 7 61,Zm 8 62] [.s 7]) (.seq (.drw [Zm 63 8,Zm 64 63,Zg 65 (.fad 8 (Zt 3)) 64 true,Zg 66 (.load 2 true (Zt 65)) 64 true,Zg 67 (.call 169 [(Zt 66)]) 64 true,Zo 68 (.pick (Zt 64) (Zt 67) (Zy false)),Zm 69 68,Zg 70 (.mv (Zt 7)) 69 true,Zg 71 (.idx 1 (Zt 70) (.c (.i 0))) 69 true,Zg 72 (.load 1 false (Zt 71)) 69 true,Zg 73 (.mv (Zt 5)) 69 true,Zg 74 (.idx 1 (Zt 73) (.c (.i 0))) 69 true,Zg 75 (.load 1 false (Zt 74)) 69 true,Zg 76 (.bin .eql (Zt 72) (Zt 75)) 69 true,Zo 77 (.pick (Zt 69) (Zt 76) (Zy false)),Zm 78 77,Zg 79 (.mv (Zt 7)) 78 true,Zg 80 (.mv (Zt 7)) 78 true,Zg 81 (.len (Zt 80)) 78 true,Zg 82 (.bin .sub (Zt 81) (.c (.i 1))) 78 true,Zg 83 (.idx 1 (Zt 79) (Zt 82)) 78 true,Zg 84 (.load 1 false (Zt 83)) 78 true,Zg 85 (.mv (Zt 5)) 78 true,Zg 86 (.mv (Zt 5)) 78 true,Zg 87 (.len (Zt 86)) 78 true,Zg 88 (.bin .sub (Zt 87) (.c (.i 1))) 78 true,Zg 89 (.idx 1 (Zt 85) (Zt 88)) 78 true,Zg 90 (.load 1 false (Zt 89)) 78 true,Zg 91 (.bin .eql (Zt 84) (Zt 90)) 78 true,Zo 92 (.pick (Zt 78) (Zt 91) (Zy false)),Zm 93 92,Zg 94 (.load 2 true (Zt 2)) 93 true,Zg 95 (.fad 2 (Zt 3)) 93 true,Zg 96 (.fad 1 (Zt 95)) 93 true,Zg 97 (.load 1 false (Zt 96)) 93 true,Zg 98 (.fad 6 (Zt 3)) 93 true,Zg 99 (.fad 1 (Zt 98)) 93 true,Zg 100 (.load 1 false (Zt 99)) 93 true,Zg 101 (.call 136 [(Zt 94),(Zt 97),(Zt 100)]) 93 true,Zo 102 (.pick (Zt 93) (Zt 101) (Zy false)),Zm 4 102] []) .ret))))))
theorem m94:bf Tryz.prog 94 2 A94 aC=true:=by kernel_rfl
def A69:ar:=(Zs [Zo 1 (.box 2 (Zt 0)),Zn 2 0] (.seq (.drw [Za 3 1 1,Zl 4 3,Zo 5 (.bin .shl (.c (.i 1)) (Zt 4)),Zd 6 .sub 5 1,Za 7 0 1,Zl 8 7,Zb 9 .shl 6 8,Zm 2 9] []) .ret))
theorem m69:bf Tryz.prog 69 1 A69 V10=true:=by kernel_rfl
def A205:ar:=(Zs [Zo 2 (.box 5 (Zt 0)),Zo 3 (.box 5 (Zt 1)),Zo 4 (.mv (Zy false))] (.seq (.drw [Za 5 3 2,Zv 6 2 5,Zo 7 (.call 69 [(Zt 6)]),Za 8 3 3,Zv 9 2 8,Zo 10 (.call 69 [(Zt 9)]),Zb 11 .and 7 10,Zd 12 .neq 11 0,Zm 13 12,Zg 14 (.fad 1 (Zt 2)) 13 true,Zg 15 (.fad 1 (Zt 14)) 13 true,Zg 16 (.load 1 false (Zt 15)) 13 true,Zg 17 (.fad 1 (Zt 3)) 13 true,Zg 18 (.fad 1 (Zt 17)) 13 true,Zg 19 (.load 1 false (Zt 18)) 13 true,Zg 20 (.call 140 [(Zt 16),(Zt 19)]) 13 true,Zg 21 (.len (Zt 20)) 13 true,Zg 22 (.bin .gtr (Zt 21) (.c (.i 0))) 13 true,Zo 23 (.pick (Zt 13) (Zt 22) (Zy false)),Zm 4 23] []) .ret))
theorem m205:bf Tryz.prog 205 2 A205 aC=true:=by kernel_rfl
def A142:ar:=(Zs [Zo 4 (.box 2 (Zt 0)),Zo 5 (.box 2 (Zt 1)),Zo 6 (.box 2 (Zt 2)),Zo 7 (.box 2 (Zt 3)),Zo 8 (.mv (Zy false))] (Zs [Zv 9 2 4,Zv 10 2 5,Zo 11 (.build [.i 0,.i 0,.lst .u 1 [],.i 0,.i 0] [(1,2,(Zt 9)),(3,2,(Zt 10))]),Zv 12 2 6,Zv 13 2 7,Zo 14 (.build [.i 0,.i 0,.lst .u 1 [],.i 0,.i 0] [(1,2,(Zt 12)),(3,2,(Zt 13))]),Zo 15 (.call 205 [(Zt 11),(Zt 14)]),Zm 8 15] .ret))
theorem m142:bf Tryz.prog 142 4 A142 DR=true:=by kernel_rfl
def RK:ar:=(.cond (Zt 38) (Zs [Zo 6 (.mv (Zy false))] .ret) .skip)
def Sk:ar:=(Zs [Zm 57 7,Zm 58 57,Zg 59 (.fad 6 (Zt 4)) 58 false,Zg 60 (.load 2 true (Zt 59)) 58 false,Zg 61 (.fad 8 (Zt 4)) 58 false,Zg 62 (.load 2 true (Zt 61)) 58 false,Zg 63 (.fad 6 (Zt 5)) 58 false,Zg 64 (.load 2 true (Zt 63)) 58 false,Zg 65 (.fad 8 (Zt 5)) 58 false,Zg 66 (.load 2 true (Zt 65)) 58 false,Zg 67 (.call 142 [(Zt 60),(Zt 62),(Zt 64),(Zt 66)]) 58 false,Zg 68 (.un .not (Zt 67)) 58 false,Zo 69 (.pick (Zt 58) (Zy true) (Zt 68)),Zm 6 69] .ret)
def A97:ar:=(Zs [Zo 3 (.box 2 (Zt 0)),Zo 4 (.box 10 (Zt 1)),Zo 5 (.box 10 (Zt 2)),Zo 6 (.mv (Zy false))] (.seq (.seqr (.reg [Za 8 2 4,Zv 9 2 8,Za 10 4 4,Zv 11 2 10,Za 12 2 5,Zv 13 2 12,Za 14 4 5,Zv 15 2 14,Zo 16 (.call 142 [(Zt 9),(Zt 11),(Zt 13),(Zt 15)]),Zm 17 16,Zg 18 (.fad 2 (Zt 4)) 17 false,Zg 19 (.load 2 true (Zt 18)) 17 false,Zg 20 (.fad 4 (Zt 4)) 17 false,Zg 21 (.load 2 true (Zt 20)) 17 false,Zg 22 (.fad 6 (Zt 5)) 17 false,Zg 23 (.load 2 true (Zt 22)) 17 false,Zg 24 (.fad 8 (Zt 5)) 17 false,Zg 25 (.load 2 true (Zt 24)) 17 false,Zg 26 (.call 142 [(Zt 19),(Zt 21),(Zt 23),(Zt 25)]) 17 false,Zo 27 (.pick (Zt 17) (Zy true) (Zt 26)),Zm 28 27,Zg 29 (.fad 6 (Zt 4)) 28 false,Zg 30 (.load 2 true (Zt 29)) 28 false,Zg 31 (.fad 8 (Zt 4)) 28 false,Zg 32 (.load 2 true (Zt 31)) 28 false,Zg 33 (.fad 2 (Zt 5)) 28 false,Zg 34 (.load 2 true (Zt 33)) 28 false,Zg 35 (.fad 4 (Zt 5)) 28 false,Zg 36 (.load 2 true (Zt 35)) 28 false,Zg 37 (.call 142 [(Zt 30),(Zt 32),(Zt 34),(Zt 36)]) 28 false,Zo 38 (.pick (Zt 28) (Zy true) (Zt 37))] []) [3,4,5,38] [3,4,5] RK) (.seqr (.reg [Za 39 1 4,Zl 40 39,Zd 41 .eql 40 2,Zm 42 41,Zg 43 (.fad 1 (Zt 5)) 42 true,Zg 44 (.load 1 false (Zt 43)) 42 true,Zg 45 (.bin .eql (Zt 44) (.c (.i 2))) 42 true,Zo 46 (.pick (Zt 42) (Zt 45) (Zy false)),Zm 47 46,Zg 48 (.load 2 true (Zt 3)) 47 true,Zg 49 (.fad 2 (Zt 4)) 47 true,Zg 50 (.fad 1 (Zt 49)) 47 true,Zg 51 (.load 1 false (Zt 50)) 47 true,Zg 52 (.fad 2 (Zt 5)) 47 true,Zg 53 (.fad 1 (Zt 52)) 47 true,Zg 54 (.load 1 false (Zt 53)) 47 true,Zg 55 (.call 136 [(Zt 48),(Zt 51),(Zt 54)]) 47 true,Zo 56 (.pick (Zt 47) (Zt 55) (Zy false)),Zm 7 56] []) [4,5,7] [4,5] Sk)))
theorem m97:bf Tryz.prog 97 3 A97 cx=true:=by kernel_rfl
def RZ:ar:=(.cond (Zt 22) (Zs [Zo 6 (.mv (Zy false)),Zo 7 (.mv (Zy false))] .ret) .skip)
def A58:ar:=(Zs [Zo 3 (.box 2 (Zt 0)),Zo 4 (.box 10 (Zt 1)),Zo 5 (.box 10 (Zt 2)),Zo 6 (.mv (Zy false)),Zo 7 (.mv (Zy false))] (.seq (.seqr (.reg [Zv 8 2 3,Zo 9 (.call 81 [(Zt 8)]),Zo 10 (.un .not (Zt 9)),Zm 11 10,Zg 12 (.load 2 true (Zt 3)) 11 false,Zg 13 (.load 10 true (Zt 4)) 11 false,Zg 14 (.call 94 [(Zt 12),(Zt 13)]) 11 false,Zg 15 (.un .not (Zt 14)) 11 false,Zo 16 (.pick (Zt 11) (Zy true) (Zt 15)),Zm 17 16,Zg 18 (.load 2 true (Zt 3)) 17 false,Zg 19 (.load 10 true (Zt 5)) 17 false,Zg 20 (.call 94 [(Zt 18),(Zt 19)]) 17 false,Zg 21 (.un .not (Zt 20)) 17 false,Zo 22 (.pick (Zt 17) (Zy true) (Zt 21))] []) [3,4,5,22] [3,4,5] RZ) (Zs [Zv 23 2 3,Zv 24 10 4,Zv 25 10 5,Zo 26 (.call 97 [(Zt 23),(Zt 24),(Zt 25)]),Zm 6 26,Zo 7 (.mv (Zy true))] .ret)))
theorem m58:bf Tryz.prog 58 3 A58 eB=true:=by kernel_rfl
def Rm:ar:=(.cond (Zt 22) (Zs [Zo 6 (.mv (Zy false)),Zo 7 (.mv (Zy false))] .ret) .skip)
def A59:ar:=(Zs [Zo 3 (.box 2 (Zt 0)),Zo 4 (.box 10 (Zt 1)),Zo 5 (.box 10 (Zt 2)),Zo 6 (.mv (Zy false)),Zo 7 (.mv (Zy false))] (.seq (.seqr (.reg [Zv 8 2 3,Zo 9 (.call 131 [(Zt 8)]),Zo 10 (.un .not (Zt 9)),Zm 11 10,Zg 12 (.load 2 true (Zt 3)) 11 false,Zg 13 (.load 10 true (Zt 4)) 11 false,Zg 14 (.call 132 [(Zt 12),(Zt 13)]) 11 false,Zg 15 (.un .not (Zt 14)) 11 false,Zo 16 (.pick (Zt 11) (Zy true) (Zt 15)),Zm 17 16,Zg 18 (.load 2 true (Zt 3)) 17 false,Zg 19 (.load 10 true (Zt 5)) 17 false,Zg 20 (.call 132 [(Zt 18),(Zt 19)]) 17 false,Zg 21 (.un .not (Zt 20)) 17 false,Zo 22 (.pick (Zt 17) (Zy true) (Zt 21))] []) [3,4,5,22] [3,4,5] Rm) (Zs [Zv 23 2 3,Zv 24 10 4,Zv 25 10 5,Zo 26 (.call 133 [(Zt 23),(Zt 24),(Zt 25)]),Zm 6 26,Zo 7 (.mv (Zy true))] .ret)))
theorem m59:bf Tryz.prog 59 3 A59 eB=true:=by kernel_rfl
def sZ:ar:=(.cond (Zt 23) (.reg [Zm 24 3,Zo 25 (.slc 2 (Zt 24) (some (.c (.i 1))) none none),Zm 3 25] [.s 3]) .skip)
def sF:ar:=(.seq (Zs [Zm 53 3,Zk 54 53,Zm 55 0,Zo 56 (.callM 129 [(Zt 55),(.c (.i 2))] [1000000000]),Zo 57 (.bin .add (.c (.i 6)) (Zt 56)),Zb 58 .lss 54 57] (.cond (Zt 58) .skip (.exit 1))) (.seq (.blk 2 (.reg [Zm 61 3,Zm 62 6,Zo 63 (.bin .mul (.c (.i 10)) (Zt 62)),Zo 64 (.bin .sub (.c (.i 200)) (Zt 63)),Zm 65 6,Zo 66 (.bin .add (.c (.i 90)) (Zt 65)),Zo 67 (.build [.i 0,.i 0] [(0,1,(Zt 64)),(1,1,(Zt 66))]),Zo 68 (.bsl 2 false [(Zt 67)]),Zo 69 (.app 2 16 true (Zt 61) (Zt 68)),Zm 3 69] [.s 3])) (.reg [Zm 59 6,Zd 60 .add 59 1,Zm 6 60] [])))
def zV:ar:=(.seq (.reg [Zm 70 3,Zm 2 70] [.s 2]) .ret)
def zY:ar:=(Zs [Zm 71 3,Zm 72 4,Zv 73 2 5,Zx 74 2 71 72,Zw (.store 2 (Zt 74) (Zt 73))] (.seq (.reg [Zm 75 3,Zm 2 75] [.s 2]) .ret))
def Ay:ar:=(Zs [Zm 26 0,Zm 27 3,Zk 28 27,Zo 29 (.callM 129 [(Zt 26),(Zt 28)] [1000000000]),Zm 4 29] (Zs [Zm 30 3,Zm 31 4,Zx 32 2 30 31,Zv 33 2 32,Zo 5 (.alloc (.agg [.i 0,.i 0])),Zw (.store 2 (Zt 5) (Zt 33))] (.seqr (Zs [Zm 34 0,Zo 35 (.callM 129 [(Zt 34),(.c (.i 24))] [1000000000])] (.blk 0 (Zs [Zd 37 .eql 35 0,Zm 36 37] (.cond (Zt 36) (.reg [Zm 38 0,Zo 39 (.bsl 1 false [(.c (.i 0)),(.c (.i 20000)),(.c (.i 20001)),(.c (.i 250))]),Zo 40 (.callM 151 [(Zt 38),(Zt 39)] [1000000000,39]),Za 41 0 5,Zw (.store 1 (Zt 41) (Zt 40))] []) (Zs [Zd 43 .eql 35 1,Zm 42 43] (.cond (Zt 42) (.reg [Zm 44 0,Zo 45 (.bsl 1 false [(.c (.i 0)),(.c (.i 1000)),(.c (.i 1001)),(.c (.i 10))]),Zo 46 (.callM 151 [(Zt 44),(Zt 45)] [1000000000,45]),Za 47 1 5,Zw (.store 1 (Zt 47) (Zt 46))] []) (Zs [Zd 49 .eql 35 2,Zm 48 49] (.cond (Zt 48) (.seq (.reg [Zo 50 (.bsl 2 false []),Zm 2 50] [.s 2]) .ret) (Zs [Zd 52 .eql 35 3,Zm 51 52] (.cond (Zt 51) (.seqa (.reg [Zn 6 0] []) (.blk 1 (.loop sF)) [3] [3,1000000000] zV) .skip)))))))))) [3,4,5] [3,5,1000000000] zY)))
def Rt:ar:=(.seq (.reg [Zo 2 (.mv (.c (.lst .u 2 [])))] [.s 2]) (.seq (.reg [Zo 7 (.build [.i 0,.i 0] [(0,1,(.c (.i 3000))),(1,1,(.c (.i 10)))]),Zo 8 (.build [.i 0,.i 0] [(0,1,(.c (.i 1200))),(1,1,(.c (.i 20)))]),Zo 9 (.build [.i 0,.i 0] [(0,1,(.c (.i 600))),(1,1,(.c (.i 40)))]),Zo 10 (.build [.i 0,.i 0] [(0,1,(.c (.i 250))),(1,1,(.c (.i 80)))]),Zo 11 (.bsl 2 false [(Zt 7),(Zt 8),(Zt 9),(Zt 10)]),Zm 3 11] [.s 3]) (.seq (.reg [Zm 12 3,Zm 13 0,Zo 14 (.callM 129 [(Zt 13),(.c (.i 4))] [1000000000]),Zo 15 (.bin .add (.c (.i 1)) (Zt 14)),Zo 16 (.slc 2 (Zt 12) none (some (Zt 15)) none),Zm 3 16] [.s 3]) (.seqr (Zs [Zm 17 0,Zo 18 (.callM 130 [(Zt 17),(.c (.i 3))] [1000000000]),Zm 19 18,Zg 20 (.mv (Zt 3)) 19 true,Zg 21 (.len (Zt 20)) 19 true,Zg 22 (.bin .gtr (Zt 21) (.c (.i 1))) 19 true,Zo 23 (.pick (Zt 19) (Zt 22) (Zy false))] sZ) [0,3] [3,1000000000] Ay))))
theorem VL:bf Tryz.prog 83 1 Rt V10=true:=by kernel_rfl
def A134:ar:=(.seq (.reg [Zo 2 (.alloc (.agg [.lst .u 1 [],.lst .u 4 []])),Zo 3 (.mv (.c (.lst .u 2 []))),Zo 4 (.alloc (.agg [.i 0,.i 0,.i 0,.i 0]))] [.s 3]) (Zs [Zm 7 0,Zo 8 (.build [.lst .u 1 [],.i 0,.sc (.int .u64 0)] [(0,1,(Zt 7))]),Zo 9 (.box 3 (Zt 8)),Zm 5 9] (Zs [Zm 10 5,Zo 11 (.callM 154 [(Zt 10)] [9]),Zo 6 (.alloc (.agg [.lst .u 1 [],.lst .u 4 []])),Zw (.store 2 (Zt 6) (Zt 11))] (.seq (.drw [Zo 12 (.ldv [9,501200128,501200129] 2 true (Zt 6)),Zm 13 5,Zo 14 (.callM 83 [(Zt 13)] [9]),Zm 15 5,Zo 16 (.ldv [9,501200128,501200129] 2 true (Zt 6)),Zo 17 (.callM 84 [(Zt 15),(Zt 16)] [9,501200128,501200129]),Zw (.stv 2 (Zt 2) (Zt 12)),Zm 3 14,Zw (.store 4 (Zt 4) (Zt 17))] [.s 3]) .ret))))
def DF:List RV:=[.c 2 2 true,.t 3,.c 4 4 true]
theorem m134:bf Tryz.prog 134 1 A134 DF=true:=by kernel_rfl
def A60:ar:=(.seq (.reg [Zo 2 (.alloc (.agg [.lst .u 1 [],.lst .u 4 []])),Zo 3 (.mv (.c (.lst .u 2 []))),Zo 4 (.alloc (.agg [.i 0,.i 0,.i 0,.i 0]))] [.s 3]) (.seq (.reg [Zm 5 0,Zo 6 (.call 134 [(Zt 5)]),Ze 7 6 0,Ze 8 6 1,Ze 9 6 2,Zw (.store 2 (Zt 2) (Zt 7)),Zm 3 8,Zw (.store 4 (Zt 4) (Zt 9))] [.s 3]) .ret))
theorem m60:bf Tryz.prog 60 1 A60 DF=true:=by kernel_rfl
def yf:ar:=(Zs [Zb 8 .lss 7 6] (.seq (.cond (Zt 8) .skip (.exit 0)) (.seq (.blk 1 (Zs [Zm 9 7,Zx 10 2 5 7,Zv 11 2 10,Zo 4 (.alloc (.agg [.i 0,.i 0])),Zm 3 9,Zw (.store 2 (Zt 4) (Zt 11))] (.seq (.drw [Za 12 0 4,Zl 13 12,Zo 14 (.call 76 [(Zt 13),(.c (.i 1)),(.c (.i 20000))]),Zo 15 (.un .not (Zt 14)),Zm 16 15,Zg 17 (.fad 1 (Zt 4)) 16 false,Zg 18 (.load 1 false (Zt 17)) 16 false,Zg 19 (.call 76 [(Zt 18),(.c (.i 1)),(.c (.i 1000))]) 16 false,Zg 20 (.un .not (Zt 19)) 16 false,Zo 21 (.pick (Zt 16) (Zy true) (Zt 20)),Zm 22 21,Zg 23 (.mv (Zt 3)) 22 false,Zg 24 (.bin .gtr (Zt 23) (.c (.i 0))) 22 false,Zg 25 (.mv (Zt 24)) 22 false,Zg 26 (.mv (Zt 0)) 25 true,Zg 27 (.mv (Zt 3)) 25 true,Zg 28 (.bin .sub (Zt 27) (.c (.i 1))) 25 true,Zg 29 (.idx 2 (Zt 26) (Zt 28)) 25 true,Zg 30 (.fad 0 (Zt 29)) 25 true,Zg 31 (.load 1 false (Zt 30)) 25 true,Zg 32 (.fad 0 (Zt 4)) 25 true,Zg 33 (.load 1 false (Zt 32)) 25 true,Zg 34 (.bin .leq (Zt 31) (Zt 33)) 25 true,Zg 35 (.mv (Zt 34)) 25 true,Zg 36 (.mv (Zt 0)) 35 false,Zg 37 (.mv (Zt 3)) 35 false,Zg 38 (.bin .sub (Zt 37) (.c (.i 1))) 35 false,Zg 39 (.idx 2 (Zt 36) (Zt 38)) 35 false,Zg 40 (.fad 1 (Zt 39)) 35 false,Zg 41 (.load 1 false (Zt 40)) 35 false,Zg 42 (.fad 1 (Zt 4)) 35 false,Zg 43 (.load 1 false (Zt 42)) 35 false,Zg 44 (.bin .geq (Zt 41) (Zt 43)) 35 false,Zg 45 (.pick (Zt 35) (Zy true) (Zt 44)) 25 true,Zg 46 (.pick (Zt 25) (Zt 45) (Zy false)) 22 false,Zo 47 (.pick (Zt 22) (Zy true) (Zt 46))] []) (.cond (Zt 47) (Zs [Zo 2 (.mv (Zy false))] .ret) .skip)))) (.reg [Zd 48 .add 7 1,Zm 7 48] []))))
def Hl:ar:=(Zs [Zm 49 0,Zk 50 49,Zo 51 (.call 76 [(Zt 50),(.c (.i 1)),(.c (.i 6))]),Zm 2 51] .ret)
def A219:ar:=(Zs [Zo 2 (.mv (Zy false))] (.seqa (.reg [Zm 5 0,Zk 6 5,Zn 7 0] []) (.blk 0 (.loop yf)) [0] [] Hl))
theorem m219:bf Tryz.prog 219 1 A219 V10=true:=by kernel_rfl
def A243:ar:=(Zs [Zo 2 (.box 2 (Zt 0)),Zo 3 (.box 4 (Zt 1)),Zo 4 (.mv (Zy false))] (Zs [Za 6 0 2,Zl 7 6,Zk 8 7,Zd 9 .sub 8 1,Zm 5 9] (Zs [Za 10 0 3,Zl 11 10,Zm 12 5,Zo 13 (.call 76 [(Zt 11),(.c (.i 0)),(Zt 12)]),Zm 14 13,Zg 15 (.fad 1 (Zt 3)) 14 true,Zg 16 (.load 1 false (Zt 15)) 14 true,Zg 17 (.mv (Zt 5)) 14 true,Zg 18 (.call 76 [(Zt 16),(.c (.i 0)),(Zt 17)]) 14 true,Zo 19 (.pick (Zt 14) (Zt 18) (Zy false)),Zm 20 19,Zg 21 (.fad 0 (Zt 3)) 20 true,Zg 22 (.load 1 false (Zt 21)) 20 true,Zg 23 (.fad 1 (Zt 3)) 20 true,Zg 24 (.load 1 false (Zt 23)) 20 true,Zg 25 (.bin .neq (Zt 22) (Zt 24)) 20 true,Zo 26 (.pick (Zt 20) (Zt 25) (Zy false)),Zm 27 26,Zg 28 (.fad 2 (Zt 3)) 27 true,Zg 29 (.load 1 false (Zt 28)) 27 true,Zg 30 (.call 76 [(Zt 29),(.c (.i 1)),(.c (.i 1000))]) 27 true,Zo 31 (.pick (Zt 27) (Zt 30) (Zy false)),Zm 32 31,Zg 33 (.fad 3 (Zt 3)) 32 true,Zg 34 (.load 1 false (Zt 33)) 32 true,Zg 35 (.call 76 [(Zt 34),(.c (.i 0)),(.c (.i 2))]) 32 true,Zo 36 (.pick (Zt 32) (Zt 35) (Zy false)),Zm 4 36] .ret)))
theorem m243:bf Tryz.prog 243 2 A243 aC=true:=by kernel_rfl
def A242:ar:=(Zs [Zo 2 (.box 4 (Zt 0)),Zo 3 (.mv (Zy false))] (Zs [Zv 4 2 1,Zv 5 4 2,Zo 6 (.call 243 [(Zt 4),(Zt 5)]),Zo 7 (.un .not (Zt 6)),Zm 3 7] .ret))
theorem m242:bf Tryz.prog 242 2 A242 sH=true:=by kernel_rfl
def xU:ar:=(Zs [Zb 9 .lss 8 7] (.seq (.cond (Zt 9) .skip (.exit 0)) (.seq (.blk 1 (Zs [Zm 10 8,Zm 5 10] (Zs [Zm 11 1,Zm 12 0,Zm 13 5,Zx 14 4 12 13,Zv 15 4 14,Zo 16 (.dyn (Zt 11) [(Zt 15)])] (.cond (Zt 16) (Zs [Zm 17 5,Zm 4 17] .ret) .skip)))) (.reg [Zd 18 .add 8 1,Zm 8 18] []))))
def GX:ar:=(Zs [Zn 4 (-1)] .ret)
def A262:ar:=(Zs [Zn 4 0] (.seqa (.reg [Zm 6 0,Zk 7 6,Zn 8 0] []) (.blk 0 (.loop xU)) [] [] GX))
theorem m262:bf Tryz.prog 262 2 A262 aC=true:=by kernel_rfl
def A241:ar:=(Zs [Zo 4 (.mv (Zy false))] (Zs [Zm 5 0,Zm 6 1,Zo 7 (.call 262 [(Zt 5),(Zt 6)]),Zd 8 .geq 7 0,Zm 4 8] .ret))
theorem m241:bf Tryz.prog 241 2 A241 aC=true:=by kernel_rfl
def A220:ar:=(Zs [Zo 2 (.box 2 (Zt 0)),Zo 4 (.mv (Zy false))] (Zs [Zv 5 2 2,Zo 6 (.call 81 [(Zt 5)]),Zm 7 6,Zg 8 (.mv (Zt 1)) 7 true,Zg 9 (.len (Zt 8)) 7 true,Zg 10 (.bin .leq (Zt 9) (.c (.i 12))) 7 true,Zo 11 (.pick (Zt 7) (Zt 10) (Zy false)),Zm 12 11,Zg 13 (.mv (Zt 1)) 12 true,Zg 14 (.mkf 242 [(Zt 2)]) 12 true,Zg 15 (.call 241 [(Zt 13),(Zt 14)]) 12 true,Zg 16 (.un .not (Zt 15)) 12 true,Zo 17 (.pick (Zt 12) (Zt 16) (Zy false)),Zm 4 17] .ret))
theorem m220:bf Tryz.prog 220 2 A220 aC=true:=by kernel_rfl
def A263:ar:=(Zs [Zo 3 (.mv (Zy false))] (Zs [Zm 4 0,Za 5 0 1,Zl 6 5,Zk 7 6,Zd 8 .sub 7 1,Zo 9 (.call 76 [(Zt 4),(.c (.i 0)),(Zt 8)]),Zo 10 (.un .not (Zt 9)),Zm 3 10] .ret))
theorem m263:bf Tryz.prog 263 2 A263 sH=true:=by kernel_rfl
def yG:ar:=(Zs [Zb 9 .lss 8 7] (.seq (.cond (Zt 9) .skip (.exit 0)) (.seq (.blk 1 (Zs [Zm 10 8,Zm 5 10] (Zs [Zm 11 1,Zm 12 0,Zm 13 5,Zx 14 1 12 13,Zl 15 14,Zo 16 (.dyn (Zt 11) [(Zt 15)])] (.cond (Zt 16) (Zs [Zm 17 5,Zm 4 17] .ret) .skip)))) (.reg [Zd 18 .add 8 1,Zm 8 18] []))))
def IB:ar:=(Zs [Zn 4 (-1)] .ret)
def A217:ar:=(Zs [Zn 4 0] (.seqa (.reg [Zm 6 0,Zk 7 6,Zn 8 0] []) (.blk 0 (.loop yG)) [] [] IB))
theorem m217:bf Tryz.prog 217 2 A217 aC=true:=by kernel_rfl
def A177:ar:=(Zs [Zo 4 (.mv (Zy false))] (Zs [Zm 5 0,Zm 6 1,Zo 7 (.call 217 [(Zt 5),(Zt 6)]),Zd 8 .geq 7 0,Zm 4 8] .ret))
theorem m177:bf Tryz.prog 177 2 A177 aC=true:=by kernel_rfl
def A244:ar:=(Zs [Zo 2 (.box 2 (Zt 0)),Zo 4 (.mv (Zy false))] (Zs [Zv 5 2 2,Zo 6 (.call 81 [(Zt 5)]),Zm 7 6,Zg 8 (.mv (Zt 1)) 7 true,Zg 9 (.mkf 263 [(Zt 2)]) 7 true,Zg 10 (.call 177 [(Zt 8),(Zt 9)]) 7 true,Zg 11 (.un .not (Zt 10)) 7 true,Zo 12 (.pick (Zt 7) (Zt 11) (Zy false)),Zm 4 12] .ret))
theorem m244:bf Tryz.prog 244 2 A244 aC=true:=by kernel_rfl
def A80:ar:=(.seq (.reg [Zo 2 (.mv (.c (.lst .u 1 [])))] [.s 2]) (.seq (Zs [Zm 3 0,Zo 4 (.isn false (Zt 3))] (.cond (Zt 4) (.seq (.reg [Zo 2 (.mv (.c (.lst .u 1 [])))] [.s 2]) .ret) .skip)) (.seq (.reg [Zo 5 (.bsl 1 false []),Zm 6 0,Zo 7 (.app 1 8 false (Zt 5) (Zt 6)),Zm 2 7] [.s 2]) .ret)))
theorem m80:bf Tryz.prog 80 1 A80 V10=true:=by kernel_rfl
def tN:ar:=(.cond (Zt 43) (.drw [Zo 44 (.ldv [] 1 false (Zt 7)),Zm 45 13,Zm 46 1,Zm 47 13,Zo 48 (.bin .shl (.c (.i 1)) (Zt 47)),Zb 49 .or 46 48,Zm 50 2,Zm 51 2,Zk 52 51,Zm 53 2,Zk 54 53,Zo 55 (.slc 1 (Zt 50) none (some (Zt 52)) (some (Zt 54))),Zm 56 11,Zo 57 (.bsl 1 true [(Zt 56)]),Zo 58 (.app 1 8 true (Zt 55) (Zt 57)),Zo 59 (.dynM (Zt 44) [(Zt 45),(Zt 49),(Zt 58)] [58,1000000001,1000000002,470000128,1000000004,1000000005,1000000006])] [.f true 470000128 1000000002 0]) .skip)
def oS:ar:=(Zs [Zb 28 .lss 27 26] (.seq (.cond (Zt 28) .skip (.exit 0)) (.seq (.blk 1 (Zs [Zm 29 27,Zx 30 4 25 27,Zv 31 4 30,Zo 12 (.alloc (.agg [.i 0,.i 0,.i 0,.i 0])),Zm 11 29,Zw (.store 4 (Zt 12) (Zt 31))] (Zs [Zv 32 4 12,Zm 33 0,Zo 34 (.call 215 [(Zt 32),(Zt 33)]),Zm 13 34] (.seqr (.reg [Zm 35 13,Zd 36 .geq 35 0,Zm 37 36,Zg 38 (.mv (Zt 1)) 37 true,Zg 39 (.mv (Zt 13)) 37 true,Zg 40 (.bin .shr (Zt 38) (Zt 39)) 37 true,Zg 41 (.bin .and (Zt 40) (.c (.i 1))) 37 true,Zg 42 (.bin .eql (Zt 41) (.c (.i 0))) 37 true,Zo 43 (.pick (Zt 37) (Zt 42) (Zy false))] []) [0,1,2,7,11,13,25,26,27,43] [470000128,1000000001,1000000002,1000000004,1000000005,1000000006] tN)))) (.reg [Zd 60 .add 27 1,Zm 27 60] []))))
def Lr:ar:=(.seq (.seq (.reg [Zm 14 0,Zl 15 3,Zb 16 .eql 14 15] [.z 2,.f true 470000128 1000000002 0]) (.cond (Zt 16) (.seq (.drw [Zo 17 (.ldv [] 1 false (Zt 4)),Zl 18 5,Zm 19 2,Zo 20 (.call 80 [(Zt 19)]),Zo 21 (.build [.i 0,.lst .u 1 []] [(0,1,(Zt 18)),(1,1,(Zt 20))]),Zo 22 (.bsm 2 [(Zt 21)]),Zo 23 (.app 2 32 true (Zt 17) (Zt 22)),Zw (.store 1 (Zt 4) (Zt 23))] [.f true 470000128 1000000002 0]) .ret) .skip)) (Zs [Za 24 1 6,Zl 25 24,Zk 26 25,Zn 27 0] (.blk 0 (.loop oS))))
theorem Sv:bf Tryz.prog 264 8 Lr ce=true:=by kernel_rfl
def uk:ar:=(.cond (Zt 43) (.drw [Zo 44 (.ldv [] 1 false (Zt 7)),Zm 45 13,Zm 46 1,Zm 47 13,Zo 48 (.bin .shl (.c (.i 1)) (Zt 47)),Zb 49 .or 46 48,Zm 50 2,Zm 51 2,Zk 52 51,Zm 53 2,Zk 54 53,Zo 55 (.slc 1 (Zt 50) none (some (Zt 52)) (some (Zt 54))),Zm 56 11,Zo 57 (.bsl 1 true [(Zt 56)]),Zo 58 (.app 1 8 true (Zt 55) (Zt 57)),Zo 59 (.dynM (Zt 44) [(Zt 45),(Zt 49),(Zt 58)] [58,1000000000,1000000001,470000064,1000000003,1000000004,1000000005])] [.f true 470000064 1000000001 0]) .skip)
def pA:ar:=(Zs [Zb 28 .lss 27 26] (.seq (.cond (Zt 28) .skip (.exit 0)) (.seq (.blk 1 (Zs [Zm 29 27,Zx 30 4 25 27,Zv 31 4 30,Zo 12 (.alloc (.agg [.i 0,.i 0,.i 0,.i 0])),Zm 11 29,Zw (.store 4 (Zt 12) (Zt 31))] (Zs [Zv 32 4 12,Zm 33 0,Zo 34 (.call 215 [(Zt 32),(Zt 33)]),Zm 13 34] (.seqr (.reg [Zm 35 13,Zd 36 .geq 35 0,Zm 37 36,Zg 38 (.mv (Zt 1)) 37 true,Zg 39 (.mv (Zt 13)) 37 true,Zg 40 (.bin .shr (Zt 38) (Zt 39)) 37 true,Zg 41 (.bin .and (Zt 40) (.c (.i 1))) 37 true,Zg 42 (.bin .eql (Zt 41) (.c (.i 0))) 37 true,Zo 43 (.pick (Zt 37) (Zt 42) (Zy false))] []) [0,1,2,7,11,13,25,26,27,43] [470000064,1000000000,1000000001,1000000003,1000000004,1000000005] uk)))) (.reg [Zd 60 .add 27 1,Zm 27 60] []))))
def Jz:ar:=(.seq (.seq (.reg [Zm 14 0,Zl 15 3,Zb 16 .eql 14 15] [.z 2,.f true 470000064 1000000001 0]) (.cond (Zt 16) (.seq (.drw [Zo 17 (.ldv [] 1 false (Zt 4)),Zl 18 5,Zm 19 2,Zo 20 (.call 80 [(Zt 19)]),Zo 21 (.build [.i 0,.lst .u 1 []] [(0,1,(Zt 18)),(1,1,(Zt 20))]),Zo 22 (.bsm 2 [(Zt 21)]),Zo 23 (.app 2 32 true (Zt 17) (Zt 22)),Zw (.store 1 (Zt 4) (Zt 23))] [.f true 470000064 1000000001 0]) .ret) .skip)) (Zs [Za 24 1 6,Zl 25 24,Zk 26 25,Zn 27 0] (.blk 0 (.loop pA))))
theorem TM:bf Tryz.prog 264 8 Jz ce=true:=by kernel_rfl
def yM:ar:=(Zs [Zb 12 .lss 11 10] (.seq (.cond (Zt 12) .skip (.exit 0)) (.seq (.blk 1 (Zs [Zx 13 1 9 11,Zl 14 13,Zm 7 14] (.reg [Zm 15 5,Za 16 1 2,Zl 17 16,Zm 18 7,Zx 19 4 17 18,Za 20 2 19,Zl 21 20,Zb 22 .add 15 21,Zm 5 22] []))) (.reg [Zd 23 .add 11 1,Zm 11 23] []))))
def Hq:ar:=(Zs [Zm 24 5,Zm 4 24] .ret)
def A223:ar:=(Zs [Zo 2 (.box 2 (Zt 0)),Zo 3 (.box 2 (Zt 1)),Zn 4 0] (Zs [Zn 5 0] (.seqa (.reg [Za 8 1 3,Zl 9 8,Zk 10 9,Zn 11 0] []) (.blk 0 (.loop yM)) [5] [] Hq)))
theorem m223:bf Tryz.prog 223 2 A223 aC=true:=by kernel_rfl
def yd:ar:=(Zs [Zb 12 .lss 11 10] (.seq (.cond (Zt 12) .skip (.exit 0)) (.seq (.blk 1 (Zs [Zm 13 11,Zx 14 1 9 11,Zl 15 14,Zm 5 13,Zm 6 15] (.seq (Zs [Zm 16 5,Zm 17 1,Zk 18 17,Zb 19 .geq 16 18] (.cond (Zt 19) (Zs [Zn 4 1] .ret) .skip)) (Zs [Zm 20 1,Zm 21 5,Zx 22 1 20 21,Zl 23 22,Zm 7 23] (Zs [Zm 24 6,Zm 25 7,Zo 26 (.call 189 [(Zt 24),(Zt 25)]),Zm 8 26] (Zs [Zm 27 8,Zd 28 .neq 27 0] (.cond (Zt 28) (Zs [Zm 29 8,Zm 4 29] .ret) .skip))))))) (.reg [Zd 30 .add 11 1,Zm 11 30] []))))
def GH:ar:=(.seq (Zs [Zm 31 0,Zk 32 31,Zm 33 1,Zk 34 33,Zb 35 .lss 32 34] (.cond (Zt 35) (Zs [Zn 4 (-1)] .ret) .skip)) (Zs [Zn 4 0] .ret))
def A225:ar:=(Zs [Zn 4 0] (.seqa (.reg [Zm 9 0,Zk 10 9,Zn 11 0] []) (.blk 0 (.loop yd)) [0,1] [] GH))
theorem m225:bf Tryz.prog 225 2 A225 aC=true:=by kernel_rfl
def A190:ar:=(Zs [Zo 3 (.box 2 (Zt 0)),Zo 4 (.box 2 (Zt 1)),Zo 5 (.box 2 (Zt 2)),Zn 6 0] (.seq (.drw [Zv 7 2 3,Zv 8 2 4,Zo 9 (.call 223 [(Zt 7),(Zt 8)]),Zv 10 2 3,Zv 11 2 5,Zo 12 (.call 223 [(Zt 10),(Zt 11)]),Zo 13 (.call 189 [(Zt 9),(Zt 12)]),Za 14 1 4,Zl 15 14,Zk 16 15,Za 17 1 5,Zl 18 17,Zk 19 18,Zo 20 (.call 189 [(Zt 16),(Zt 19)]),Za 21 1 4,Zl 22 21,Za 23 1 5,Zl 24 23,Zo 25 (.call 225 [(Zt 22),(Zt 24)]),Za 26 0 4,Zl 27 26,Za 28 0 5,Zl 29 28,Zo 30 (.call 189 [(Zt 27),(Zt 29)]),Zo 31 (.bsl 1 true [(Zt 13),(Zt 20),(Zt 25),(Zt 30)]),Zo 32 (.call 188 [(Zt 31)]),Zm 6 32] []) .ret))
theorem m190:bf Tryz.prog 190 3 A190 cx=true:=by kernel_rfl
def A266:ar:=(Zs [Zo 3 (.box 2 (Zt 0)),Zo 4 (.box 2 (Zt 1)),Zn 5 0] (Zs [Zv 6 2 2,Zv 7 2 3,Zv 8 2 4,Zo 9 (.call 190 [(Zt 6),(Zt 7),(Zt 8)]),Zm 5 9] .ret))
def UE:List RV:=[.t 5]
theorem m266:bf Tryz.prog 266 3 A266 UE=true:=by kernel_rfl
def FP:ar:=(Zs [Zl 19 7,Zo 20 (.mkf 266 [(Zt 3)]),Zo 21 (.callM 265 [(Zt 19),(Zt 20)] [500000448,3])] (.seq (.reg [Zl 22 7,Zm 6 22] [.s 6]) .ret))
def A245:ar:=(.seq (.reg [Zo 3 (.box 2 (Zt 0)),Zo 4 (.box 1 (Zt 1)),Zo 5 (.box 1 (Zt 2)),Zo 6 (.mv (.c (.lst .u 2 [])))] [.s 6]) (.seq (.reg [Zo 9 (.bsl 2 false []),Zo 7 (.alloc (.lst .u 2 [])),Zw (.store 1 (Zt 7) (Zt 9))] [.f false 500000448 7 0]) (Zs [Zo 8 (.alloc (.sc .nilFunc))] (Zs [Zo 10 (.mkf 264 [(Zt 5),(Zt 7),(Zt 4),(Zt 3),(Zt 8)]),Zw (.store 1 (Zt 8) (Zt 10))] (.seqr (Zs [Zl 11 4,Zl 12 5,Zb 13 .neq 11 12] (.cond (Zt 13) (.drw [Zl 14 8,Zl 15 4,Zl 16 4,Zo 17 (.bin .shl (.c (.i 1)) (Zt 16)),Zo 18 (.dynM (Zt 14) [(Zt 15),(Zt 17),(.c (.lst .u 1 []))] [5,7,500000448,4,3,8])] [.f false 500000448 7 0]) .skip)) [3,7] [3,7,500000448] FP)))))
theorem m245:bf Tryz.prog 245 3 A245 cx=true:=by kernel_rfl
def Mn:ar:=(.cond (Zt 19) (.seq (.reg [Zo 6 (.mv (.c (.lst .u 2 []))),Zo 7 (.mv (Zy false))] [.s 6]) .ret) .skip)
def A221:ar:=(.seq (.reg [Zo 3 (.box 2 (Zt 0)),Zo 6 (.mv (.c (.lst .u 2 []))),Zo 7 (.mv (Zy false))] [.s 6]) (.seq (.seqr (.reg [Zv 9 2 3,Zm 10 1,Zm 11 2,Zo 12 (.bsl 1 false [(Zt 10),(Zt 11)]),Zo 13 (.call 244 [(Zt 9),(Zt 12)]),Zo 14 (.un .not (Zt 13)),Zm 15 14,Zg 16 (.mv (Zt 1)) 15 false,Zg 17 (.mv (Zt 2)) 15 false,Zg 18 (.bin .eql (Zt 16) (Zt 17)) 15 false,Zo 19 (.pick (Zt 15) (Zy true) (Zt 18))] []) [1,2,3,19] [3] Mn) (.seq (.reg [Zv 20 2 3,Zm 21 1,Zm 22 2,Zo 23 (.call 245 [(Zt 20),(Zt 21),(Zt 22)]),Zm 8 23] [.s 8]) (.seq (Zs [Zm 24 8,Zk 25 24,Zd 26 .gtr 25 200] (.cond (Zt 26) (.seq (.reg [Zo 6 (.mv (.c (.lst .u 2 []))),Zo 7 (.mv (Zy false))] [.s 6]) .ret) .skip)) (.seq (.reg [Zm 27 8,Zm 6 27,Zo 7 (.mv (Zy true))] [.s 6]) .ret)))))
theorem m221:bf Tryz.prog 221 3 A221 eB=true:=by kernel_rfl
def LM:ar:=(.cond (Zt 14) (Zs [Zn 4 0,Zo 5 (.mv (Zy false))] .ret) .skip)
def xd:ar:=(.seq (Zs [Zm 18 6,Zd 19 .geq 18 0] (.cond (Zt 19) .skip (.exit 0))) (.seq (.blk 1 (Zs [Zm 22 0,Zm 23 6,Zx 24 2 22 23,Za 25 0 24,Zl 26 25,Zm 27 1,Zb 28 .geq 26 27] (.cond (Zt 28) (Zs [Zm 29 6,Zm 4 29,Zo 5 (.mv (Zy true))] .ret) .skip))) (.reg [Zm 20 6,Zd 21 .sub 20 1,Zm 6 21] [])))
def FY:ar:=(Zs [Zn 4 0,Zo 5 (.mv (Zy false))] .ret)
def A246:ar:=(Zs [Zn 4 0,Zo 5 (.mv (Zy false))] (.seq (.seqr (.reg [Zm 7 0,Zo 8 (.call 219 [(Zt 7)]),Zo 9 (.un .not (Zt 8)),Zm 10 9,Zg 11 (.mv (Zt 1)) 10 false,Zg 12 (.call 76 [(Zt 11),(.c (.i 0)),(.c (.i 20000))]) 10 false,Zg 13 (.un .not (Zt 12)) 10 false,Zo 14 (.pick (Zt 10) (Zy true) (Zt 13))] []) [0,1,14] [] LM) (.seqa (.reg [Zm 15 0,Zk 16 15,Zd 17 .sub 16 1,Zm 6 17] []) (.blk 0 (.loop xd)) [] [] FY)))
theorem m246:bf Tryz.prog 246 2 A246 gf=true:=by kernel_rfl
def Kb:ar:=(.cond (Zt 23) (Zs [Zn 6 0,Zo 7 (.mv (Zy false))] .ret) .skip)
def A222:ar:=(Zs [Zn 6 0,Zo 7 (.mv (Zy false))] (Zs [Zm 12 0,Zm 13 1,Zo 14 (.call 246 [(Zt 12),(Zt 13)]),Zm 11 14,Ze 15 11 0,Ze 16 11 1,Zm 8 15,Zm 9 16] (.seq (.seqr (.reg [Zm 17 9,Zo 18 (.un .not (Zt 17)),Zm 19 18,Zg 20 (.mv (Zt 2)) 19 false,Zg 21 (.call 76 [(Zt 20),(.c (.i 1)),(.c (.i 1000))]) 19 false,Zg 22 (.un .not (Zt 21)) 19 false,Zo 23 (.pick (Zt 19) (Zy true) (Zt 22))] []) [0,2,8,23] [] Kb) (.seq (.drw [Zm 24 2,Zm 25 0,Zm 26 8,Zx 27 2 25 26,Za 28 1 27,Zl 29 28,Zb 30 .add 24 29,Zd 31 .sub 30 1,Zm 32 0,Zm 33 8,Zx 34 2 32 33,Za 35 1 34,Zl 36 35,Zb 37 .quo 31 36,Zm 10 37] []) (.seq (Zs [Zm 38 10,Zd 39 .gtr 38 24] (.cond (Zt 39) (Zs [Zn 6 0,Zo 7 (.mv (Zy false))] .ret) .skip)) (Zs [Zm 40 10,Zm 6 40,Zo 7 (.mv (Zy true))] .ret))))))
theorem m222:bf Tryz.prog 222 3 A222 eB=true:=by kernel_rfl
def A187:ar:=(Zs [Zo 1 (.box 3 (Zt 0)),Zn 2 0] (Zs [Za 3 2 1,Zl 4 3,Za 5 0 1,Za 6 1 5,Zl 7 6,Zk 8 7,Zb 9 .mul 4 8,Zm 2 9] .ret))
theorem m187:bf Tryz.prog 187 1 A187 V10=true:=by kernel_rfl
def Fp:ar:=(.seq (Zs [Zm 11 5,Zm 12 0,Zk 13 12,Zb 14 .lss 11 13] (.cond (Zt 14) .skip (.exit 0))) (.seq (.blk 1 (.seq (.drw [Zm 17 0,Zm 18 5,Zx 19 1 17 18,Zl 20 19,Zm 21 1,Zm 22 5,Zx 23 1 21 22,Zl 24 23,Zb 25 .neq 20 24] []) (.cond (Zt 25) (Zs [Zo 4 (.mv (Zy false))] .ret) .skip))) (.reg [Zm 15 5,Zd 16 .add 15 1,Zm 5 16] [])))
def Rz:ar:=(Zs [Zo 4 (.mv (Zy true))] .ret)
def A14:ar:=(Zs [Zo 4 (.mv (Zy false))] (.seq (Zs [Zm 6 0,Zk 7 6,Zm 8 1,Zk 9 8,Zb 10 .neq 7 9] (.cond (Zt 10) (Zs [Zo 4 (.mv (Zy false))] .ret) .skip)) (.seqa (.reg [Zn 5 0] []) (.blk 0 (.loop Fp)) [] [] Rz)))
theorem m14:bf Tryz.prog 14 2 A14 aC=true:=by kernel_rfl
def A61:ar:=(Zs [Zo 2 (.box 2 (Zt 0)),Zo 3 (.box 2 (Zt 1)),Zo 4 (.mv (Zy false))] (Zs [Za 5 0 2,Zl 6 5,Za 7 0 3,Zl 8 7,Zb 9 .eql 6 8,Zm 10 9,Zg 11 (.fad 1 (Zt 2)) 10 true,Zg 12 (.load 1 false (Zt 11)) 10 true,Zg 13 (.fad 1 (Zt 3)) 10 true,Zg 14 (.load 1 false (Zt 13)) 10 true,Zg 15 (.call 14 [(Zt 12),(Zt 14)]) 10 true,Zo 16 (.pick (Zt 10) (Zt 15) (Zy false)),Zm 4 16] .ret))
theorem m61:bf Tryz.prog 61 2 A61 aC=true:=by kernel_rfl
def A229:ar:=(.seq (.reg [Zo 2 (.box 2 (Zt 0)),Zo 3 (.box 2 (Zt 1)),Zo 4 (.mv (.c (.lst .u 1 []))),Zo 5 (.mv (Zy false))] [.s 4]) (.seq (Zs [Zv 6 2 2,Zo 7 (.call 81 [(Zt 6)]),Zo 8 (.un .not (Zt 7))] (.cond (Zt 8) (.seq (.reg [Zo 4 (.mv (.c (.lst .u 1 []))),Zo 5 (.mv (Zy false))] [.s 4]) .ret) .skip)) (.seq (.reg [Zv 9 2 2,Zv 10 2 3,Zo 11 (.call 168 [(Zt 9),(Zt 10)]),Ze 12 11 0,Ze 13 11 1,Zm 4 12,Zm 5 13] [.s 4]) .ret)))
theorem m229:bf Tryz.prog 229 2 A229 gf=true:=by kernel_rfl
def A201:ar:=(Zs [Zo 2 (.box 2 (Zt 0)),Zo 3 (.box 2 (Zt 1)),Zo 4 (.mv (Zy false))] (.seq (.reg [Zv 8 2 2,Zv 9 2 3,Zo 10 (.call 229 [(Zt 8),(Zt 9)]),Zm 7 10,Ze 11 7 0,Ze 12 7 1,Zm 5 11,Zm 6 12] [.s 5]) (Zs [Zm 13 6,Zm 4 13] .ret)))
theorem m201:bf Tryz.prog 201 2 A201 aC=true:=by kernel_rfl
def A135:ar:=(Zs [Zo 3 (.box 2 (Zt 0)),Zo 4 (.box 2 (Zt 1)),Zo 5 (.box 2 (Zt 2)),Zo 6 (.mv (Zy false))] (Zs [Zv 7 2 3,Zv 8 2 4,Zo 9 (.call 201 [(Zt 7),(Zt 8)]),Zm 10 9,Zg 11 (.load 2 true (Zt 3)) 10 true,Zg 12 (.load 2 true (Zt 5)) 10 true,Zg 13 (.call 201 [(Zt 11),(Zt 12)]) 10 true,Zo 14 (.pick (Zt 10) (Zt 13) (Zy false)),Zm 6 14] .ret))
theorem m135:bf Tryz.prog 135 3 A135 cx=true:=by kernel_rfl
def A62:ar:=(Zs [Zo 3 (.box 2 (Zt 0)),Zo 4 (.box 2 (Zt 1)),Zo 5 (.box 2 (Zt 2)),Zo 6 (.mv (Zy false)),Zo 7 (.mv (Zy false))] (.seq (Zs [Zv 8 2 3,Zv 9 2 4,Zv 10 2 5,Zo 11 (.call 135 [(Zt 8),(Zt 9),(Zt 10)]),Zo 12 (.un .not (Zt 11))] (.cond (Zt 12) (Zs [Zo 6 (.mv (Zy false)),Zo 7 (.mv (Zy false))] .ret) .skip)) (Zs [Zv 13 2 3,Za 14 1 4,Zl 15 14,Za 16 1 5,Zl 17 16,Zo 18 (.call 136 [(Zt 13),(Zt 15),(Zt 17)]),Zm 6 18,Zo 7 (.mv (Zy true))] .ret)))
theorem m62:bf Tryz.prog 62 3 A62 eB=true:=by kernel_rfl
def vD:ar:=(.cond (Zt 24) (.seq (.reg [Zo 6 (.mv (.c (.lst .u 3 []))),Zo 7 (.mv (Zy false))] [.s 6]) .ret) .skip)
def ot:ar:=(Zs [Zb 40 .lss 39 38] (.seq (.cond (Zt 40) .skip (.exit 0)) (.seq (.blk 1 (Zs [Zx 41 2 37 39,Zv 42 2 41,Zo 12 (.alloc (.agg [.i 0,.lst .u 1 []])),Zw (.store 2 (Zt 12) (Zt 42))] (.seq (.drw [Zm 44 1,Zv 45 2 3,Zv 46 2 12,Zo 47 (.call 223 [(Zt 45),(Zt 46)]),Za 48 2 5,Zl 49 48,Zo 50 (.call 222 [(Zt 44),(Zt 47),(Zt 49)]),Zm 43 50,Ze 51 43 0,Ze 52 43 1,Zm 13 51,Zm 14 52] []) (Zs [Zm 53 14] (.cond (Zt 53) (.reg [Zm 54 10,Zv 55 2 12,Zm 56 13,Zo 57 (.build [.i 0,.lst .u 1 [],.i 0] [(0,2,(Zt 55)),(2,1,(Zt 56))]),Zo 58 (.bsl 3 false [(Zt 57)]),Zo 59 (.app 3 40 true (Zt 54) (Zt 58)),Zm 10 59] [.s 10]) .skip))))) (.reg [Zd 60 .add 39 1,Zm 39 60] []))))
def uP:ar:=(.seq (.reg [Zm 61 10,Zm 6 61,Zo 7 (.mv (Zy true))] [.s 6]) .ret)
def GB:ar:=(.seq (.reg [Zo 3 (.box 2 (Zt 0)),Zo 5 (.box 4 (Zt 2)),Zo 6 (.mv (.c (.lst .u 3 []))),Zo 7 (.mv (Zy false))] [.s 6]) (.seq (.seqr (.reg [Zm 15 1,Zo 16 (.call 219 [(Zt 15)]),Zo 17 (.un .not (Zt 16)),Zm 18 17,Zg 19 (.load 2 true (Zt 3)) 18 false,Zg 20 (.load 4 true (Zt 5)) 18 false,Zg 21 (.bsl 4 false [(Zt 20)]) 18 false,Zg 22 (.call 220 [(Zt 19),(Zt 21)]) 18 false,Zg 23 (.un .not (Zt 22)) 18 false,Zo 24 (.pick (Zt 18) (Zy true) (Zt 23))] []) [1,3,5,24] [3,5,1000000000] vD) (.seq (.reg [Zv 26 2 3,Za 27 0 5,Zl 28 27,Za 29 1 5,Zl 30 29,Zo 31 (.call 221 [(Zt 26),(Zt 28),(Zt 30)]),Zm 25 31,Ze 32 25 0,Ze 33 25 1,Zm 8 32,Zm 9 33] [.s 8]) (.seq (Zs [Zm 34 9,Zo 35 (.un .not (Zt 34))] (.cond (Zt 35) (.seq (.reg [Zo 6 (.mv (.c (.lst .u 3 []))),Zo 7 (.mv (Zy false))] [.s 6]) .ret) .skip)) (.seq (.reg [Zo 36 (.bsl 3 false []),Zm 10 36] [.s 10]) (.seqa (.reg [Zm 37 8,Zk 38 37,Zn 39 0] []) (.blk 0 (.loop ot)) [10] [10,1000000000] uP))))))
theorem Ut:bf Tryz.prog 186 3 GB eB=true:=by kernel_rfl
def wo:ar:=(.cond (Zt 85) (.drw [Zv 86 2 3,Za 87 0 18,Zv 88 2 87,Za 89 0 11,Zv 90 2 89,Zo 91 (.call 190 [(Zt 86),(Zt 88),(Zt 90)]),Zv 92 2 3,Za 93 0 19,Zv 94 2 93,Za 95 0 12,Zv 96 2 95,Zo 97 (.call 190 [(Zt 92),(Zt 94),(Zt 96)]),Zo 98 (.bsl 1 true [(Zt 91),(Zt 97)]),Zo 99 (.call 188 [(Zt 98)]),Zm 20 99] []) .skip)
def uN:ar:=(.cond (Zt 105) (.drw [Zv 106 3 18,Zo 107 (.ldv [11] 3 true (Zt 19)),Zw (.stw 11 3 (Zt 11) (Zt 106)),Zw (.stv 3 (Zt 12) (Zt 107)),Zo 13 (.mv (Zy true))] [.w 11,.w 12]) .skip)
def vC:ar:=(.seqr (.reg [Zm 100 13,Zo 101 (.un .not (Zt 100)),Zm 102 101,Zg 103 (.mv (Zt 20)) 102 false,Zg 104 (.bin .lss (Zt 103) (.c (.i 0))) 102 false,Zo 105 (.pick (Zt 102) (Zy true) (Zt 104))] []) [3,6,7,9,11,12,13,15,18,19,34,35,36,44,45,46,105] [3,6,7,9,11,12,15,18,19,1000000000] uN)
def ue:ar:=(.seq (.drw [Zv 68 3 18,Zo 69 (.call 187 [(Zt 68)]),Zv 70 3 19,Zo 71 (.call 187 [(Zt 70)]),Zb 72 .add 69 71,Zv 73 3 11,Zo 74 (.call 187 [(Zt 73)]),Zv 75 3 12,Zo 76 (.call 187 [(Zt 75)]),Zb 77 .add 74 76,Zo 78 (.call 189 [(Zt 72),(Zt 77)]),Zo 79 (.bsl 1 true [(Zt 78),(.c (.i 0))]),Zo 80 (.call 188 [(Zt 79)]),Zm 20 80] []) (.seqr (.seqr (.reg [Zm 81 13,Zm 82 81,Zg 83 (.mv (Zt 20)) 82 true,Zg 84 (.bin .eql (Zt 83) (.c (.i 0))) 82 true,Zo 85 (.pick (Zt 82) (Zt 84) (Zy false))] []) [3,6,7,9,11,12,13,15,18,19,20,34,35,36,44,45,46,85] [3,6,7,9,11,12,15,18,19,1000000000] wo) [3,6,7,9,11,12,13,15,18,19,20,34,35,36,44,45,46] [3,6,7,9,11,12,15,18,19,1000000000] vC))
def qa:ar:=(Zs [Zb 47 .lss 46 45] (.seq (.cond (Zt 47) .skip (.exit 2)) (.seq (.blk 3 (Zs [Zx 48 3 44 46,Zv 49 3 48,Zo 17 (.alloc (.agg [.i 0,.lst .u 1 [],.i 0])),Zw (.store 3 (Zt 17) (Zt 49))] (.seq (Zs [Zv 50 2 3,Za 51 0 15,Za 52 1 51,Zl 53 52,Za 54 0 17,Za 55 1 54,Zl 56 55,Zo 57 (.call 136 [(Zt 50),(Zt 53),(Zt 56)]),Zo 58 (.un .not (Zt 57))] (.cond (Zt 58) (.exit 3) .skip)) (.seq (.drw [Zo 59 (.ldv [] 3 true (Zt 15)),Zo 60 (.ldv [] 3 true (Zt 17)),Zo 18 (.alloc (.agg [.i 0,.lst .u 1 [],.i 0])),Zo 19 (.alloc (.agg [.i 0,.lst .u 1 [],.i 0])),Zw (.stv 3 (Zt 18) (Zt 59)),Zw (.store 3 (Zt 19) (Zt 60))] []) (.seqr (.seq (.drw [Zv 61 3 17,Zo 62 (.call 187 [(Zt 61)]),Zv 63 3 15,Zo 64 (.call 187 [(Zt 63)]),Zb 65 .lss 62 64] []) (.cond (Zt 65) (.drw [Zv 66 3 17,Zo 67 (.ldv [18] 3 true (Zt 15)),Zw (.stw 18 3 (Zt 18) (Zt 66)),Zw (.store 3 (Zt 19) (Zt 67))] []) .skip)) [3,6,7,9,11,12,13,15,18,19,34,35,36,44,45,46] [3,6,7,9,11,12,15,18,19,1000000000] ue))))) (.reg [Zd 108 .add 46 1,Zm 46 108] []))))
def tV:ar:=(.reg [Zd 109 .add 36 1,Zm 36 109] [])
def qk:ar:=(Zs [Zb 37 .lss 36 35] (.seq (.cond (Zt 37) .skip (.exit 0)) (.seqr (.blk 1 (Zs [Zm 38 36,Zx 39 3 34 36,Zv 40 3 39,Zo 15 (.alloc (.agg [.i 0,.lst .u 1 [],.i 0])),Zm 14 38,Zw (.store 3 (Zt 15) (Zt 40))] (Zs [Zm 41 9,Zm 42 14,Zd 43 .add 42 1,Zo 44 (.slc 3 (Zt 41) (some (Zt 43)) none none),Zk 45 44,Zn 46 0] (.blk 2 (.loop qa))))) [3,6,7,9,11,12,13,34,35,36] [3,6,7,9,11,12,1000000000] tV)))
def uy:ar:=(.seq (.drw [Zv 110 3 11,Zo 111 (.ldv [6] 3 true (Zt 12)),Zm 112 13,Zw (.stw 6 3 (Zt 6) (Zt 110)),Zw (.stv 3 (Zt 7) (Zt 111)),Zm 8 112] []) .ret)
def JX:ar:=(Zs [Zo 3 (.box 2 (Zt 0)),Zo 5 (.box 4 (Zt 2)),Zo 6 (.alloc (.agg [.i 0,.lst .u 1 [],.i 0])),Zo 7 (.alloc (.agg [.i 0,.lst .u 1 [],.i 0])),Zo 8 (.mv (Zy false))] (.seq (.reg [Zv 22 2 3,Zm 23 1,Zv 24 4 5,Zo 25 (.callM 186 [(Zt 22),(Zt 23),(Zt 24)] [1000000000]),Zm 21 25,Ze 26 21 0,Ze 27 21 1,Zm 9 26,Zm 10 27] [.s 9]) (.seq (.reg [Zo 28 (.build [.i 0,.lst .u 1 [],.i 0] []),Zo 29 (.build [.i 0,.lst .u 1 [],.i 0] []),Zo 11 (.alloc (.agg [.i 0,.lst .u 1 [],.i 0])),Zo 12 (.alloc (.agg [.i 0,.lst .u 1 [],.i 0])),Zw (.store 3 (Zt 11) (Zt 28)),Zw (.store 3 (Zt 12) (Zt 29)),Zo 13 (.mv (Zy false))] [.w 11,.w 12]) (.seq (Zs [Zm 30 10,Zo 31 (.un .not (Zt 30))] (.cond (Zt 31) (.seq (.drw [Zv 32 3 11,Zo 33 (.ldv [6] 3 true (Zt 12)),Zw (.stw 6 3 (Zt 6) (Zt 32)),Zw (.stv 3 (Zt 7) (Zt 33)),Zo 8 (.mv (Zy false))] []) .ret) .skip)) (.seqa (.reg [Zm 34 9,Zk 35 34,Zn 36 0] []) (.blk 0 (.loop qk)) [6,7,11,12,13] [6,7,11,12,1000000000] uy)))))
def sU:List RV:=[.c 6 3 true,.c 7 3 true,.t 8]
theorem UU:bf Tryz.prog 124 3 JX sU=true:=by kernel_rfl
def Rp:ar:=(Zs [Zo 3 (.box 2 (Zt 0)),Zo 5 (.box 4 (Zt 2)),Zo 6 (.alloc (.agg [.i 0,.lst .u 1 []])),Zo 7 (.alloc (.agg [.i 0,.lst .u 1 []])),Zo 8 (.mv (Zy false))] (Zs [Zv 13 2 3,Zm 14 1,Zv 15 4 5,Zo 16 (.callM 124 [(Zt 13),(Zt 14),(Zt 15)] [1000000000]),Zm 12 16,Ze 17 12 0,Ze 18 12 1,Ze 19 12 2,Zo 9 (.alloc (.agg [.i 0,.lst .u 1 [],.i 0])),Zo 10 (.alloc (.agg [.i 0,.lst .u 1 [],.i 0])),Zw (.store 3 (Zt 9) (Zt 17)),Zw (.store 3 (Zt 10) (Zt 18)),Zm 11 19] (.seq (.drw [Za 20 0 9,Zv 21 2 20,Zo 22 (.fdv [6] 0 (Zt 10)),Zo 23 (.ldv [6] 2 true (Zt 22)),Zm 24 11,Zw (.stw 6 2 (Zt 6) (Zt 21)),Zw (.stv 2 (Zt 7) (Zt 23)),Zm 8 24] []) .ret)))
theorem Wt:bf Tryz.prog 47 3 Rp mU=true:=by kernel_rfl
def A8R1:ar:=(.cond (Zt 69) (Zs [Zo 2 (.mv (Zy false))] .ret) .skip)
def A8R2:ar:=(.cond (Zt 106) (Zs [Zo 2 (.mv (Zy false))] .ret) .skip)
def A8:ar:=(Zs [Zo 2 (.mv (Zy false))] (.seq (Zs [Zm 23 0,Zo 24 (.call 10 [(Zt 23)])] (.cond (Zt 24) (Zs [Zo 2 (.mv (Zy true))] .ret) .skip)) (Zs [Zm 26 0,Zo 27 (.callM 57 [(Zt 26)] []),Zm 25 27,Ze 28 25 0,Ze 29 25 1,Ze 30 25 2,Zo 3 (.alloc (.agg [.lst .u 1 [],.lst .u 4 []])),Zo 4 (.alloc (.agg [.i 0,.i 0,.i 0,.lst .u 1 [],.i 0,.i 0,.i 0,.lst .u 1 [],.i 0,.i 0])),Zo 5 (.alloc (.agg [.i 0,.i 0,.i 0,.lst .u 1 [],.i 0,.i 0,.i 0,.lst .u 1 [],.i 0,.i 0])),Zw (.store 2 (Zt 3) (Zt 28)),Zw (.store 10 (Zt 4) (Zt 29)),Zw (.store 10 (Zt 5) (Zt 30))] (Zs [Zv 32 2 3,Zv 33 10 4,Zv 34 10 5,Zo 35 (.call 58 [(Zt 32),(Zt 33),(Zt 34)]),Zm 31 35,Ze 36 31 0,Ze 37 31 1,Zm 6 36,Zm 7 37] (Zs [Zv 39 2 3,Zv 40 10 5,Zv 41 10 4,Zo 42 (.call 58 [(Zt 39),(Zt 40),(Zt 41)]),Zm 38 42,Ze 43 38 0,Ze 44 38 1,Zm 8 43,Zm 9 44] (.seq (Zs [Zv 46 2 3,Zv 47 10 4,Zv 48 10 5,Zo 49 (.call 59 [(Zt 46),(Zt 47),(Zt 48)]),Zm 45 49,Ze 50 45 0,Ze 51 45 1,Zm 10 50,Zm 11 51] (.seqr (.reg [Zm 52 6,Zm 53 10,Zo 54 (.beq true (Zt 52) (Zt 53)),Zm 55 54,Zg 56 (.mv (Zt 7)) 55 false,Zg 57 (.mv (Zt 11)) 55 false,Zg 58 (.beq true (Zt 56) (Zt 57)) 55 false,Zo 59 (.pick (Zt 55) (Zy true) (Zt 58)),Zm 60 59,Zg 61 (.mv (Zt 9)) 60 false,Zg 62 (.mv (Zt 7)) 60 false,Zg 63 (.beq true (Zt 61) (Zt 62)) 60 false,Zo 64 (.pick (Zt 60) (Zy true) (Zt 63)),Zm 65 64,Zg 66 (.mv (Zt 8)) 65 false,Zg 67 (.mv (Zt 6)) 65 false,Zg 68 (.beq true (Zt 66) (Zt 67)) 65 false,Zo 69 (.pick (Zt 65) (Zy true) (Zt 68))] []) [0,69] [] A8R1)) (.seq (.reg [Zm 71 0,Zo 72 (.call 60 [(Zt 71)]),Zm 70 72,Ze 73 70 0,Ze 74 70 1,Ze 75 70 2,Zo 12 (.alloc (.agg [.lst .u 1 [],.lst .u 4 []])),Zo 14 (.alloc (.agg [.i 0,.i 0,.i 0,.i 0])),Zw (.store 2 (Zt 12) (Zt 73)),Zm 13 74,Zw (.store 4 (Zt 14) (Zt 75))] [.s 13,.w 12,.w 12]) (Zs [Zv 77 2 12,Zm 78 13,Zv 79 4 14,Zo 80 (.callM 47 [(Zt 77),(Zt 78),(Zt 79)] [13]),Zm 76 80,Ze 81 76 0,Ze 82 76 1,Ze 83 76 2,Zo 15 (.alloc (.agg [.i 0,.lst .u 1 []])),Zo 16 (.alloc (.agg [.i 0,.lst .u 1 []])),Zw (.store 2 (Zt 15) (Zt 81)),Zw (.store 2 (Zt 16) (Zt 82)),Zm 17 83] (Zs [Zv 85 2 12,Zm 86 13,Zv 87 4 14,Zo 88 (.callM 44 [(Zt 85),(Zt 86),(Zt 87)] [13]),Zm 84 88,Ze 89 84 0,Ze 90 84 1,Ze 91 84 2,Zo 18 (.alloc (.agg [.i 0,.lst .u 1 []])),Zo 19 (.alloc (.agg [.i 0,.lst .u 1 []])),Zw (.store 2 (Zt 18) (Zt 89)),Zw (.store 2 (Zt 19) (Zt 90)),Zm 20 91] (.seq (.seqr (.reg [Zm 92 17,Zm 93 20,Zo 94 (.beq true (Zt 92) (Zt 93)),Zm 95 94,Zg 96 (.load 2 true (Zt 15)) 95 false,Zg 97 (.load 2 true (Zt 18)) 95 false,Zg 98 (.call 61 [(Zt 96),(Zt 97)]) 95 false,Zg 99 (.un .not (Zt 98)) 95 false,Zo 100 (.pick (Zt 95) (Zy true) (Zt 99)),Zm 101 100,Zg 102 (.load 2 true (Zt 16)) 101 false,Zg 103 (.load 2 true (Zt 19)) 101 false,Zg 104 (.call 61 [(Zt 102),(Zt 103)]) 101 false,Zg 105 (.un .not (Zt 104)) 101 false,Zo 106 (.pick (Zt 101) (Zy true) (Zt 105))] []) [12,15,16,17,106] [12,15,16] A8R2) (Zs [Zv 108 2 12,Zv 109 2 15,Zv 110 2 16,Zo 111 (.call 62 [(Zt 108),(Zt 109),(Zt 110)]),Zm 107 111,Ze 112 107 0,Ze 113 107 1,Zm 21 112,Zm 22 113] (Zs [Zm 114 17,Zo 115 (.un .not (Zt 114)),Zm 116 115,Zg 117 (.mv (Zt 22)) 116 false,Zg 118 (.mv (Zt 117)) 116 false,Zg 119 (.mv (Zt 21)) 118 true,Zg 120 (.pick (Zt 118) (Zt 119) (Zy false)) 116 false,Zo 121 (.pick (Zt 116) (Zy true) (Zt 120)),Zm 2 121] .ret))))))))))))
theorem m8:bf Tryz.prog 8 1 A8 V10=true:=by kernel_rfl
end Vs

