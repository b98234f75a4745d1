/-
  Part of the proof that the law FnExactRestoreLight returns true at every input; no condition beside the row's own.
-/
import Derived.Test.YtgpbibgbfklikaaGreatRe
import Derived.Test.YtgpbibgbfklikaaGreatChecked
import Derived.KernelRfl
import Derived.WalkKit
import Derived.Lib.Walk
import Derived.Lib.SliceRun
import Derived.Lib.JoinLaws
import Derived.Lib.AppendZeros
import Derived.Lib.Overlaps
import Derived.Laws.Externs
import Derived.Laws.IdiomCopy
import Derived.Shelf.RegionOpenPlain
import Derived.Lib.AppendZerosOnto
import Derived.Laws.NewBlocks
import Derived.Deep.AppendSrc
import Derived.Shelf.SlSortCmp.NoneTotal
set_option linter.defProp false
set_option linter.unusedSimpArgs false
set_option linter.unusedVariables false
namespace Vs
open Go
structure ay where
 A:Int
 B:Int
 Length:Int
 Risk:Int
 deriving DecidableEq
def ah(f:Fl)(x:ay):AV:=.agg [.i x.A,.i x.B,.i x.Length,.i x.Risk]
theorem eH(f:Fl)(x:ay):(ah f x).nrm=ah .o x:=by simp[ah,dS,gl,gn,dS]
theorem rY(f:Fl)(xs:List ay):(xs.map (ah f)).map AV.nrm=xs.map (ah .o):=by simp[eH]
theorem dN(f:Fl)(x:ay):(ah f x).als=ah f.als x:=by simp[ah,eM,gp,gB,dS]
theorem sd(f:Fl)(xs:List ay):(xs.map (ah f)).map AV.als=xs.map (ah f.als):=by simp[dN]
theorem rC(f:Fl):AV.als∘ah f=ah f.als:=by funext x;simp[dN]
theorem dV(f:Fl)(x:ay):(ah f x).fix=ah f.fix x:=by simp[ah,fE,fV,fW,dS]
theorem lR(f:Fl)(xs:List ay):(xs.map (ah f)).map AV.fix=xs.map (ah f.fix):=by simp[dV]
theorem nZ(x:ay):(ah .o x).fz=true:=by simp[ah,AV.i,AV.b,AV.z,eK,cE,dq,cG,cd,dr,di,dl,df,cF,dm,cI,eL,cJ,dh,cH,ce,dp,dg,dj]
theorem cY(xs:List ay):fzL (xs.map (ah .o))=true:=kr nZ xs
theorem oo(x:ay):(ah .u x).ouB=true:=by simp[ah,AV.i,AV.b,AV.z,eK,cE,dq,cG,cd,dr,di,dl,df,cF,dm,cI,eL,cJ,dh,cH,ce,dp,dg,dj]
theorem cX(xs:List ay):dC (xs.map (ah .u))=true:=kw oo xs
structure af where
 Nodes:List ByteArray
 Fibers:List ay
def aV(f:Fl)(x:af):AV:=.agg [.lst f 1 (x.Nodes.map AV.z),.lst f 4 (x.Fibers.map (ah f))]
theorem jO(f:Fl)(x:af):(aV f x).nrm=aV .o x:=by simp[aV,dS,gl,gn,eH,fU,jb]
theorem oC(f:Fl)(xs:List af):(xs.map (aV f)).map AV.nrm=xs.map (aV .o):=by simp[jO]
theorem gT(f:Fl)(x:af):(aV f x).als=aV f.als x:=by simp[aV,eM,gp,gB,dN,fT,iX]
theorem oL(f:Fl)(xs:List af):(xs.map (aV f)).map AV.als=xs.map (aV f.als):=by simp[gT]
theorem oO(f:Fl):AV.als∘aV f=aV f.als:=by funext x;simp[gT]
theorem gX(f:Fl)(x:af):(aV f x).fix=aV f.fix x:=by simp[aV,fE,fV,fW,dV,fk,gF]
theorem jH(f:Fl)(xs:List af):(xs.map (aV f)).map AV.fix=xs.map (aV f.fix):=by simp[gX]
theorem lT(x:af):(aV .o x).fz=true:=by simp[aV,AV.i,AV.b,AV.z,eK,cE,dq,cG,cd,dr,di,dl,df,cF,dm,cI,eL,cJ,dh,cH,ce,dp,dg,dj,cY,cX]
theorem pP(xs:List af):fzL (xs.map (aV .o))=true:=kr lT xs
theorem lQ(x:af):(aV .u x).ouB=true:=by simp[aV,AV.i,AV.b,AV.z,eK,cE,dq,cG,cd,dr,di,dl,df,cF,dm,cI,eL,cJ,dh,cH,ce,dp,dg,dj,cY,cX]
theorem qw(xs:List af):dC (xs.map (aV .u))=true:=kw lQ xs
structure ar where
 Start:Int
 Fibers:List Int
 deriving DecidableEq
def aA(f:Fl)(x:ar):AV:=.agg [.i x.Start,.lst f 1 (x.Fibers.map AV.i)]
theorem gC(f:Fl)(x:ar):(aA f x).nrm=aA .o x:=by simp[aA,dS,gl,gn,fU]
theorem si(f:Fl)(xs:List ar):(xs.map (aA f)).map AV.nrm=xs.map (aA .o):=by simp[gC]
theorem gr(f:Fl)(x:ar):(aA f x).als=aA f.als x:=by simp[aA,eM,gp,gB,fT]
theorem sn(f:Fl)(xs:List ar):(xs.map (aA f)).map AV.als=xs.map (aA f.als):=by simp[gr]
theorem rV(f:Fl):AV.als∘aA f=aA f.als:=by funext x;simp[gr]
theorem gu(f:Fl)(x:ar):(aA f x).fix=aA f.fix x:=by simp[aA,fE,fV,fW,fk]
theorem lW(f:Fl)(xs:List ar):(xs.map (aA f)).map AV.fix=xs.map (aA f.fix):=by simp[gu]
theorem od(x:ar):(aA .o x).fz=true:=by simp[aA,AV.i,AV.b,AV.z,eK,cE,dq,cG,cd,dr,di,dl,df,cF,dm,cI,eL,cJ,dh,cH,ce,dp,dg,dj]
theorem jl(xs:List ar):fzL (xs.map (aA .o))=true:=kr od xs
theorem nS(x:ar):(aA .u x).ouB=true:=by simp[aA,AV.i,AV.b,AV.z,eK,cE,dq,cG,cd,dr,di,dl,df,cF,dm,cI,eL,cJ,dh,cH,ce,dp,dg,dj]
theorem jg(xs:List ar):dC (xs.map (aA .u))=true:=kw nS xs
structure bc where
 First:Int
 Count:Int
 deriving DecidableEq
def bd(f:Fl)(x:bc):AV:=.agg [.i x.First,.i x.Count]
theorem ni(f:Fl)(x:bc):(bd f x).nrm=bd .o x:=by simp[bd,dS,gl,gn,dS]
theorem rZ(f:Fl)(xs:List bc):(xs.map (bd f)).map AV.nrm=xs.map (bd .o):=by simp[ni]
theorem jr(f:Fl)(x:bc):(bd f x).als=bd f.als x:=by simp[bd,eM,gp,gB,dS]
theorem rS(f:Fl)(xs:List bc):(xs.map (bd f)).map AV.als=xs.map (bd f.als):=by simp[jr]
theorem rG(f:Fl):AV.als∘bd f=bd f.als:=by funext x;simp[jr]
theorem jd(f:Fl)(x:bc):(bd f x).fix=bd f.fix x:=by simp[bd,fE,fV,fW,dS]
theorem lY(f:Fl)(xs:List bc):(xs.map (bd f)).map AV.fix=xs.map (bd f.fix):=by simp[jd]
theorem oy(x:bc):(bd .o x).fz=true:=by simp[bd,AV.i,AV.b,AV.z,eK,cE,dq,cG,cd,dr,di,dl,df,cF,dm,cI,eL,cJ,dh,cH,ce,dp,dg,dj]
theorem tv(xs:List bc):fzL (xs.map (bd .o))=true:=kr oy xs
theorem ob(x:bc):(bd .u x).ouB=true:=by simp[bd,AV.i,AV.b,AV.z,eK,cE,dq,cG,cd,dr,di,dl,df,cF,dm,cI,eL,cJ,dh,cH,ce,dp,dg,dj]
theorem tH(xs:List bc):dC (xs.map (bd .u))=true:=kw ob xs
structure aq where
 Id:Int
 Route:ar
 Block:bc
 deriving DecidableEq
def ai(f:Fl)(x:aq):AV:=.agg [.i x.Id,.i x.Route.Start,.lst f 1 (x.Route.Fibers.map AV.i),.i x.Block.First,.i x.Block.Count]
theorem gm(f:Fl)(x:aq):(ai f x).nrm=ai .o x:=by simp[ai,dS,gl,gn,fU]
theorem sa(f:Fl)(xs:List aq):(xs.map (ai f)).map AV.nrm=xs.map (ai .o):=by simp[gm]
theorem fH(f:Fl)(x:aq):(ai f x).als=ai f.als x:=by simp[ai,eM,gp,gB,fT]
theorem rU(f:Fl)(xs:List aq):(xs.map (ai f)).map AV.als=xs.map (ai f.als):=by simp[fH]
theorem se(f:Fl):AV.als∘ai f=ai f.als:=by funext x;simp[fH]
theorem fB(f:Fl)(x:aq):(ai f x).fix=ai f.fix x:=by simp[ai,fE,fV,fW,fk]
theorem lS(f:Fl)(xs:List aq):(xs.map (ai f)).map AV.fix=xs.map (ai f.fix):=by simp[fB]
theorem og(x:aq):(ai .o x).fz=true:=by simp[ai,AV.i,AV.b,AV.z,eK,cE,dq,cG,cd,dr,di,dl,df,cF,dm,cI,eL,cJ,dh,cH,ce,dp,dg,dj]
theorem fC(xs:List aq):fzL (xs.map (ai .o))=true:=kr og xs
theorem oi(x:aq):(ai .u x).ouB=true:=by simp[ai,AV.i,AV.b,AV.z,eK,cE,dq,cG,cd,dr,di,dl,df,cF,dm,cI,eL,cJ,dh,cH,ce,dp,dg,dj]
theorem fA(xs:List aq):dC (xs.map (ai .u))=true:=kw oi xs
structure aK where
 Network:af
 Lights:List aq
def bv(f:Fl)(x:aK):AV:=.agg [.lst f 1 (x.Network.Nodes.map AV.z),.lst f 4 (x.Network.Fibers.map (ah f)),.lst f 5 (x.Lights.map (ai f))]
theorem ov(f:Fl)(x:aK):(bv f x).nrm=bv .o x:=by simp[bv,dS,gl,gn,eH,gm,fU,jb]
theorem tt(f:Fl)(xs:List aK):(xs.map (bv f)).map AV.nrm=xs.map (bv .o):=by simp[ov]
theorem jX(f:Fl)(x:aK):(bv f x).als=bv f.als x:=by simp[bv,eM,gp,gB,dN,fH,fT,iX]
theorem tW(f:Fl)(xs:List aK):(xs.map (bv f)).map AV.als=xs.map (bv f.als):=by simp[jX]
theorem tP(f:Fl):AV.als∘bv f=bv f.als:=by funext x;simp[jX]
theorem kv(f:Fl)(x:aK):(bv f x).fix=bv f.fix x:=by simp[bv,fE,fV,fW,dV,fB,fk,gF]
theorem nq(f:Fl)(xs:List aK):(xs.map (bv f)).map AV.fix=xs.map (bv f.fix):=by simp[kv]
theorem pi(x:aK):(bv .o x).fz=true:=by simp[bv,AV.i,AV.b,AV.z,eK,cE,dq,cG,cd,dr,di,dl,df,cF,dm,cI,eL,cJ,dh,cH,ce,dp,dg,dj,cY,cX,fC,fA]
theorem wD(xs:List aK):fzL (xs.map (bv .o))=true:=kr pi xs
theorem pM(x:aK):(bv .u x).ouB=true:=by simp[bv,AV.i,AV.b,AV.z,eK,cE,dq,cG,cd,dr,di,dl,df,cF,dm,cI,eL,cJ,dh,cH,ce,dp,dg,dj,cY,cX,fC,fA]
theorem uT(xs:List aK):dC (xs.map (bv .u))=true:=kw pM xs
structure aj where
 Plan:aK
 Home:List aq
 Down:List Int
def aH(f:Fl)(x:aj):AV:=.agg [.lst f 1 (x.Plan.Network.Nodes.map AV.z),.lst f 4 (x.Plan.Network.Fibers.map (ah f)),.lst f 5 (x.Plan.Lights.map (ai f)),.lst f 5 (x.Home.map (ai f)),.lst f 1 (x.Down.map AV.i)]
theorem gL(f:Fl)(x:aj):(aH f x).nrm=aH .o x:=by simp[aH,dS,gl,gn,eH,gm,fU,jb]
theorem lC(f:Fl)(xs:List aj):(xs.map (aH f)).map AV.nrm=xs.map (aH .o):=by simp[gL]
theorem eV(f:Fl)(x:aj):(aH f x).als=aH f.als x:=by simp[aH,eM,gp,gB,dN,fH,fT,iX]
theorem lK(f:Fl)(xs:List aj):(xs.map (aH f)).map AV.als=xs.map (aH f.als):=by simp[eV]
theorem lE(f:Fl):AV.als∘aH f=aH f.als:=by funext x;simp[eV]
theorem fg(f:Fl)(x:aj):(aH f x).fix=aH f.fix x:=by simp[aH,fE,fV,fW,dV,fB,fk,gF]
theorem gk(f:Fl)(xs:List aj):(xs.map (aH f)).map AV.fix=xs.map (aH f.fix):=by simp[fg]
theorem il(x:aj):(aH .o x).fz=true:=by simp[aH,AV.i,AV.b,AV.z,eK,cE,dq,cG,cd,dr,di,dl,df,cF,dm,cI,eL,cJ,dh,cH,ce,dp,dg,dj,cY,cX,fC,fA]
theorem mb(xs:List aj):fzL (xs.map (aH .o))=true:=kr il xs
theorem ij(x:aj):(aH .u x).ouB=true:=by simp[aH,AV.i,AV.b,AV.z,eK,cE,dq,cG,cd,dr,di,dl,df,cF,dm,cI,eL,cJ,dh,cH,ce,dp,dg,dj,cY,cX,fC,fA]
theorem mg(xs:List aj):dC (xs.map (aH .u))=true:=kw ij xs
structure bK where
 n:af
 toF:Int
 list:List ar
def aR(f:Fl)(x:bK):AV:=.agg [.lst f 1 (x.n.Nodes.map AV.z),.lst f 4 (x.n.Fibers.map (ah f)),.i x.toF,.lst f 2 (x.list.map (aA f))]
theorem jG(f:Fl)(x:bK):(aR f x).nrm=aR .o x:=by simp[aR,dS,gl,gn,eH,gC,fU,jb]
theorem nF(f:Fl)(xs:List bK):(xs.map (aR f)).map AV.nrm=xs.map (aR .o):=by simp[jG]
theorem ge(f:Fl)(x:bK):(aR f x).als=aR f.als x:=by simp[aR,eM,gp,gB,dN,gr,fT,iX]
theorem nM(f:Fl)(xs:List bK):(xs.map (aR f)).map AV.als=xs.map (aR f.als):=by simp[ge]
theorem nO(f:Fl):AV.als∘aR f=aR f.als:=by funext x;simp[ge]
theorem gg(f:Fl)(x:bK):(aR f x).fix=aR f.fix x:=by simp[aR,fE,fV,fW,dV,gu,fk,gF]
theorem iQ(f:Fl)(xs:List bK):(xs.map (aR f)).map AV.fix=xs.map (aR f.fix):=by simp[gg]
theorem kG(x:bK):(aR .o x).fz=true:=by simp[aR,AV.i,AV.b,AV.z,eK,cE,dq,cG,cd,dr,di,dl,df,cF,dm,cI,eL,cJ,dh,cH,ce,dp,dg,dj,cY,cX,jl,jg]
theorem oM(xs:List bK):fzL (xs.map (aR .o))=true:=kr kG xs
theorem jW(x:bK):(aR .u x).ouB=true:=by simp[aR,AV.i,AV.b,AV.z,eK,cE,dq,cG,cd,dr,di,dl,df,cF,dm,cI,eL,cJ,dh,cH,ce,dp,dg,dj,cY,cX,jl,jg]
theorem oz(xs:List bK):dC (xs.map (aR .u))=true:=kw jW xs
def M_b(b:List ByteArray)(a:Int×Int):Option ((Int×Int)⊕(Int⊕Int)):=
 cond (decide (a.2<(b.length:Int))) ((bS b a.2).bind fun c=>cond (decide ((IntKind.wrap .i64 (a.1-(c.size:Int)))<0)) (some (.inr (.inr (-1)))) (some (.inl (IntKind.wrap .i64 (a.1-(c.size:Int)),IntKind.wrap .i64 (a.2+1))))) (some (.inr (.inl a.1)))
def KD(a:List ByteArray)(b:Int):Option Int:=
 cond (decide ((IntKind.wrap .i64 (b-(a.length:Int)))<0)) (some (-1)) ((bz (M_b a) N0 (IntKind.wrap .i64 (b-(a.length:Int)),0)).bind fun c=>(match c with| .inl d=>some d| .inr g=>some g))
def Jj(a:List ay)(b:Int):Option Int:=
 cond (decide ((IntKind.wrap .i64 (b-(a.length:Int)))<0)) (some (-1)) (some (IntKind.wrap .i64 (b-(a.length:Int))))
def Gn(a:af)(d:Int):Option Int:=
 (KD a.Nodes d).bind fun b=>cond (decide (b<0)) (some (-1)) ((Jj a.Fibers b).bind fun c=>cond (decide (c<0)) (some (-1)) (some c))
def CL(a:List Int)(b:Int):Option Int:=
 cond (decide ((IntKind.wrap .i64 (b-(a.length:Int)))<0)) (some (-1)) (some (IntKind.wrap .i64 (b-(a.length:Int))))
def Mv(b:ar)(c:Int):Option Int:=
 (CL b.Fibers c).bind fun a=>cond (decide (a<0)) (some (-1)) (some a)
def NF(b:aq)(c:Int):Option Int:=
 (Mv b.Route c).bind fun a=>cond (decide (a<0)) (some (-1)) (some a)
def M_y(b:List aq)(a:Int×Int):Option ((Int×Int)⊕(Int⊕Int)):=
 cond (decide (a.2<(b.length:Int))) ((bS b a.2).bind fun d=>(NF d a.1).bind fun c=>cond (decide (c<0)) (some (.inr (.inr (-1)))) (some (.inl (c,IntKind.wrap .i64 (a.2+1))))) (some (.inr (.inl a.1)))
def CG(a:List aq)(b:Int):Option Int:=
 cond (decide ((IntKind.wrap .i64 (b-(a.length:Int)))<0)) (some (-1)) ((bz (M_y a) N0 (IntKind.wrap .i64 (b-(a.length:Int)),0)).bind fun c=>(match c with| .inl d=>some d| .inr g=>some g))
def Ma(a:aK)(d:Int):Option Int:=
 (Gn a.Network d).bind fun b=>cond (decide (b<0)) (some (-1)) ((CG a.Lights b).bind fun c=>cond (decide (c<0)) (some (-1)) (some c))
def HP(a:aj)(g:Int):Option Int:=
 (Ma a.Plan g).bind fun b=>cond (decide (b<0)) (some (-1)) ((CG a.Home b).bind fun c=>cond (decide (c<0)) (some (-1)) ((CL a.Down c).bind fun d=>cond (decide (d<0)) (some (-1)) (some d)))
def Dv(b:List ByteArray)(a:Int×List ByteArray):Option ((Int×List ByteArray)⊕(List ByteArray)):=
 cond (decide (a.1<(b.length:Int))) ((bS b a.1).bind fun c=>(grd (0<=a.1/\a.1<(a.2.length:Int))).bind fun g=>(a.2[(Int.toNat a.1)]?).bind fun i=>bnd (a.2.set (Int.toNat a.1) c) fun d=>some (.inl (IntKind.wrap .i64 (a.1+1),d))) (some (.inr a.2))
def Ol(a:List ByteArray):Option (List ByteArray):=
 (grd (0<=(a.length:Int)/\(a.length:Int)<=(a.length:Int)/\(a.length:Int)*((16:Nat):Int)<=140737488355328/\(a.length:Int)<=9223372036854775807)).bind fun d=>bnd (List.replicate (Int.toNat (a.length:Int)) (⟨#[]⟩:ByteArray)) fun b=>(bz (Dv a) N0 (0,b)).bind fun c=>some c
def FH(a:ay):Option ay:=
 some (⟨a.A,a.B,a.Length,a.Risk⟩:ay)
def DD(b:List ay)(a:Int×List ay):Option ((Int×List ay)⊕(List ay)):=
 cond (decide (a.1<(b.length:Int))) ((bS b a.1).bind fun c=>(FH c).bind fun d=>(grd (0<=a.1/\a.1<(a.2.length:Int))).bind fun i=>(a.2[(Int.toNat a.1)]?).bind fun j=>bnd (a.2.set (Int.toNat a.1) d) fun g=>some (.inl (IntKind.wrap .i64 (a.1+1),g))) (some (.inr a.2))
def Nt(a:List ay):Option (List ay):=
 (grd (0<=(a.length:Int)/\(a.length:Int)<=(a.length:Int)/\(a.length:Int)*((32:Nat):Int)<=140737488355328/\(a.length:Int)<=9223372036854775807)).bind fun d=>bnd (List.replicate (Int.toNat (a.length:Int)) (⟨0,0,0,0⟩:ay)) fun b=>(bz (DD a) N0 (0,b)).bind fun c=>some c
def NA(a:af):Option af:=
 (Ol a.Nodes).bind fun b=>(Nt a.Fibers).bind fun c=>some (⟨b,c⟩:af)
def M_i(b:List Int)(a:Int×List Int):Option ((Int×List Int)⊕(List Int)):=
 cond (decide (a.1<(b.length:Int))) ((bS b a.1).bind fun c=>(grd (0<=a.1/\a.1<(a.2.length:Int))).bind fun g=>(a.2[(Int.toNat a.1)]?).bind fun i=>bnd (a.2.set (Int.toNat a.1) c) fun d=>some (.inl (IntKind.wrap .i64 (a.1+1),d))) (some (.inr a.2))
def FG(a:List Int):Option (List Int):=
 (grd (0<=(a.length:Int)/\(a.length:Int)<=(a.length:Int)/\(a.length:Int)*((8:Nat):Int)<=140737488355328/\(a.length:Int)<=9223372036854775807)).bind fun d=>bnd (List.replicate (Int.toNat (a.length:Int)) 0) fun b=>(bz (M_i a) N0 (0,b)).bind fun c=>some c
def GK(a:ar):Option ar:=
 (FG a.Fibers).bind fun b=>some (⟨a.Start,b⟩:ar)
def Gb(a:bc):Option bc:=
 some (⟨a.First,a.Count⟩:bc)
def DH(a:aq):Option aq:=
 (GK a.Route).bind fun b=>(Gb a.Block).bind fun c=>some (⟨a.Id,(⟨b.Start,b.Fibers⟩:ar),(⟨c.First,c.Count⟩:bc)⟩:aq)
def M_m(c:List aq)(a:Int×List aq):Option ((Int×List aq)⊕(List aq)):=
 cond (decide (a.1<(c.length:Int))) ((bS c a.1).bind fun d=>(DH d).bind fun b=>(grd (0<=a.1/\a.1<(a.2.length:Int))).bind fun i=>(a.2[(Int.toNat a.1)]?).bind fun j=>bnd (a.2.set (Int.toNat a.1) (⟨b.Id,(⟨b.Route.Start,b.Route.Fibers⟩:ar),(⟨b.Block.First,b.Block.Count⟩:bc)⟩:aq)) fun g=>some (.inl (IntKind.wrap .i64 (a.1+1),g))) (some (.inr a.2))
def Ei(a:List aq):Option (List aq):=
 (grd (0<=(a.length:Int)/\(a.length:Int)<=(a.length:Int)/\(a.length:Int)*((56:Nat):Int)<=140737488355328/\(a.length:Int)<=9223372036854775807)).bind fun d=>bnd (List.replicate (Int.toNat (a.length:Int)) (⟨0,(⟨0,[]⟩:ar),(⟨0,0⟩:bc)⟩:aq)) fun b=>(bz (M_m a) N0 (0,b)).bind fun c=>some c
def GN(a:aK):Option aK:=
 (NA a.Network).bind fun b=>(Ei a.Lights).bind fun c=>some (⟨(⟨b.Nodes,b.Fibers⟩:af),c⟩:aK)
def wA(a:aj):Option aj:=
 (GN a.Plan).bind fun b=>(Ei a.Home).bind fun c=>(FG a.Down).bind fun d=>some (⟨(⟨(⟨b.Network.Nodes,b.Network.Fibers⟩:af),b.Lights⟩:aK),c,d⟩:aj)
def M_d(a:Int)(b:Int)(c:Int):Option Bool:=
 cond (decide (b<=a)) (some (decide (a<=c))) (some false)
def MC(a:Int):Option Bool:=
 cond (decide (97<=a)) (cond (decide (a<=122)) (some true) (cond (decide (48<=a)) (some (decide (a<=57))) (some false))) (cond (decide (48<=a)) (some (decide (a<=57))) (some false))
def M_a(b:ByteArray)(a:Int):Option (Int⊕(Unit⊕Bool)):=
 cond (decide (a<(b.size:Int))) ((uh b a).bind fun c=>(MC (c.toNat:Int)).bind fun d=>cond (!d) (some (.inr (.inr false))) (some (.inl (IntKind.wrap .i64 (a+1))))) (some (.inr (.inl ())))
def Jm(a:ByteArray):Option Bool:=
 ((M_d (a.size:Int) 1 8).bind fun c=>cond (!c) (some true) ((uh a 0).bind fun b=>cond (decide ((b.toNat:Int)<97)) (some true) (some (decide (122<(b.toNat:Int))))):Option Bool).bind fun d=>cond (d) (some false) ((bz (M_a a) N0 0).bind fun g=>(match g with| .inl j=>some true| .inr i=>some i))
def ER(b:List ByteArray)(c:ByteArray)(a:Int):Option (Int⊕(Unit⊕Int)):=
 cond (decide (a<(b.length:Int))) ((bS b a).bind fun d=>cond (d.toList==c.toList) (some (.inr (.inr a))) (some (.inl (IntKind.wrap .i64 (a+1))))) (some (.inr (.inl ())))
def Jt(a:List ByteArray)(b:ByteArray):Option Int:=
 (bz (ER a b) N0 0).bind fun c=>(match c with| .inl g=>some (-1)| .inr d=>some d)
def HC(a:ay)(b:Int):Option Bool:=
 (M_d a.A 0 (IntKind.wrap .i64 (b-1))).bind fun c=>cond (c) ((M_d a.B (IntKind.wrap .i64 (a.A+1)) (IntKind.wrap .i64 (b-1))).bind fun d=>cond (d) ((M_d a.Length 1 5000).bind fun g=>cond (g) ((M_d a.Risk 0 9).bind fun i=>some i) (some false)) (some false)) (some false)
def NR(a:ay)(b:ay):Option Int:=
 cond (a.A !=b.A) (some (IntKind.wrap .i64 (a.A-b.A))) (cond (a.B !=b.B) (some (IntKind.wrap .i64 (a.B-b.B))) (cond (a.Length !=b.Length) (some (IntKind.wrap .i64 (a.Length-b.Length))) (some (IntKind.wrap .i64 (a.Risk-b.Risk)))))
def M_g(b:af)(a:Int):Option (Int⊕(Unit⊕Bool)):=
 cond (decide (a<(b.Nodes.length:Int))) (((bS b.Nodes a).bind fun c=>(Jm c).bind fun d=>cond (!d) (some true) ((Jt b.Nodes c).bind fun g=>some (g !=a)):Option Bool).bind fun i=>cond (i) (some (.inr (.inr false))) (some (.inl (IntKind.wrap .i64 (a+1))))) (some (.inr (.inl ())))
def Cl(b:af)(a:Int):Option (Int⊕(Unit⊕Bool)):=
 cond (decide (a<(b.Fibers.length:Int))) (((bS b.Fibers a).bind fun c=>(HC c (b.Nodes.length:Int)).bind fun d=>cond (!d) (some true) (cond (decide (0<a)) ((bS b.Fibers (IntKind.wrap .i64 (a-1))).bind fun g=>(NR g c).bind fun i=>some (decide (0<i))) (some false)):Option Bool).bind fun j=>cond (j) (some (.inr (.inr false))) (some (.inl (IntKind.wrap .i64 (a+1))))) (some (.inr (.inl ())))
def Aa(a:af):Option Bool:=
 ((M_d (a.Nodes.length:Int) 2 8).bind fun b=>cond (!b) (some true) (some (decide (14<(a.Fibers.length:Int)))):Option Bool).bind fun c=>cond (c) (some false) ((bz (M_g a) N0 0).bind fun d=>(match d with| .inl k=>(bz (Cl a) N0 0).bind fun g=>(match g with| .inl l=>some true| .inr i=>some i)| .inr j=>some j))
def zn(c:af)(d:Int)(b:Int):Option Int:=
 (bS c.Fibers d).bind fun a=>cond (b==a.A) (some a.B) (cond (b==a.B) (some a.A) (some (-1)))
def FM(b:List Int)(c:Int)(a:Int):Option (Int⊕(Unit⊕Bool)):=
 cond (decide (a<(b.length:Int))) ((bS b a).bind fun d=>cond (d==c) (some (.inr (.inr true))) (some (.inl (IntKind.wrap .i64 (a+1))))) (some (.inr (.inl ())))
def uI(a:List Int)(b:Int):Option Bool:=
 (bz (FM a b) N0 0).bind fun c=>(match c with| .inl g=>some false| .inr d=>some d)
def M_k(c:af)(d:ar)(a:Int×List Int):Option ((Int×List Int)⊕((List Int)⊕(List Int×Bool))):=
 cond (decide (a.1<(d.Fibers.length:Int))) ((bS d.Fibers a.1).bind fun g=>(M_d g 0 (IntKind.wrap .i64 ((c.Fibers.length:Int)-1))).bind fun i=>cond (!i) (some (.inr (.inr (a.2,false)))) ((grd (0<=(IntKind.wrap .i64 ((a.2.length:Int)-1))/\(IntKind.wrap .i64 ((a.2.length:Int)-1))<(a.2.length:Int))).bind fun q=>(a.2[(Int.toNat (IntKind.wrap .i64 ((a.2.length:Int)-1)))]?).bind fun j=>(zn c g j).bind fun b=>(cond (decide (b<0)) (some true) ((uI a.2 b).bind fun k=>some k):Option Bool).bind fun l=>cond (l) (some (.inr (.inr (a.2,false)))) (bnd ([b]) fun m=>(grd ((a.2.length+1)*8<=140737488355328)).bind fun s=>bnd (a.2++m) fun p=>some (.inl (IntKind.wrap .i64 (a.1+1),p))))) (some (.inr (.inl a.2)))
def Ca(b:af)(a:ar):Option (List Int×Bool):=
 bnd ([a.Start]) fun c=>((M_d a.Start 0 (IntKind.wrap .i64 ((b.Nodes.length:Int)-1))).bind fun d=>cond (!d) (some true) (some ((a.Fibers.length:Int)==0)):Option Bool).bind fun g=>cond (g) (some (c,false)) ((bz (M_k b a) N0 (0,c)).bind fun i=>(match i with| .inl j=>some (j,true)| .inr k=>some k))
def Df(a:af)(b:ar):Option Bool:=
 (Aa a).bind fun c=>cond (!c) (some false) ((Ca a b).bind fun d=>some d.2)
def MR(a:bc):Option Bool:=
 (M_d a.First 0 23).bind fun b=>cond (b) ((M_d a.Count 1 (IntKind.wrap .i64 (24-a.First))).bind fun c=>some c) (some false)
def Kq(b:af)(a:aq):Option Bool:=
 (M_d a.Id 1 999).bind fun c=>cond (c) ((Df b a.Route).bind fun d=>cond (d) ((MR a.Block).bind fun g=>some g) (some false)) (some false)
def EC(b:ar)(c:List Int)(a:Int):Option (Int⊕(Unit⊕Bool)):=
 cond (decide (a<(b.Fibers.length:Int))) ((bS b.Fibers a).bind fun d=>(uI c d).bind fun g=>cond (g) (some (.inr (.inr true))) (some (.inl (IntKind.wrap .i64 (a+1))))) (some (.inr (.inl ())))
def xb(a:ar)(b:List Int):Option Bool:=
 (bz (EC a b) N0 0).bind fun c=>(match c with| .inl g=>some false| .inr d=>some d)
def rT(a:bc):Option Int:=
 (grd (0<=(IntKind.wrap .u64 a.Count))).bind fun b=>(grd (0<=(IntKind.wrap .u64 a.First))).bind fun c=>some (IntKind.wrap .i64 ((IntKind.wrap .i64 ((IntKind.wrap .i64 (1*2^(min (Int.toNat (IntKind.wrap .u64 a.Count)) (IntKind.bits .i64))))-1))*2^(min (Int.toNat (IntKind.wrap .u64 a.First)) (IntKind.bits .i64))))
def Nf(a:aq)(b:aq):Option Bool:=
 (xb a.Route b.Route.Fibers).bind fun c=>cond (c) ((rT a.Block).bind fun d=>(rT b.Block).bind fun g=>some ((bits .and .i64 d g) !=0)) (some false)
def M_r(b:aK)(c:Int)(a:Int):Option (Int⊕(Unit⊕Bool)):=
 cond (decide (a<c)) ((bS b.Lights a).bind fun d=>(bS b.Lights c).bind fun g=>(Nf d g).bind fun i=>cond (i) (some (.inr (.inr false))) (some (.inl (IntKind.wrap .i64 (a+1))))) (some (.inr (.inl ())))
def Er(b:aK)(a:Int):Option (Int⊕(Unit⊕Bool)):=
 cond (decide (a<(b.Lights.length:Int))) ((((bS b.Lights a).bind fun c=>(Kq b.Network c).bind fun d=>cond (!d) (some true) (cond (decide (0<a)) ((bS b.Lights (IntKind.wrap .i64 (a-1))).bind fun g=>some (decide (c.Id<=g.Id))) (some false)):Option Bool).bind fun i=>cond (i) (some (.inr false)) ((bz (M_r b a) N0 0).bind fun j=>(match j with| .inl p=>some (.inl ())| .inr k=>some (.inr k))):Option (Unit⊕Bool)).bind fun l=>(match l with| .inl q=>some (.inl (IntKind.wrap .i64 (a+1)))| .inr m=>some (.inr (.inr m)))) (some (.inr (.inl ())))
def xZ(a:aK):Option Bool:=
 ((Aa a.Network).bind fun b=>cond (!b) (some true) (some (decide (12<(a.Lights.length:Int)))):Option Bool).bind fun c=>cond (c) (some false) ((bz (Er a) N0 0).bind fun d=>(match d with| .inl i=>some true| .inr g=>some g))
def EV(b:List Int)(d:Int)(g:Int)(a:Int):Option (Int⊕(Unit⊕Bool)):=
 cond (decide (a<(b.length:Int))) (((bS b a).bind fun c=>(M_d c d g).bind fun i=>cond (!i) (some true) (cond (decide (0<a)) ((bS b (IntKind.wrap .i64 (a-1))).bind fun j=>some (decide (c<=j))) (some false)):Option Bool).bind fun k=>cond (k) (some (.inr (.inr false))) (some (.inl (IntKind.wrap .i64 (a+1))))) (some (.inr (.inl ())))
def Ko(a:List Int)(b:Int)(c:Int):Option Bool:=
 (bz (EV a b c) N0 0).bind fun d=>(match d with| .inl i=>some true| .inr g=>some g)
def FN(b:List aq)(c:Int)(a:Int):Option (Int⊕(Unit⊕Int)):=
 cond (decide (a<(b.length:Int))) ((bS b a).bind fun d=>cond (d.Id==c) (some (.inr (.inr a))) (some (.inl (IntKind.wrap .i64 (a+1))))) (some (.inr (.inl ())))
def yB(a:List aq)(b:Int):Option Int:=
 (bz (FN a b) N0 0).bind fun c=>(match c with| .inl g=>some (-1)| .inr d=>some d)
def PK(a:af)(b:ar):Option (List Int):=
 (Ca a b).bind fun c=>some c.1
def yx(b:af)(c:ar):Option Int:=
 (PK b c).bind fun a=>(grd (0<=(IntKind.wrap .i64 ((a.length:Int)-1))/\(IntKind.wrap .i64 ((a.length:Int)-1))<(a.length:Int))).bind fun g=>(a[(Int.toNat (IntKind.wrap .i64 ((a.length:Int)-1)))]?).bind fun d=>some d
def FP(a:aj)(c:Int):Option (Int⊕(Unit⊕Bool)):=
 cond (decide (c<(a.Plan.Lights.length:Int))) ((bS a.Plan.Lights c).bind fun b=>(yB a.Home b.Id).bind fun g=>(cond (decide (g<0)) (some true) ((xb b.Route a.Down).bind fun i=>some i):Option Bool).bind fun j=>cond (j) (some (.inr (.inr false))) ((bS a.Home g).bind fun d=>(cond (b.Route.Start !=d.Route.Start) (some true) ((yx a.Plan.Network b.Route).bind fun k=>(yx a.Plan.Network d.Route).bind fun l=>cond (k !=l) (some true) (some (b.Block.Count !=d.Block.Count))):Option Bool).bind fun m=>cond (m) (some (.inr (.inr false))) (some (.inl (IntKind.wrap .i64 (c+1)))))) (some (.inr (.inl ())))
def CQ(a:aj):Option Bool:=
 ((xZ a.Plan).bind fun b=>cond (!b) (some true) ((xZ (⟨(⟨a.Plan.Network.Nodes,a.Plan.Network.Fibers⟩:af),a.Home⟩:aK)).bind fun c=>cond (!c) (some true) ((Ko a.Down 0 (IntKind.wrap .i64 ((a.Plan.Network.Fibers.length:Int)-1))).bind fun d=>some (!d))):Option Bool).bind fun g=>cond (g) (some false) ((bz (FP a) N0 0).bind fun i=>(match i with| .inl k=>some true| .inr j=>some j))
def Ey(b:aK)(c:Int)(a:Int):Option (Int⊕(Unit⊕Int)):=
 cond (decide (a<(b.Lights.length:Int))) ((bS b.Lights a).bind fun d=>cond (d.Id==c) (some (.inr (.inr a))) (some (.inl (IntKind.wrap .i64 (a+1))))) (some (.inr (.inl ())))
def Eb(a:aK)(b:Int):Option Int:=
 (bz (Ey a b) N0 0).bind fun c=>(match c with| .inl g=>some (-1)| .inr d=>some d)
def M_e(b:aK)(d:Int)(a:Int×Int):Option ((Int×Int)⊕Int):=
 cond (decide (a.2<(b.Lights.length:Int))) ((bS b.Lights a.2).bind fun c=>(uI c.Route.Fibers d).bind fun g=>cond (g) ((rT c.Block).bind fun i=>some (.inl (bits .or .i64 a.1 i,IntKind.wrap .i64 (a.2+1)))) (some (.inl (a.1,IntKind.wrap .i64 (a.2+1))))) (some (.inr a.1))
def Ho(a:aK)(b:Int):Option Int:=
 (bz (M_e a b) N0 (0,0)).bind fun c=>some c
def Ag(c:aK)(b:ar)(a:Int×Int):Option ((Int×Int)⊕Int):=
 cond (decide (a.2<(b.Fibers.length:Int))) ((bS b.Fibers a.2).bind fun d=>(Ho c d).bind fun g=>some (.inl (bits .or .i64 a.1 g,IntKind.wrap .i64 (a.2+1)))) (some (.inr a.1))
def zZ(a:aK)(b:ar):Option Int:=
 (bz (Ag a b) N0 (0,0)).bind fun c=>some c
def M_o(a:List Int):Option (List Int):=
 (grd (a.length*8<=140737488355328)).bind fun b=>some a
def Cp(a:ar):Option ar:=
 (M_o a.Fibers).bind fun b=>some (⟨a.Start,b⟩:ar)
def tU(a:aq):Option aq:=
 (Cp a.Route).bind fun b=>some (⟨a.Id,(⟨b.Start,b.Fibers⟩:ar),(⟨a.Block.First,a.Block.Count⟩:bc)⟩:aq)
def KO(a:af)(b:Int)(c:Int):Option Bool:=
 (Aa a).bind fun d=>cond (d) ((M_d b 0 (IntKind.wrap .i64 ((a.Nodes.length:Int)-1))).bind fun g=>cond (g) ((M_d c 0 (IntKind.wrap .i64 ((a.Nodes.length:Int)-1))).bind fun i=>cond (i) (some (b !=c)) (some false)) (some false)) (some false)
def EI(c:af)(b:ar)(a:Int×Int):Option ((Int×Int)⊕Int):=
 cond (decide (a.2<(b.Fibers.length:Int))) ((bS b.Fibers a.2).bind fun d=>(bS c.Fibers d).bind fun g=>some (.inl (IntKind.wrap .i64 (a.1+g.Length),IntKind.wrap .i64 (a.2+1)))) (some (.inr a.1))
def DE(a:af)(b:ar):Option Int:=
 (bz (EI a b) N0 (0,0)).bind fun c=>some c
def vq(a:Int):Option Int:=
 cond (decide (a<0)) (some (-1)) (cond (decide (0<a)) (some 1) (some 0))
def EP(b:ar)(g:ar)(a:Int):Option (Int⊕(Unit⊕Int)):=
 cond (decide (a<(b.Fibers.length:Int))) ((bS b.Fibers a).bind fun c=>(bS g.Fibers a).bind fun d=>cond (c !=d) ((vq (IntKind.wrap .i64 (c-d))).bind fun i=>some (.inr (.inr i))) (some (.inl (IntKind.wrap .i64 (a+1))))) (some (.inr (.inl ())))
def DY(c:af)(a:ar)(b:ar):Option Int:=
 (DE c a).bind fun d=>(DE c b).bind fun g=>cond ((IntKind.wrap .i64 (d-g)) !=0) ((vq (IntKind.wrap .i64 (d-g))).bind fun i=>some i) (cond ((IntKind.wrap .i64 ((a.Fibers.length:Int)-(b.Fibers.length:Int))) !=0) ((vq (IntKind.wrap .i64 ((a.Fibers.length:Int)-(b.Fibers.length:Int)))).bind fun j=>some j) ((bz (EP a b) N0 0).bind fun k=>(match k with| .inl p=>(vq (IntKind.wrap .i64 (a.Start-b.Start))).bind fun l=>some l| .inr m=>some m)))
def UC(c:ar)(d:List ByteArray)(g:List ay)(b:List ar)(a:Int):Option (Int⊕Int):=
 cond (decide (0<a)) ((grd (0<=(IntKind.wrap .i64 (a-1))/\(IntKind.wrap .i64 (a-1))<(b.length:Int))).bind fun k=>(b[(Int.toNat (IntKind.wrap .i64 (a-1)))]?).bind fun i=>(DY (⟨d,g⟩:af) c i).bind fun j=>cond (decide (j<0)) (some (.inl (IntKind.wrap .i64 (a-1)))) (some (.inr a))) (some (.inr a))
def Vh(d:ar)(g:List ByteArray)(i:List ay)(l:Int)(a:List ar):Option (List ByteArray×List ay×Int×List ar×List ar):=
 (bz (UC d g i a) N0 (a.length:Int)).bind fun b=>(grd (True/\0<=b/\True/\Int.toNat b<=a.length)).bind fun q=>bnd (fR a 0 (Int.toNat b)) fun c=>(grd (c.length*32<=140737488355328)).bind fun s=>bnd ([d]) fun m=>(grd ((c.length+1)*32<=140737488355328)).bind fun t=>bnd (c++m) fun j=>(grd (0<=b/\True/\Int.toNat b<=a.length/\True)).bind fun u=>bnd (fR a (Int.toNat b) (a.length-(Int.toNat b))) fun k=>(grd ((j.length+k.length)*32<=140737488355328)).bind fun v=>bnd (j++k) fun p=>some (g,i,l,p,a)
def Fi(c:ar)(d:List ByteArray)(g:List ay)(b:List ar)(a:Int):Option (Int⊕Int):=
 cond (decide (0<a)) ((grd (0<=(IntKind.wrap .i64 (a-1))/\(IntKind.wrap .i64 (a-1))<(b.length:Int))).bind fun k=>(b[(Int.toNat (IntKind.wrap .i64 (a-1)))]?).bind fun i=>(DY (⟨d,g⟩:af) c i).bind fun j=>cond (decide (j<0)) (some (.inl (IntKind.wrap .i64 (a-1)))) (some (.inr a))) (some (.inr a))
def Gs(d:ar)(g:List ByteArray)(i:List ay)(l:Int)(a:List ar):Option (List ByteArray×List ay×Int×List ar×List ar):=
 (bz (Fi d g i a) N0 (a.length:Int)).bind fun b=>(grd (True/\0<=b/\True/\Int.toNat b<=a.length)).bind fun q=>bnd (fR a 0 (Int.toNat b)) fun c=>(grd (c.length*32<=140737488355328)).bind fun s=>bnd ([d]) fun m=>(grd ((c.length+1)*32<=140737488355328)).bind fun t=>bnd (c++m) fun j=>(grd (0<=b/\True/\Int.toNat b<=a.length/\True)).bind fun u=>bnd (fR a (Int.toNat b) (a.length-(Int.toNat b))) fun k=>(grd ((j.length+k.length)*32<=140737488355328)).bind fun v=>bnd (j++k) fun p=>some (g,i,l,p,a)
def Ii(j:Int)(k:List Int)(d:List Int)(l:Int->List ByteArray->List ay->Int->List ar->List Int->List Int->Option (List ByteArray×List ay×Int×List ar×List Int))(m:Int)(a:Int×List ByteArray×List ay×Int×List ar):Option ((Int×List ByteArray×List ay×Int×List ar)⊕(List ByteArray×List ay×Int×List ar)):=
 (cond (decide (a.1<(a.2.2.1.length:Int))) (some (decide ((a.2.2.2.2.length:Int)<=200))) (some false):Option Bool).bind fun p=>cond (p) ((zn (⟨a.2.1,a.2.2.1⟩:af) a.1 m).bind fun c=>(cond (decide (0<=c)) ((uI d c).bind fun q=>some (!q)) (some false):Option Bool).bind fun s=>cond (s) ((M_o k).bind fun g=>bnd ([a.1]) fun t=>(grd ((g.length+1)*8<=140737488355328)).bind fun x=>bnd (g++t) fun u=>(M_o d).bind fun i=>bnd ([c]) fun v=>(grd ((i.length+1)*8<=140737488355328)).bind fun y=>bnd (i++v) fun w=>(l j a.2.1 a.2.2.1 a.2.2.2.1 a.2.2.2.2 u w).bind fun b=>some (.inl (IntKind.wrap .i64 (a.1+1),b.1,b.2.1,b.2.2.1,b.2.2.2.1))) (some (.inl (IntKind.wrap .i64 (a.1+1),a.2.1,a.2.2.1,a.2.2.2.1,a.2.2.2.2)))) (some (.inr (a.2.1,a.2.2.1,a.2.2.2.1,a.2.2.2.2)))
def EE(p:Int->List ByteArray->List ay->Int->List ar->List Int->List Int->Option (List ByteArray×List ay×Int×List ar×List Int))(g:Int)(i:List ByteArray)(j:List ay)(d:Int)(k:List ar)(l:List Int)(a:List Int):Option (List ByteArray×List ay×Int×List ar×List Int):=
 (grd (0<=(IntKind.wrap .i64 ((a.length:Int)-1))/\(IntKind.wrap .i64 ((a.length:Int)-1))<(a.length:Int))).bind fun q=>(a[(Int.toNat (IntKind.wrap .i64 ((a.length:Int)-1)))]?).bind fun m=>cond (m==d) ((Gs (⟨g,l⟩:ar) i j d k).bind fun b=>some (b.1,b.2.1,b.2.2.1,b.2.2.2.1,a)) ((bz (Ii g l a p m) N0 (0,i,j,d,k)).bind fun c=>some (c.1,c.2.1,c.2.2.1,c.2.2.2,a))
def ye:Nat->Int->List ByteArray->List ay->Int->List ar->List Int->List Int->Option (List ByteArray×List ay×Int×List ar×List Int)
 |0,_,_,_,_,_,_,_=>none
 |n+1,a,b,c,d,g,i,j=>EE (ye n) a b c d g i j
def Vj(j:Int)(d:List Int)(k:Int)(a:Int×List ByteArray×List ay×Int×List ar):Option ((Int×List ByteArray×List ay×Int×List ar)⊕(List ByteArray×List ay×Int×List ar)):=
 (cond (decide (a.1<(a.2.2.1.length:Int))) (some (decide ((a.2.2.2.2.length:Int)<=200))) (some false):Option Bool).bind fun l=>cond (l) ((zn (⟨a.2.1,a.2.2.1⟩:af) a.1 k).bind fun c=>(cond (decide (0<=c)) ((uI d c).bind fun m=>some (!m)) (some false):Option Bool).bind fun p=>cond (p) ((M_o ([])).bind fun g=>bnd ([a.1]) fun q=>(grd ((g.length+1)*8<=140737488355328)).bind fun v=>bnd (g++q) fun s=>(M_o d).bind fun i=>bnd ([c]) fun t=>(grd ((i.length+1)*8<=140737488355328)).bind fun w=>bnd (i++t) fun u=>(ye N0 j a.2.1 a.2.2.1 a.2.2.2.1 a.2.2.2.2 s u).bind fun b=>some (.inl (IntKind.wrap .i64 (a.1+1),b.1,b.2.1,b.2.2.1,b.2.2.2.1))) (some (.inl (IntKind.wrap .i64 (a.1+1),a.2.1,a.2.2.1,a.2.2.2.1,a.2.2.2.2)))) (some (.inr (a.2.1,a.2.2.1,a.2.2.2.1,a.2.2.2.2)))
def Qy(g:Int)(i:List ByteArray)(j:List ay)(d:Int)(a:List Int):Option (List ByteArray×List ay×Int×List ar×List Int):=
 (grd (0<=(IntKind.wrap .i64 ((a.length:Int)-1))/\(IntKind.wrap .i64 ((a.length:Int)-1))<(a.length:Int))).bind fun l=>(a[(Int.toNat (IntKind.wrap .i64 ((a.length:Int)-1)))]?).bind fun k=>cond (k==d) ((Vh (⟨g,[]⟩:ar) i j d ([])).bind fun b=>some (b.1,b.2.1,b.2.2.1,b.2.2.2.1,a)) ((bz (Vj g a k) N0 (0,i,j,d,[])).bind fun c=>some (c.1,c.2.1,c.2.2.1,c.2.2.2,a))
def DK(b:af)(c:Int)(d:Int):Option (Bool×List ar):=
 bnd ([c]) fun g=>(Qy c ((b).Nodes) ((b).Fibers) d g).bind fun a=>cond (decide (200<(a.2.2.2.1.length:Int))) (some (false,[])) ((grd (a.2.2.2.1.length*32<=140737488355328)).bind fun i=>some (true,a.2.2.2.1))
def Kx(a:af)(b:Int)(c:Int):Option (Bool×List ar):=
 (KO a b c).bind fun g=>cond (!g) (some (false,[])) ((DK a b c).bind fun d=>some (d.1,d.2))
def M_f(c:Int)(b:Int)(a:Int×List Int):Option ((Int×List Int)⊕(List Int)):=
 cond (decide ((IntKind.wrap .i64 (a.1+b))<=24)) ((rT (⟨a.1,b⟩:bc)).bind fun d=>cond ((bits .and .i64 c d)==0) (bnd ([a.1]) fun g=>(grd ((a.2.length+1)*8<=140737488355328)).bind fun j=>bnd (a.2++g) fun i=>some (.inl (IntKind.wrap .i64 (a.1+1),i))) (some (.inl (IntKind.wrap .i64 (a.1+1),a.2)))) (some (.inr a.2))
def Ni(a:Int)(b:Int):Option (List Int):=
 (bz (M_f a b) N0 (0,[])).bind fun c=>some c
def De(i:aj)(c:aq)(b:Bool×List ar)(a:Int):Option (Int⊕(Unit⊕(aq×Bool))):=
 (cond (decide (a<(b.2.length:Int))) (some b.1) (some false):Option Bool).bind fun k=>cond (k) ((grd (0<=a/\a<(b.2.length:Int))).bind fun q=>(b.2[(Int.toNat a)]?).bind fun d=>(xb d i.Down).bind fun l=>cond (l) (some (.inl (IntKind.wrap .i64 (a+1)))) ((zZ i.Plan d).bind fun m=>(Ni m c.Block.Count).bind fun g=>cond (decide (0<(g.length:Int))) ((Cp d).bind fun j=>(grd (0<=0/\0<(g.length:Int))).bind fun s=>(g[(Int.toNat 0)]?).bind fun p=>some (.inr (.inr ((⟨c.Id,(⟨j.Start,j.Fibers⟩:ar),(⟨p,c.Block.Count⟩:bc)⟩:aq),true)))) (some (.inl (IntKind.wrap .i64 (a+1)))))) (some (.inr (.inl ())))
def CT(b:aj)(a:aq):Option (aq×Bool):=
 ((xb a.Route b.Down).bind fun d=>cond (!d) ((zZ b.Plan a.Route).bind fun g=>(rT a.Block).bind fun i=>some ((bits .and .i64 g i)==0)) (some false):Option Bool).bind fun j=>cond (j) ((tU a).bind fun c=>some ((⟨c.Id,(⟨c.Route.Start,c.Route.Fibers⟩:ar),(⟨c.Block.First,c.Block.Count⟩:bc)⟩:aq),true)) ((yx b.Plan.Network a.Route).bind fun k=>(Kx b.Plan.Network a.Route.Start k).bind fun l=>(bz (De b a l) N0 0).bind fun m=>(match m with| .inl q=>some ((⟨0,(⟨0,[]⟩:ar),(⟨0,0⟩:bc)⟩:aq),false)| .inr p=>some p))
def Qe(a:af):Option af:=
 (grd (a.Nodes.length*16<=140737488355328)).bind fun b=>(grd (a.Fibers.length*32<=140737488355328)).bind fun c=>some (⟨a.Nodes,a.Fibers⟩:af)
def M_l(c:aK)(a:Int×List aq):Option ((Int×List aq)⊕(List aq)):=
 cond (decide (a.1<(c.Lights.length:Int))) ((bS c.Lights a.1).bind fun d=>(tU d).bind fun b=>bnd ([(⟨b.Id,(⟨b.Route.Start,b.Route.Fibers⟩:ar),(⟨b.Block.First,b.Block.Count⟩:bc)⟩:aq)]) fun g=>(grd ((a.2.length+1)*56<=140737488355328)).bind fun j=>bnd (a.2++g) fun i=>some (.inl (IntKind.wrap .i64 (a.1+1),i))) (some (.inr a.2))
def xQ(a:aK):Option aK:=
 (Qe a.Network).bind fun b=>(bz (M_l a) N0 (0,[])).bind fun c=>some (⟨(⟨b.Nodes,b.Fibers⟩:af),c⟩:aK)
def Cc(c:List aq)(a:Int×List aq):Option ((Int×List aq)⊕(List aq)):=
 cond (decide (a.1<(c.length:Int))) ((bS c a.1).bind fun d=>(tU d).bind fun b=>bnd ([(⟨b.Id,(⟨b.Route.Start,b.Route.Fibers⟩:ar),(⟨b.Block.First,b.Block.Count⟩:bc)⟩:aq)]) fun g=>(grd ((a.2.length+1)*56<=140737488355328)).bind fun j=>bnd (a.2++g) fun i=>some (.inl (IntKind.wrap .i64 (a.1+1),i))) (some (.inr a.2))
def Ns(a:List aq):Option (List aq):=
 (bz (Cc a) N0 (0,[])).bind fun b=>some b
def Cz(a:aj):Option aj:=
 (xQ a.Plan).bind fun b=>(Ns a.Home).bind fun c=>(M_o a.Down).bind fun d=>some (⟨(⟨(⟨b.Network.Nodes,b.Network.Fibers⟩:af),b.Lights⟩:aK),c,d⟩:aj)
def Co(c:Int)(b:aK)(a:Int):Option (Int⊕Int):=
 cond (decide (a<(b.Lights.length:Int))) ((grd (0<=a/\a<(b.Lights.length:Int))).bind fun g=>(b.Lights[(Int.toNat a)]?).bind fun d=>cond (decide (d.Id<c)) (some (.inl (IntKind.wrap .i64 (a+1)))) (some (.inr a))) (some (.inr a))
def NZ(g:Int)(q:Int)(s:Int)(t:Int)(i:List ByteArray)(j:List ay)(k:List aq)(l:List Int):Option (List ByteArray×List aq×List ay×List ByteArray×List ay×List aq×List Int):=
 (xQ (⟨(⟨i,j⟩:af),k⟩:aK)).bind fun a=>(bz (Co g a) N0 0).bind fun b=>(grd (True/\0<=b/\True/\Int.toNat b<=a.Lights.length)).bind fun w=>bnd (fR a.Lights 0 (Int.toNat b)) fun d=>(grd (d.length*56<=140737488355328)).bind fun x=>(tU (⟨g,(⟨q,l⟩:ar),(⟨s,t⟩:bc)⟩:aq)).bind fun c=>bnd ([(⟨c.Id,(⟨c.Route.Start,c.Route.Fibers⟩:ar),(⟨c.Block.First,c.Block.Count⟩:bc)⟩:aq)]) fun u=>(grd ((d.length+1)*56<=140737488355328)).bind fun y=>bnd (d++u) fun m=>(grd (0<=b/\True/\Int.toNat b<=a.Lights.length/\True)).bind fun z=>bnd (fR a.Lights (Int.toNat b) (a.Lights.length-(Int.toNat b))) fun p=>(grd ((m.length+p.length)*56<=140737488355328)).bind fun a1=>bnd (m++p) fun v=>some (a.Network.Nodes,v,a.Network.Fibers,i,j,k,l)
def Gu(k:Int)(d:List ByteArray)(g:List ay)(i:List aq)(c:List aq)(j:List Int):Option (Bool×List ByteArray×List ay×List aq×List aq×List Int×List ByteArray×List ay×List aq×List aq×List Int):=
 (grd (0<=k/\k<(c.length:Int))).bind fun p=>(c[(Int.toNat k)]?).bind fun m=>(CT (⟨(⟨(⟨d,g⟩:af),i⟩:aK),c,j⟩:aj) m).bind fun b=>(Cz (⟨(⟨(⟨d,g⟩:af),i⟩:aK),c,j⟩:aj)).bind fun a=>cond (b.2) ((NZ b.1.Id b.1.Route.Start b.1.Block.First b.1.Block.Count a.Plan.Network.Nodes a.Plan.Network.Fibers a.Plan.Lights b.1.Route.Fibers).bind fun l=>some (b.2,l.1,l.2.2.1,l.2.1,a.Home,a.Down,d,g,i,c,j)) (some (b.2,a.Plan.Network.Nodes,a.Plan.Network.Fibers,a.Plan.Lights,a.Home,a.Down,d,g,i,c,j))
def IL(i:Int)(c:List ByteArray)(d:List ay)(g:List aq)(b:List aq)(j:List Int):Option (Bool×Bool×List ByteArray×List ay×List aq×List aq×List Int×List ByteArray×List ay×List aq×List aq×List Int):=
 ((CQ (⟨(⟨(⟨c,d⟩:af),g⟩:aK),b,j⟩:aj)).bind fun k=>cond (!k) (some true) ((yB b i).bind fun l=>cond (decide (l<0)) (some true) ((Eb (⟨(⟨c,d⟩:af),g⟩:aK) i).bind fun m=>some (decide (0<=m)))):Option Bool).bind fun p=>cond (p) (some (false,false,[],[],[],[],[],c,d,g,b,j)) ((yB b i).bind fun q=>(Gu q c d g b j).bind fun a=>some (a.1,true,a.2.1,a.2.2.1,a.2.2.2.1,a.2.2.2.2.1,a.2.2.2.2.2.1,a.2.2.2.2.2.2.1,a.2.2.2.2.2.2.2.1,a.2.2.2.2.2.2.2.2.1,a.2.2.2.2.2.2.2.2.2.1,a.2.2.2.2.2.2.2.2.2.2))
def M_h(a:Int)(b:Int)(c:Int):Option Bool:=
 cond (decide (b<=a)) (some (decide (a<=c))) (some false)
def Dc(c:ByteArray)(b:Int):Option (Int⊕(Unit⊕Bool)):=
 cond (decide (b<(c.size:Int))) (((uh c b).bind fun a=>cond (decide (97<=(a.toNat:Int))) (cond (decide (48<=(a.toNat:Int))) (some (decide ((a.toNat:Int)<=122),decide ((a.toNat:Int)<=57))) (some (decide ((a.toNat:Int)<=122),false))) (cond (decide (48<=(a.toNat:Int))) (some (false,decide ((a.toNat:Int)<=57))) (some (false,false))):Option (Bool×Bool)).bind fun d=>cond (!d.1) (cond (!d.2) (some (.inr (.inr false))) (cond (b==0) (some (.inr (.inr false))) (some (.inl (IntKind.wrap .i64 (b+1)))))) (some (.inl (IntKind.wrap .i64 (b+1))))) (some (.inr (.inl ())))
def Hq(a:ByteArray):Option Bool:=
 (bz (Dc a) N0 0).bind fun b=>(match b with| .inl g=>(M_h (a.size:Int) 1 8).bind fun c=>some c| .inr d=>some d)
def Dk(b:List ByteArray)(c:ByteArray)(a:Int):Option (Int⊕(Unit⊕Int)):=
 cond (decide (a<(b.length:Int))) ((bS b a).bind fun d=>cond (c.toList==d.toList) (some (.inr (.inr a))) (some (.inl (IntKind.wrap .i64 (a+1))))) (some (.inr (.inl ())))
def RU(a:List ByteArray)(b:ByteArray):Option Int:=
 (bz (Dk a b) N0 0).bind fun c=>(match c with| .inl g=>some (-1)| .inr d=>some d)
def Mj(a:List ByteArray)(b:ByteArray):Option Bool:=
 (RU a b).bind fun c=>some (decide (0<=c))
def wI(a:Int):Option Bool:=
 some (a !=a)
def M_u(a:Int)(b:Int):Option Int:=
 (wI a).bind fun d=>(wI b).bind fun c=>cond (d) (cond (c) (some 0) (some (-1))) (cond (c) (some 1) (cond (decide (a<b)) (some (-1)) (cond (decide (b<a)) (some 1) (some 0))))
def M_q(b:List Int)(a:Int):Option (Int⊕(Unit⊕Int)):=
 cond (decide (a<(b.length:Int))) ((bS b a).bind fun c=>cond (c !=0) (some (.inr (.inr c))) (some (.inl (IntKind.wrap .i64 (a+1))))) (some (.inr (.inl ())))
def xY(a:List Int):Option Int:=
 (bz (M_q a) N0 0).bind fun b=>(match b with| .inl d=>some 0| .inr c=>some c)
def LD(a:ay)(b:ay):Option Int:=
 (M_u a.A b.A).bind fun c=>(M_u a.B b.B).bind fun d=>(M_u a.Length b.Length).bind fun g=>(M_u a.Risk b.Risk).bind fun i=>bnd ([c,d,g,i]) fun j=>(xY j).bind fun k=>some k
def Cr(b:af)(a:Int):Option (Int⊕(Unit⊕Bool)):=
 cond (decide (a<(b.Nodes.length:Int))) ((bS b.Nodes a).bind fun c=>(Hq c).bind fun d=>cond (!d) (some (.inr (.inr false))) ((slT b.Nodes a).bind fun g=>(Mj g c).bind fun i=>cond (i) (some (.inr (.inr false))) (some (.inl (IntKind.wrap .i64 (a+1)))))) (some (.inr (.inl ())))
def FR(c:af)(b:Int):Option (Int⊕(Unit⊕Bool)):=
 cond (decide (b<(c.Fibers.length:Int))) ((bS c.Fibers b).bind fun a=>cond (decide (a.A<0)) (some (.inr (.inr false))) (cond (decide (a.B<=a.A)) (some (.inr (.inr false))) (cond (decide ((c.Nodes.length:Int)<=a.B)) (some (.inr (.inr false))) ((M_h a.Length 1 5000).bind fun d=>cond (!d) (some (.inr (.inr false))) ((M_h a.Risk 0 9).bind fun g=>cond (!g) (some (.inr (.inr false))) (cond (decide (0<b)) ((bS c.Fibers (IntKind.wrap .i64 (b-1))).bind fun i=>(LD i a).bind fun j=>cond (decide (0<j)) (some (.inr (.inr false))) (some (.inl (IntKind.wrap .i64 (b+1))))) (some (.inl (IntKind.wrap .i64 (b+1)))))))))) (some (.inr (.inl ())))
def Fa(a:af):Option Bool:=
 (bz (Cr a) N0 0).bind fun b=>(match b with| .inl j=>(bz (FR a) N0 0).bind fun c=>(match c with| .inl k=>(M_h (a.Nodes.length:Int) 2 8).bind fun d=>cond (d) (some (decide ((a.Fibers.length:Int)<=14))) (some false)| .inr g=>some g)| .inr i=>some i)
def yK(a:ay)(b:Int):Option Int:=
 cond (b==a.A) (some a.B) (cond (b==a.B) (some a.A) (some (-1)))
def Ch(b:List Int)(c:Int)(a:Int):Option (Int⊕(Unit⊕Int)):=
 cond (decide (a<(b.length:Int))) ((bS b a).bind fun d=>cond (c==d) (some (.inr (.inr a))) (some (.inl (IntKind.wrap .i64 (a+1))))) (some (.inr (.inl ())))
def Rq(a:List Int)(b:Int):Option Int:=
 (bz (Ch a b) N0 0).bind fun c=>(match c with| .inl g=>some (-1)| .inr d=>some d)
def zk(a:List Int)(b:Int):Option Bool:=
 (Rq a b).bind fun c=>some (decide (0<=c))
def Fq(c:af)(d:ar)(a:Int×Int×List Int):Option ((Int×Int×List Int)⊕((List Int)⊕(List Int×Bool))):=
 cond (decide (a.2.1<(d.Fibers.length:Int))) ((bS d.Fibers a.2.1).bind fun g=>(M_h g 0 (IntKind.wrap .i64 ((c.Fibers.length:Int)-1))).bind fun i=>cond (!i) (some (.inr (.inr (([]),false)))) ((bS c.Fibers g).bind fun j=>(yK j a.1).bind fun b=>(cond (decide (b<0)) (some true) ((zk a.2.2 b).bind fun k=>some k):Option Bool).bind fun l=>cond (l) (some (.inr (.inr (([]),false)))) (bnd ([b]) fun m=>(grd ((a.2.2.length+1)*8<=140737488355328)).bind fun q=>bnd (a.2.2++m) fun p=>some (.inl (b,IntKind.wrap .i64 (a.2.1+1),p))))) (some (.inr (.inl a.2.2)))
def Cg(b:af)(a:ar):Option (List Int×Bool):=
 ((M_h a.Start 0 (IntKind.wrap .i64 ((b.Nodes.length:Int)-1))).bind fun c=>cond (!c) (some true) (some ((a.Fibers.length:Int)==0)):Option Bool).bind fun d=>cond (d) (some (([]),false)) (bnd ([a.Start]) fun g=>(bz (Fq b a) N0 (a.Start,0,g)).bind fun i=>(match i with| .inl j=>some (j,true)| .inr k=>some k))
def IE(a:bc):Option Bool:=
 cond (decide (0<=a.First)) ((M_h a.Count 1 24).bind fun b=>cond (b) (some (decide (a.First<=(IntKind.wrap .i64 (24-a.Count))))) (some false)) (some false)
def MF(b:af)(a:aq):Option Bool:=
 (Cg b a.Route).bind fun c=>cond (c.2) ((M_h a.Id 1 999).bind fun d=>cond (d) ((IE a.Block).bind fun g=>some g) (some false)) (some false)
def vm(a:bc):Option Int:=
 (grd (0<=a.Count)).bind fun b=>(grd (0<=a.First)).bind fun c=>some (IntKind.wrap .i64 ((IntKind.wrap .i64 ((IntKind.wrap .i64 (1*2^(min (Int.toNat a.Count) (IntKind.bits .i64))))-1))*2^(min (Int.toNat a.First) (IntKind.bits .i64))))
def Vl(c:Int):Option Int:=
 (cond (decide (4294967296<=c)) (some (Int.fdiv c (2^(min (Int.toNat 32) (IntKind.bits .u64))),32)) (some (c,0)):Option (Int×Int)).bind fun a=>(cond (decide (65536<=a.1)) (some (Int.fdiv a.1 (2^(min (Int.toNat 16) (IntKind.bits .u64))),IntKind.wrap .i64 (a.2+16))) (some (a.1,a.2)):Option (Int×Int)).bind fun b=>(cond (decide (256<=b.1)) (some (Int.fdiv b.1 (2^(min (Int.toNat 8) (IntKind.bits .u64))),IntKind.wrap .i64 (b.2+8))) (some (b.1,b.2)):Option (Int×Int)).bind fun d=>(uh (⟨#[0,1,2,2,3,3,3,3,4,4,4,4,4,4,4,4,5,5,5,5,5,5,5,5,5,5,5,5,5,5,5,5,6,6,6,6,6,6,6,6,6,6,6,6,6,6,6,6,6,6,6,6,6,6,6,6,6,6,6,6,6,6,6,6,7,7,7,7,7,7,7,7,7,7,7,7,7,7,7,7,7,7,7,7,7,7,7,7,7,7,7,7,7,7,7,7,7,7,7,7,7,7,7,7,7,7,7,7,7,7,7,7,7,7,7,7,7,7,7,7,7,7,7,7,7,7,7,7,8,8,8,8,8,8,8,8,8,8,8,8,8,8,8,8,8,8,8,8,8,8,8,8,8,8,8,8,8,8,8,8,8,8,8,8,8,8,8,8,8,8,8,8,8,8,8,8,8,8,8,8,8,8,8,8,8,8,8,8,8,8,8,8,8,8,8,8,8,8,8,8,8,8,8,8,8,8,8,8,8,8,8,8,8,8,8,8,8,8,8,8,8,8,8,8,8,8,8,8,8,8,8,8,8,8,8,8,8,8,8,8,8,8,8,8,8,8,8,8,8,8,8,8,8,8,8,8]⟩:ByteArray) (IntKind.wrap .u8 d.1)).bind fun g=>some (IntKind.wrap .i64 (d.2+(IntKind.wrap .i64 (g.toNat:Int))))
def NW(a:Int):Option Int:=
 (Vl a).bind fun b=>some b
def HY(a:Int)(b:Int):Option Bool:=
 (wI a).bind fun c=>cond (c) ((wI b).bind fun d=>cond (!d) (some true) (some (decide (a<b)))) (some (decide (a<b)))
def M_n(c:Int)(a:Int×List Int):Option ((Int×List Int)⊕(List Int)):=
 (cond (decide (c<a.1)) ((grd (0<=a.1/\a.1<(a.2.length:Int))).bind fun p=>(a.2[(Int.toNat a.1)]?).bind fun d=>(grd (0<=(IntKind.wrap .i64 (a.1-1))/\(IntKind.wrap .i64 (a.1-1))<(a.2.length:Int))).bind fun q=>(a.2[(Int.toNat (IntKind.wrap .i64 (a.1-1)))]?).bind fun g=>(HY d g).bind fun i=>some i) (some false):Option Bool).bind fun j=>cond (j) ((grd (0<=(IntKind.wrap .i64 (a.1-1))/\(IntKind.wrap .i64 (a.1-1))<(a.2.length:Int))).bind fun s=>(a.2[(Int.toNat (IntKind.wrap .i64 (a.1-1)))]?).bind fun k=>(grd (0<=a.1/\a.1<(a.2.length:Int))).bind fun t=>(a.2[(Int.toNat a.1)]?).bind fun l=>bnd (a.2.set (Int.toNat a.1) k) fun b=>(b[(Int.toNat (IntKind.wrap .i64 (a.1-1)))]?).bind fun u=>bnd (b.set (Int.toNat (IntKind.wrap .i64 (a.1-1))) l) fun m=>some (.inl (IntKind.wrap .i64 (a.1-1),m))) (some (.inr a.2))
def M_v(b:Int)(c:Int)(a:Int×List Int):Option ((Int×List Int)⊕(List Int)):=
 cond (decide (a.1<c)) (((bz (M_n b) N0 (a.1,a.2)).bind fun d=>some d:Option (List Int)).bind fun g=>some (.inl (IntKind.wrap .i64 (a.1+1),g))) (some (.inr a.2))
def NS(a:Int)(b:Int)(c:List Int):Option (List Int):=
 (bz (M_v a b) N0 (IntKind.wrap .i64 (a+1),c)).bind fun d=>some d
def Rz(a:Int)(b:Int)(c:Int)(d:List Int)(i:Unit):Option (Unit⊕(Empty⊕(List Int))):=
 cond (decide ((IntKind.wrap .i64 (b-a))<=12)) ((NS a b d).bind fun g=>some (.inr (.inr g))) (cond (c==0) (none) (none))
def RH(a:Int)(b:Int)(c:Int)(d:List Int):Option (List Int):=
 (bz (Rz a b c d) N0 ()).bind fun g=>(match g with| .inl i=>(i.elim)| .inr j=>some j)
def Lj(a:List Int):Option (List Int):=
 (NW (IntKind.wrap .u64 (a.length:Int))).bind fun b=>(RH 0 (a.length:Int) b a).bind fun c=>some c
def M_w(c:Nat)(d:Nat)(b:Int)(a:Int×Int×List Int):Option ((Int×Int×List Int)⊕(Int×List Int)):=
 cond (decide (a.2.1<(((d-(Int.toNat b)):Nat):Int))) ((grd (0<=a.2.1/\a.2.1<(((d-(Int.toNat b)):Nat):Int))).bind fun k=>(a.2.2[((c+(Int.toNat b))+(Int.toNat a.2.1))]?).bind fun g=>(grd (0<=(IntKind.wrap .i64 (a.2.1-1))/\(IntKind.wrap .i64 (a.2.1-1))<(((d-(Int.toNat b)):Nat):Int))).bind fun l=>(a.2.2[((c+(Int.toNat b))+(Int.toNat (IntKind.wrap .i64 (a.2.1-1))))]?).bind fun i=>cond (g !=i) ((grd (0<=a.1/\a.1<(d:Int))).bind fun m=>(a.2.2[(c+(Int.toNat a.1))]?).bind fun p=>bnd (a.2.2.set (c+(Int.toNat a.1)) g) fun j=>some (.inl (IntKind.wrap .i64 (a.1+1),IntKind.wrap .i64 (a.2.1+1),j))) (some (.inl (a.1,IntKind.wrap .i64 (a.2.1+1),a.2.2)))) (some (.inr (a.1,a.2.2)))
def M_z(d:Nat)(b:Nat)(g:List Int)(a:Int):Option (Int⊕(Unit⊕(Nat×Nat×List Int))):=
 cond (decide (a<(b:Int))) ((grd (0<=a/\a<(b:Int))).bind fun l=>(g[(d+(Int.toNat a))]?).bind fun i=>(grd (0<=(IntKind.wrap .i64 (a-1))/\(IntKind.wrap .i64 (a-1))<(b:Int))).bind fun m=>(g[(d+(Int.toNat (IntKind.wrap .i64 (a-1))))]?).bind fun j=>cond (i==j) ((grd (0<=a/\True/\Int.toNat a<=b/\True)).bind fun p=>(bz (M_w d b a) N0 (a,1,g)).bind fun c=>(grd (0<=c.1/\True/\Int.toNat c.1<=b/\True)).bind fun q=>bnd (dZ c.2 (d+(Int.toNat c.1)) (List.replicate (b-(Int.toNat c.1)) 0)) fun k=>(grd (True/\0<=c.1/\True/\Int.toNat c.1<=b)).bind fun s=>some (.inr (.inr (d,(Int.toNat c.1),k)))) (some (.inl (IntKind.wrap .i64 (a+1))))) (some (.inr (.inl ())))
def Ks(b:Nat)(a:Nat)(c:List Int):Option (Nat×Nat×List Int):=
 cond (decide ((a:Int)<2)) (some (b,a,c)) ((bz (M_z b a c) N0 1).bind fun d=>(match d with| .inl i=>some (b,a,c)| .inr g=>some g))
def zU(b:List Int)(d:List Int)(a:Int×List Int):Option ((Int×List Int)⊕(List Int)):=
 cond (decide (a.1<(b.length:Int))) ((bS b a.1).bind fun c=>(zk d c).bind fun g=>cond (g) (bnd ([c]) fun i=>(grd ((a.2.length+1)*8<=140737488355328)).bind fun k=>bnd (a.2++i) fun j=>some (.inl (IntKind.wrap .i64 (a.1+1),j))) (some (.inl (IntKind.wrap .i64 (a.1+1),a.2)))) (some (.inr a.2))
def wv(c:List Int)(d:List Int):Option (List Int):=
 (bz (zU c d) N0 (0,[])).bind fun b=>(Lj b).bind fun g=>(Ks 0 b.length g).bind fun a=>bnd (fR a.2.2 a.1 a.2.1) fun i=>some i
def DJ(a:aq)(b:aq):Option Bool:=
 (vm a.Block).bind fun c=>(vm b.Block).bind fun d=>cond ((bits .and .i64 c d) !=0) ((wv a.Route.Fibers b.Route.Fibers).bind fun g=>some (decide (0<(g.length:Int)))) (some false)
def CF(a:aq)(p1Z0:aq):Option Bool:=
 (DJ a p1Z0).bind fun b=>some b
def tx(b:List aq)(c:aq->Option Bool)(a:Int):Option (Int⊕(Unit⊕Int)):=
 cond (decide (a<(b.length:Int))) ((bS b a).bind fun d=>(c d).bind fun g=>cond (g) (some (.inr (.inr a))) (some (.inl (IntKind.wrap .i64 (a+1))))) (some (.inr (.inl ())))
def vF(a:List aq)(b:aq->Option Bool):Option Int:=
 (bz (tx a b) N0 0).bind fun c=>(match c with| .inl g=>some (-1)| .inr d=>some d)
def tN(a:List aq)(b:aq->Option Bool):Option Bool:=
 (vF a b).bind fun c=>some (decide (0<=c))
def Cj(b:aK)(a:Int):Option (Int⊕(Unit⊕Bool)):=
 cond (decide (a<(b.Lights.length:Int))) ((bS b.Lights a).bind fun c=>(MF b.Network c).bind fun d=>cond (!d) (some (.inr (.inr false))) (cond (decide (0<a)) ((bS b.Lights (IntKind.wrap .i64 (a-1))).bind fun g=>cond (decide (c.Id<=g.Id)) (some (.inr (.inr false))) ((slT b.Lights a).bind fun i=>(tN i (fun x0=>CF x0 c)).bind fun j=>cond (j) (some (.inr (.inr false))) (some (.inl (IntKind.wrap .i64 (a+1)))))) ((slT b.Lights a).bind fun k=>(tN k (fun x0=>CF x0 c)).bind fun l=>cond (l) (some (.inr (.inr false))) (some (.inl (IntKind.wrap .i64 (a+1))))))) (some (.inr (.inl ())))
def zi(a:aK):Option Bool:=
 ((Fa a.Network).bind fun b=>cond (!b) (some true) (some (decide (12<(a.Lights.length:Int)))):Option Bool).bind fun c=>cond (c) (some false) ((bz (Cj a) N0 0).bind fun d=>(match d with| .inl i=>some true| .inr g=>some g))
def Eo(b:List Int)(d:Int)(a:Int):Option (Int⊕(Unit⊕Bool)):=
 cond (decide (a<(b.length:Int))) ((bS b a).bind fun c=>(M_h c 0 (IntKind.wrap .i64 (d-1))).bind fun g=>cond (!g) (some (.inr (.inr false))) (cond (decide (0<a)) ((bS b (IntKind.wrap .i64 (a-1))).bind fun i=>cond (decide (c<=i)) (some (.inr (.inr false))) (some (.inl (IntKind.wrap .i64 (a+1))))) (some (.inl (IntKind.wrap .i64 (a+1)))))) (some (.inr (.inl ())))
def JR(a:List Int)(b:Int):Option Bool:=
 (bz (Eo a b) N0 0).bind fun c=>(match c with| .inl g=>some true| .inr d=>some d)
def Po(a:aq)(p1Z0:Int):Option Bool:=
 some (a.Id==p1Z0)
def Fu(a:aj)(b:Int):Option Int:=
 (vF a.Home (fun x0=>Po x0 b)).bind fun c=>some c
def xO(b:af)(c:ar):Option Int:=
 (Cg b c).bind fun a=>(grd (0<=(IntKind.wrap .i64 ((a.1.length:Int)-1))/\(IntKind.wrap .i64 ((a.1.length:Int)-1))<(a.1.length:Int))).bind fun g=>(a.1[(Int.toNat (IntKind.wrap .i64 ((a.1.length:Int)-1)))]?).bind fun d=>some d
def Kb(a:aq)(p1Z0:aj)(p2Z0:af):Option Bool:=
 (Fu p1Z0 a.Id).bind fun c=>(cond (decide (c<0)) (some true) ((wv a.Route.Fibers p1Z0.Down).bind fun d=>some (decide (0<(d.length:Int)))):Option Bool).bind fun g=>cond (g) (some true) ((bS p1Z0.Home c).bind fun b=>cond (b.Route.Start !=a.Route.Start) (some true) ((xO p2Z0 b.Route).bind fun i=>(xO p2Z0 a.Route).bind fun j=>cond (i !=j) (some true) (some (b.Block.Count !=a.Block.Count))))
def HD(a:aj):Option Bool:=
 ((zi a.Plan).bind fun b=>cond (!b) (some true) ((zi (⟨(⟨a.Plan.Network.Nodes,a.Plan.Network.Fibers⟩:af),a.Home⟩:aK)).bind fun c=>cond (!c) (some true) ((JR a.Down (a.Plan.Network.Fibers.length:Int)).bind fun d=>some (!d))):Option Bool).bind fun g=>cond (g) (some false) ((tN a.Plan.Lights (fun x0=>Kb x0 a a.Plan.Network)).bind fun i=>some (!i))
def Qg(a:aq)(p1Z0:Int):Option Bool:=
 some (a.Id==p1Z0)
def MO(a:aK)(b:Int):Option Int:=
 (vF a.Lights (fun x0=>Qg x0 b)).bind fun c=>some c
def EK(b:aj)(a:Int×List Int):Option ((Int×List Int)⊕(List Int)):=
 cond (decide (a.1<(b.Home.length:Int))) ((bS b.Home a.1).bind fun c=>(MO b.Plan c.Id).bind fun d=>cond (decide (d<0)) (bnd ([c.Id]) fun g=>(grd ((a.2.length+1)*8<=140737488355328)).bind fun j=>bnd (a.2++g) fun i=>some (.inl (IntKind.wrap .i64 (a.1+1),i))) (some (.inl (IntKind.wrap .i64 (a.1+1),a.2)))) (some (.inr a.2))
def Oh(a:aj):Option (List Int):=
 (bz (EK a) N0 (0,[])).bind fun b=>some b
def Qu(a:af):Option af:=
 (grd (a.Nodes.length*16<=140737488355328)).bind fun b=>(grd (a.Fibers.length*32<=140737488355328)).bind fun c=>some (⟨a.Nodes,a.Fibers⟩:af)
def Cb(a:ar):Option ar:=
 (grd (a.Fibers.length*8<=140737488355328)).bind fun b=>some (⟨a.Start,a.Fibers⟩:ar)
def EG(c:aK)(a:Int×List aq):Option ((Int×List aq)⊕(List aq)):=
 cond (decide (a.1<(c.Lights.length:Int))) ((bS c.Lights a.1).bind fun b=>(Cb b.Route).bind fun d=>bnd ([(⟨b.Id,(⟨d.Start,d.Fibers⟩:ar),(⟨b.Block.First,b.Block.Count⟩:bc)⟩:aq)]) fun g=>(grd ((a.2.length+1)*56<=140737488355328)).bind fun j=>bnd (a.2++g) fun i=>some (.inl (IntKind.wrap .i64 (a.1+1),i))) (some (.inr a.2))
def yl(a:aK):Option aK:=
 (Qu a.Network).bind fun b=>(bz (EG a) N0 (0,[])).bind fun c=>some (⟨(⟨b.Nodes,b.Fibers⟩:af),c⟩:aK)
def PL(a:List Int):Option (List Int):=
 (grd (a.length*8<=140737488355328)).bind fun b=>some a
def LK(a:aj):Option aj:=
 (yl a.Plan).bind fun b=>(yl (⟨(⟨[],[]⟩:af),a.Home⟩:aK)).bind fun c=>(PL a.Down).bind fun d=>some (⟨(⟨(⟨b.Network.Nodes,b.Network.Fibers⟩:af),b.Lights⟩:aK),c.Lights,d⟩:aj)
def QY(a:aq)(p1Z0:aq):Option Bool:=
 cond (a.Id !=p1Z0.Id) ((DJ a p1Z0).bind fun b=>some b) (some false)
def Ln(a:aj)(b:aq):Option Bool:=
 (wv b.Route.Fibers a.Down).bind fun c=>cond ((c.length:Int)==0) ((tN a.Plan.Lights (fun x0=>QY x0 b)).bind fun d=>some (!d)) (some false)
def Eh(b:aK)(c:aq)(a:Int):Option (Int⊕Int):=
 cond (decide (a<(b.Lights.length:Int))) ((bS b.Lights a).bind fun d=>cond (decide (d.Id<c.Id)) (some (.inl (IntKind.wrap .i64 (a+1)))) (some (.inr a))) (some (.inr a))
def ET(c:aK)(a:aq):Option aK:=
 (yl c).bind fun b=>(bz (Eh c a) N0 0).bind fun g=>(Cb a.Route).bind fun d=>bnd ([(⟨a.Id,(⟨d.Start,d.Fibers⟩:ar),(⟨a.Block.First,a.Block.Count⟩:bc)⟩:aq)]) fun i=>(yQ 56 b.Lights g i).bind fun j=>some (⟨(⟨b.Network.Nodes,b.Network.Fibers⟩:af),j⟩:aK)
def RB(a:Int)(p1Z0:af):Option Bool:=
 (M_h a 0 (IntKind.wrap .i64 ((p1Z0.Nodes.length:Int)-1))).bind fun b=>some (!b)
def CW(b:List Int)(c:Int->Option Bool)(a:Int):Option (Int⊕(Unit⊕Int)):=
 cond (decide (a<(b.length:Int))) ((bS b a).bind fun d=>(c d).bind fun g=>cond (g) (some (.inr (.inr a))) (some (.inl (IntKind.wrap .i64 (a+1))))) (some (.inr (.inl ())))
def Px(a:List Int)(b:Int->Option Bool):Option Int:=
 (bz (CW a b) N0 0).bind fun c=>(match c with| .inl g=>some (-1)| .inr d=>some d)
def GC(a:List Int)(b:Int->Option Bool):Option Bool:=
 (Px a b).bind fun c=>some (decide (0<=c))
def Ih(a:af)(b:List Int):Option Bool:=
 (Fa a).bind fun c=>cond (c) ((GC b (fun x0=>RB x0 a)).bind fun d=>some (!d)) (some false)
def Fd(a:List Int):Option (List Int):=
 cond (a.isEmpty) (amb (some ([])) ((grd (a.length*8<=140737488355328)).bind fun b=>some a)) ((grd (a.length*8<=140737488355328)).bind fun c=>some a)
def LB(j:Int)(d:Int)(g:List Int)(i:af)(k:Int->Int->List Int->Int->List ar->Int->af->Option (Int×List ar×Int×af))(a:Int×Int×List ar×Int×af):Option ((Int×Int×List ar×Int×af)⊕(Int×List ar×Int×af)):=
 cond (decide (a.1<(((i).Fibers).length:Int))) ((bS ((i).Fibers) a.1).bind fun l=>(yK l j).bind fun b=>(cond (decide (0<=b)) ((grd (0<=b)).bind fun s=>some ((bits .and .i64 (Int.fdiv d (2^(min (Int.toNat b) (IntKind.bits .i64)))) 1)==0)) (some false):Option Bool).bind fun m=>cond (m) ((grd (0<=b)).bind fun t=>bnd ([a.1]) fun p=>(grd ((g.length+1)*8<=140737488355328)).bind fun u=>bnd (g++p) fun q=>(k b (bits .or .i64 d (IntKind.wrap .i64 (1*2^(min (Int.toNat b) (IntKind.bits .i64))))) q a.2.1 a.2.2.1 a.2.2.2.1 a.2.2.2.2).bind fun c=>some (.inl (IntKind.wrap .i64 (a.1+1),c.1,c.2.1,c.2.2.1,c.2.2.2))) (some (.inl (IntKind.wrap .i64 (a.1+1),a.2.1,a.2.2.1,a.2.2.2.1,a.2.2.2.2)))) (some (.inr (a.2.1,a.2.2.1,a.2.2.2.1,a.2.2.2.2)))
def KM(k:Int->Int->List Int->Int->List ar->Int->af->Option (Int×List ar×Int×af))(i:Int)(l:Int)(j:List Int)(b:Int)(c:List ar)(d:Int)(g:af):Option (Int×List ar×Int×af):=
 cond (i==b) ((Fd j).bind fun m=>bnd ([(⟨d,m⟩:ar)]) fun p=>(grd ((c.length+1)*32<=140737488355328)).bind fun s=>bnd (c++p) fun q=>some (b,q,d,g)) ((bz (LB i l j g k) N0 (0,b,c,d,g)).bind fun a=>some (a.1,a.2.1,a.2.2.1,a.2.2.2))
def DU:Nat->Int->Int->List Int->Int->List ar->Int->af->Option (Int×List ar×Int×af)
 |0,_,_,_,_,_,_,_=>none
 |n+1,a,b,c,d,g,i,j=>KM (DU n) a b c d g i j
def UT(j:Int)(d:Int)(g:List Int)(i:af)(a:Int×Int×List ar×Int×af):Option ((Int×Int×List ar×Int×af)⊕(Int×List ar×Int×af)):=
 cond (decide (a.1<(((i).Fibers).length:Int))) ((bS ((i).Fibers) a.1).bind fun k=>(yK k j).bind fun b=>(cond (decide (0<=b)) ((grd (0<=b)).bind fun q=>some ((bits .and .i64 (Int.fdiv d (2^(min (Int.toNat b) (IntKind.bits .i64)))) 1)==0)) (some false):Option Bool).bind fun l=>cond (l) ((grd (0<=b)).bind fun s=>bnd ([a.1]) fun m=>(grd ((g.length+1)*8<=140737488355328)).bind fun t=>bnd (g++m) fun p=>(DU N0 b (bits .or .i64 d (IntKind.wrap .i64 (1*2^(min (Int.toNat b) (IntKind.bits .i64))))) p a.2.1 a.2.2.1 a.2.2.2.1 a.2.2.2.2).bind fun c=>some (.inl (IntKind.wrap .i64 (a.1+1),c.1,c.2.1,c.2.2.1,c.2.2.2))) (some (.inl (IntKind.wrap .i64 (a.1+1),a.2.1,a.2.2.1,a.2.2.2.1,a.2.2.2.2)))) (some (.inr (a.2.1,a.2.2.1,a.2.2.2.1,a.2.2.2.2)))
def OL(i:Int)(k:Int)(j:List Int)(b:Int)(c:List ar)(d:Int)(g:af):Option (Int×List ar×Int×af):=
 cond (i==b) ((Fd j).bind fun l=>bnd ([(⟨d,l⟩:ar)]) fun m=>(grd ((c.length+1)*32<=140737488355328)).bind fun q=>bnd (c++m) fun p=>some (b,p,d,g)) ((bz (UT i k j g) N0 (0,b,c,d,g)).bind fun a=>some (a.1,a.2.1,a.2.2.1,a.2.2.2))
def Vr(c:af)(b:ar)(a:Int×Int):Option ((Int×Int)⊕Int):=
 cond (decide (a.2<(b.Fibers.length:Int))) ((bS b.Fibers a.2).bind fun d=>(bS c.Fibers d).bind fun g=>some (.inl (IntKind.wrap .i64 (a.1+g.Length),IntKind.wrap .i64 (a.2+1)))) (some (.inr a.1))
def Nh(a:af)(b:ar):Option Int:=
 (bz (Vr a b) N0 (0,0)).bind fun c=>some c
def M_t(s1Z0:List Int)(s2Z0:List Int)(a:Int):Option (Int⊕(Unit⊕Int)):=
 cond (decide (a<(s1Z0.length:Int))) ((bS s1Z0 a).bind fun c=>cond (decide ((s2Z0.length:Int)<=a)) (some (.inr (.inr 1))) ((bS s2Z0 a).bind fun d=>(M_u c d).bind fun b=>cond (b !=0) (some (.inr (.inr b))) (some (.inl (IntKind.wrap .i64 (a+1)))))) (some (.inr (.inl ())))
def Ge(s1Z0:List Int)(s2Z0:List Int):Option Int:=
 (bz (M_t s1Z0 s2Z0) N0 0).bind fun a=>(match a with| .inl c=>cond (decide ((s1Z0.length:Int)<(s2Z0.length:Int))) (some (-1)) (some 0)| .inr b=>some b)
def Mq(c:af)(a:ar)(b:ar):Option Int:=
 (Nh c a).bind fun d=>(Nh c b).bind fun g=>(M_u d g).bind fun i=>(M_u (a.Fibers.length:Int) (b.Fibers.length:Int)).bind fun j=>(Ge a.Fibers b.Fibers).bind fun k=>(M_u a.Start b.Start).bind fun l=>bnd ([i,j,k,l]) fun m=>(xY m).bind fun p=>some p
def xM(a:ar)(b:ar)(p2Z0:af):Option Int:=
 (Mq p2Z0 a b).bind fun c=>some c
def Ib(b:af)(a:Int)(c:Int):Option (List ar):=
 (cond (a !=c) ((grd (0<=a)).bind fun j=>(OL a (IntKind.wrap .i64 (1*2^(min (Int.toNat a) (IntKind.bits .i64)))) ([]) c ([]) a b).bind fun d=>some (d.2.2.2,d.2.1)) (some (b,[])):Option (af×List ar)).bind fun g=>(ot (fun x0 x1=>xM x0 x1 g.1) g.2).bind fun i=>some i
def wx(c:af)(a:Int)(b:Int):Option (List ar×Bool):=
 (bnd ([a,b]) fun g=>(Ih c g).bind fun i=>cond (!i) (some true) (some (a==b)):Option Bool).bind fun j=>cond (j) (some (([]),false)) ((Ib c a b).bind fun d=>cond (decide (200<(d.length:Int))) (some (([]),false)) (some (d,true)))
def M_s(c:aq)(a:Int×List Int):Option ((Int×List Int)⊕(List Int)):=
 cond (decide (a.1<(c.Route.Fibers.length:Int))) ((bS c.Route.Fibers a.1).bind fun b=>(grd (0<=b/\b<(a.2.length:Int))).bind fun j=>(a.2[(Int.toNat b)]?).bind fun d=>(vm c.Block).bind fun g=>bnd (a.2.set (Int.toNat b) (bits .or .i64 d g)) fun i=>some (.inl (IntKind.wrap .i64 (a.1+1),i))) (some (.inr a.2))
def yL(b:aK)(a:Int×List Int):Option ((Int×List Int)⊕(List Int)):=
 cond (decide (a.1<(b.Lights.length:Int))) (((bS b.Lights a.1).bind fun c=>(bz (M_s c) N0 (0,a.2)).bind fun d=>some d:Option (List Int)).bind fun g=>some (.inl (IntKind.wrap .i64 (a.1+1),g))) (some (.inr a.2))
def FW(a:aK):Option (List Int):=
 (grd (0<=(a.Network.Fibers.length:Int)/\(a.Network.Fibers.length:Int)<=(a.Network.Fibers.length:Int)/\(a.Network.Fibers.length:Int)*((8:Nat):Int)<=140737488355328/\(a.Network.Fibers.length:Int)<=9223372036854775807)).bind fun d=>bnd (List.replicate (Int.toNat (a.Network.Fibers.length:Int)) 0) fun b=>(bz (yL a) N0 (0,b)).bind fun c=>some c
def M_x(c:ar)(d:List Int)(a:Int×Int):Option ((Int×Int)⊕Int):=
 cond (decide (a.2<(c.Fibers.length:Int))) ((bS c.Fibers a.2).bind fun b=>(grd (0<=b/\b<(d.length:Int))).bind fun i=>(d[(Int.toNat b)]?).bind fun g=>some (.inl (bits .or .i64 a.1 g,IntKind.wrap .i64 (a.2+1)))) (some (.inr a.1))
def Iq(a:aK)(b:ar):Option Int:=
 (FW a).bind fun c=>(bz (M_x b c) N0 (0,0)).bind fun d=>some d
def OA(a:Int):Option Bool:=
 (M_h a 0 16777215).bind fun b=>some b
def RC(a:Int)(b:Int):Option Bool:=
 (OA a).bind fun c=>cond (c) ((M_h b 1 24).bind fun d=>some d) (some false)
def IH(c:Int)(b:Int)(a:Int×List Int):Option ((Int×List Int)⊕(List Int)):=
 cond (decide ((IntKind.wrap .i64 (a.1+b))<=24)) ((vm (⟨a.1,b⟩:bc)).bind fun d=>cond ((bits .and .i64 c d)==0) (bnd ([a.1]) fun g=>(grd ((a.2.length+1)*8<=140737488355328)).bind fun j=>bnd (a.2++g) fun i=>some (.inl (IntKind.wrap .i64 (a.1+1),i))) (some (.inl (IntKind.wrap .i64 (a.1+1),a.2)))) (some (.inr a.2))
def Hh(a:Int)(b:Int):Option (List Int):=
 (bz (IH a b) N0 (0,[])).bind fun c=>some c
def GS(c:Int)(a:Int):Option (bc×Bool):=
 (RC c a).bind fun d=>cond (!d) (some ((⟨0,0⟩:bc),false)) ((Hh c a).bind fun b=>cond ((b.length:Int)==0) (some ((⟨0,0⟩:bc),false)) ((grd (0<=0/\0<(b.length:Int))).bind fun i=>(b[(Int.toNat 0)]?).bind fun g=>some ((⟨g,a⟩:bc),true)))
def DL(c:aj)(k:Int)(j:aj)(l:aq)(d:List ar×Bool)(a:Int):Option (Int⊕(Unit⊕(aj×Bool))):=
 cond (decide (a<(d.1.length:Int))) ((grd (0<=a/\a<(d.1.length:Int))).bind fun q=>(d.1[(Int.toNat a)]?).bind fun b=>(wv b.Fibers c.Down).bind fun m=>cond (decide (0<(m.length:Int))) (some (.inl (IntKind.wrap .i64 (a+1)))) ((Iq c.Plan b).bind fun p=>(GS p l.Block.Count).bind fun g=>cond (g.2) ((ET c.Plan (⟨k,(⟨b.Start,b.Fibers⟩:ar),(⟨g.1.First,g.1.Count⟩:bc)⟩:aq)).bind fun i=>some (.inr (.inr ((⟨(⟨(⟨i.Network.Nodes,i.Network.Fibers⟩:af),i.Lights⟩:aK),j.Home,j.Down⟩:aj),true)))) (some (.inl (IntKind.wrap .i64 (a+1)))))) (some (.inr (.inl ())))
def FQ(b:aj)(g:Int):Option (aj×Bool):=
 (LK b).bind fun a=>(Fu b g).bind fun j=>(bS b.Home j).bind fun c=>(Ln b c).bind fun k=>cond (k) ((ET b.Plan c).bind fun d=>some ((⟨(⟨(⟨d.Network.Nodes,d.Network.Fibers⟩:af),d.Lights⟩:aK),a.Home,a.Down⟩:aj),true)) ((xO b.Plan.Network c.Route).bind fun l=>(wx b.Plan.Network c.Route.Start l).bind fun i=>cond (!i.2) (some ((⟨(⟨(⟨a.Plan.Network.Nodes,a.Plan.Network.Fibers⟩:af),a.Plan.Lights⟩:aK),a.Home,a.Down⟩:aj),false)) ((bz (DL b g a c i) N0 0).bind fun m=>(match m with| .inl q=>some ((⟨(⟨(⟨a.Plan.Network.Nodes,a.Plan.Network.Fibers⟩:af),a.Plan.Lights⟩:aK),a.Home,a.Down⟩:aj),false)| .inr p=>some p)))
def Ce(b:aj)(c:Int):Option (aj×Bool×Bool):=
 ((HD b).bind fun d=>cond (!d) (some true) ((Oh b).bind fun g=>(zk g c).bind fun i=>some (!i)):Option Bool).bind fun j=>cond (j) (some ((⟨(⟨(⟨[],[]⟩:af),[]⟩:aK),[],[]⟩:aj),false,false)) ((FQ b c).bind fun a=>some ((⟨(⟨(⟨a.1.Plan.Network.Nodes,a.1.Plan.Network.Fibers⟩:af),a.1.Plan.Lights⟩:aK),a.1.Home,a.1.Down⟩:aj),a.2,true))
def Di(b:List ByteArray)(c:List ByteArray)(a:Int):Option (Int⊕(Unit⊕Bool)):=
 cond (decide (a<(b.length:Int))) ((bS b a).bind fun d=>(bS c a).bind fun g=>cond (!(d.toList==g.toList)) (some (.inr (.inr false))) (some (.inl (IntKind.wrap .i64 (a+1))))) (some (.inr (.inl ())))
def IA(a:List ByteArray)(b:List ByteArray):Option Bool:=
 cond ((a.length:Int) !=(b.length:Int)) (some false) ((bz (Di a b) N0 0).bind fun c=>(match c with| .inl g=>some true| .inr d=>some d))
def FB(a:ay)(b:ay):Option Bool:=
 cond (a.A !=b.A) (some false) (cond (a.B !=b.B) (some false) (cond (a.Length !=b.Length) (some false) (cond (a.Risk !=b.Risk) (some false) (some true))))
def Ew(b:List ay)(c:List ay)(a:Int):Option (Int⊕(Unit⊕Bool)):=
 cond (decide (a<(b.length:Int))) ((bS b a).bind fun d=>(bS c a).bind fun g=>(FB d g).bind fun i=>cond (!i) (some (.inr (.inr false))) (some (.inl (IntKind.wrap .i64 (a+1))))) (some (.inr (.inl ())))
def Og(a:List ay)(b:List ay):Option Bool:=
 cond ((a.length:Int) !=(b.length:Int)) (some false) ((bz (Ew a b) N0 0).bind fun c=>(match c with| .inl g=>some true| .inr d=>some d))
def Iw(a:af)(b:af):Option Bool:=
 (IA a.Nodes b.Nodes).bind fun c=>cond (!c) (some false) ((Og a.Fibers b.Fibers).bind fun d=>cond (!d) (some false) (some true))
def Cf(b:List Int)(c:List Int)(a:Int):Option (Int⊕(Unit⊕Bool)):=
 cond (decide (a<(b.length:Int))) ((bS b a).bind fun d=>(bS c a).bind fun g=>cond (d !=g) (some (.inr (.inr false))) (some (.inl (IntKind.wrap .i64 (a+1))))) (some (.inr (.inl ())))
def Fp(a:List Int)(b:List Int):Option Bool:=
 cond ((a.length:Int) !=(b.length:Int)) (some false) ((bz (Cf a b) N0 0).bind fun c=>(match c with| .inl g=>some true| .inr d=>some d))
def KA(a:ar)(b:ar):Option Bool:=
 cond (a.Start !=b.Start) (some false) ((Fp a.Fibers b.Fibers).bind fun c=>cond (!c) (some false) (some true))
def Jx(a:bc)(b:bc):Option Bool:=
 cond (a.First !=b.First) (some false) (cond (a.Count !=b.Count) (some false) (some true))
def Ef(a:aq)(b:aq):Option Bool:=
 cond (a.Id !=b.Id) (some false) ((KA a.Route b.Route).bind fun c=>cond (!c) (some false) ((Jx a.Block b.Block).bind fun d=>cond (!d) (some false) (some true)))
def EY(b:List aq)(c:List aq)(a:Int):Option (Int⊕(Unit⊕Bool)):=
 cond (decide (a<(b.length:Int))) ((bS b a).bind fun d=>(bS c a).bind fun g=>(Ef d g).bind fun i=>cond (!i) (some (.inr (.inr false))) (some (.inl (IntKind.wrap .i64 (a+1))))) (some (.inr (.inl ())))
def Fj(a:List aq)(b:List aq):Option Bool:=
 cond ((a.length:Int) !=(b.length:Int)) (some false) ((bz (EY a b) N0 0).bind fun c=>(match c with| .inl g=>some true| .inr d=>some d))
def Nd(a:aK)(b:aK):Option Bool:=
 (Iw a.Network b.Network).bind fun c=>cond (!c) (some false) ((Fj a.Lights b.Lights).bind fun d=>cond (!d) (some false) (some true))
def xg(a:aj)(b:aj):Option Bool:=
 (Nd a.Plan b.Plan).bind fun c=>cond (!c) (some false) ((Fj a.Home b.Home).bind fun d=>cond (!d) (some false) ((Fp a.Down b.Down).bind fun g=>cond (!g) (some false) (some true)))
def CK(a:Int×ByteArray):Option ((Int×ByteArray)⊕ByteArray):=
 cond (decide (0<a.1)) ((grd (10≠0)).bind fun c=>bnd ([IntKind.wrap .u8 (IntKind.wrap .i64 (48+(Int.tmod a.1 10)))]) fun b=>(grd ((b2s b).size+a.2.size<=9223372036854775807)).bind fun d=>(grd (10≠0)).bind fun g=>some (.inl (IntKind.wrap .i64 (Int.tdiv a.1 10),(b2s b)++a.2))) (some (.inr a.2))
def wU(a:Int):Option ByteArray:=
 cond (decide (a<=0)) (some (⟨#[109,48]⟩:ByteArray)) ((bz (CK) N0 (a,(⟨#[]⟩:ByteArray))).bind fun b=>(grd ((⟨#[109]⟩:ByteArray).size+b.size<=9223372036854775807)).bind fun c=>some ((⟨#[109]⟩:ByteArray)++b))
def Du(a:Int×Int×List ByteArray):Option ((Int×Int×List ByteArray)⊕(Int×List ByteArray)):=
 cond (decide (a.2.1<(a.2.2.length:Int))) ((wU a.1).bind fun b=>(grd (0<=a.2.1/\a.2.1<(a.2.2.length:Int))).bind fun d=>(a.2.2[(Int.toNat a.2.1)]?).bind fun g=>bnd (a.2.2.set (Int.toNat a.2.1) b) fun c=>some (.inl (IntKind.wrap .i64 (a.1+1),IntKind.wrap .i64 (a.2.1+1),c))) (some (.inr (a.1,a.2.2)))
def Gx(b:Int)(c:List ByteArray):Option (Int×List ByteArray):=
 (bz (Du) N0 (b,0,c)).bind fun a=>some (a.1,a.2)
def Fn(a:Int×Int×List ay):Option ((Int×Int×List ay)⊕(Int×List ay)):=
 cond (decide (a.2.1<(a.2.2.length:Int))) ((grd (0<=a.2.1/\a.2.1<(a.2.2.length:Int))).bind fun m=>(a.2.2[(Int.toNat a.2.1)]?).bind fun b=>bnd (a.2.2.set (Int.toNat a.2.1) (⟨a.1,b.B,b.Length,b.Risk⟩:ay)) fun i=>(i[(Int.toNat a.2.1)]?).bind fun c=>bnd (i.set (Int.toNat a.2.1) (⟨c.A,IntKind.wrap .i64 (a.1+1),c.Length,c.Risk⟩:ay)) fun j=>(j[(Int.toNat a.2.1)]?).bind fun d=>bnd (j.set (Int.toNat a.2.1) (⟨d.A,d.B,IntKind.wrap .i64 ((IntKind.wrap .i64 (a.1+1))+1),d.Risk⟩:ay)) fun k=>(k[(Int.toNat a.2.1)]?).bind fun g=>bnd (k.set (Int.toNat a.2.1) (⟨g.A,g.B,g.Length,IntKind.wrap .i64 ((IntKind.wrap .i64 ((IntKind.wrap .i64 (a.1+1))+1))+1)⟩:ay)) fun l=>some (.inl (IntKind.wrap .i64 ((IntKind.wrap .i64 ((IntKind.wrap .i64 ((IntKind.wrap .i64 (a.1+1))+1))+1))+1),IntKind.wrap .i64 (a.2.1+1),l))) (some (.inr (a.1,a.2.2)))
def HM(b:Int)(c:List ay):Option (Int×List ay):=
 (bz (Fn) N0 (b,0,c)).bind fun a=>some (a.1,a.2)
def MP(c:Int)(d:List ByteArray)(g:List ay):Option (Int×List ByteArray×List ay):=
 (Gx c d).bind fun a=>(HM a.1 g).bind fun b=>some (b.1,a.2,b.2)
def Dx(a:Int×Int×List Int):Option ((Int×Int×List Int)⊕(Int×List Int)):=
 cond (decide (a.2.1<(a.2.2.length:Int))) ((grd (0<=a.2.1/\a.2.1<(a.2.2.length:Int))).bind fun c=>(a.2.2[(Int.toNat a.2.1)]?).bind fun d=>bnd (a.2.2.set (Int.toNat a.2.1) a.1) fun b=>some (.inl (IntKind.wrap .i64 (a.1+1),IntKind.wrap .i64 (a.2.1+1),b))) (some (.inr (a.1,a.2.2)))
def CE(b:Int)(c:List Int):Option (Int×List Int):=
 (bz (Dx) N0 (b,0,c)).bind fun a=>some (a.1,a.2)
def Ck(a:Int×Int×List aq):Option ((Int×Int×List aq)⊕(Int×List aq)):=
 cond (decide (a.2.1<(a.2.2.length:Int))) ((grd (0<=a.2.1/\a.2.1<(a.2.2.length:Int))).bind fun s=>(a.2.2[(Int.toNat a.2.1)]?).bind fun c=>bnd (a.2.2.set (Int.toNat a.2.1) (⟨a.1,(⟨c.Route.Start,c.Route.Fibers⟩:ar),(⟨c.Block.First,c.Block.Count⟩:bc)⟩:aq)) fun k=>(k[(Int.toNat a.2.1)]?).bind fun d=>bnd (k.set (Int.toNat a.2.1) (⟨d.Id,(⟨IntKind.wrap .i64 (a.1+1),d.Route.Fibers⟩:ar),(⟨d.Block.First,d.Block.Count⟩:bc)⟩:aq)) fun l=>(l[(Int.toNat a.2.1)]?).bind fun b=>(CE (IntKind.wrap .i64 ((IntKind.wrap .i64 (a.1+1))+1)) b.Route.Fibers).bind fun g=>bnd (l.set (Int.toNat a.2.1) (⟨b.Id,(⟨b.Route.Start,g.2⟩:ar),(⟨b.Block.First,b.Block.Count⟩:bc)⟩:aq)) fun m=>(m[(Int.toNat a.2.1)]?).bind fun i=>bnd (m.set (Int.toNat a.2.1) (⟨i.Id,(⟨i.Route.Start,i.Route.Fibers⟩:ar),(⟨g.1,i.Block.Count⟩:bc)⟩:aq)) fun p=>(p[(Int.toNat a.2.1)]?).bind fun j=>bnd (p.set (Int.toNat a.2.1) (⟨j.Id,(⟨j.Route.Start,j.Route.Fibers⟩:ar),(⟨j.Block.First,IntKind.wrap .i64 (g.1+1)⟩:bc)⟩:aq)) fun q=>some (.inl (IntKind.wrap .i64 ((IntKind.wrap .i64 (g.1+1))+1),IntKind.wrap .i64 (a.2.1+1),q))) (some (.inr (a.1,a.2.2)))
def Ej(b:Int)(c:List aq):Option (Int×List aq):=
 (bz (Ck) N0 (b,0,c)).bind fun a=>some (a.1,a.2)
def Oc(c:Int)(d:List ByteArray)(g:List ay)(i:List aq):Option (Int×List ByteArray×List ay×List aq):=
 (MP c d g).bind fun a=>(Ej a.1 i).bind fun b=>some (b.1,a.2.1,a.2.2,b.2)
def EN(d:Int)(g:List ByteArray)(i:List ay)(j:List aq)(k:List aq)(l:List Int):Option (Int×List ByteArray×List ay×List aq×List aq×List Int):=
 (Oc d g i j).bind fun a=>(Ej a.1 k).bind fun b=>(CE b.1 l).bind fun c=>some (c.1,a.2.1,a.2.2.1,a.2.2.2,b.2,c.2)
def Es(b:List ByteArray)(a:Int×Int):Option ((Int×Int)⊕(Int⊕Int)):=
 cond (decide (a.2<(b.length:Int))) ((bS b a.2).bind fun c=>(wU a.1).bind fun d=>cond (!(c.toList==d.toList)) (some (.inr (.inr (-1)))) (some (.inl (IntKind.wrap .i64 (a.1+1),IntKind.wrap .i64 (a.2+1))))) (some (.inr (.inl a.1)))
def FE(a:List ByteArray)(b:Int):Option Int:=
 (bz (Es a) N0 (b,0)).bind fun c=>(match c with| .inl d=>some d| .inr g=>some g)
def Fe(c:List ay)(a:Int×Int):Option ((Int×Int)⊕(Int⊕Int)):=
 cond (decide (a.2<(c.length:Int))) ((bS c a.2).bind fun b=>cond (b.A !=a.1) (some (.inr (.inr (-1)))) (cond (b.B !=(IntKind.wrap .i64 (a.1+1))) (some (.inr (.inr (-1)))) (cond (b.Length !=(IntKind.wrap .i64 ((IntKind.wrap .i64 (a.1+1))+1))) (some (.inr (.inr (-1)))) (cond (b.Risk !=(IntKind.wrap .i64 ((IntKind.wrap .i64 ((IntKind.wrap .i64 (a.1+1))+1))+1))) (some (.inr (.inr (-1)))) (some (.inl (IntKind.wrap .i64 ((IntKind.wrap .i64 ((IntKind.wrap .i64 ((IntKind.wrap .i64 (a.1+1))+1))+1))+1),IntKind.wrap .i64 (a.2+1)))))))) (some (.inr (.inl a.1)))
def Ec(a:List ay)(b:Int):Option Int:=
 (bz (Fe a) N0 (b,0)).bind fun c=>(match c with| .inl d=>some d| .inr g=>some g)
def EB(a:af)(d:Int):Option Int:=
 (FE a.Nodes d).bind fun b=>cond (decide (b<0)) (some (-1)) ((Ec a.Fibers b).bind fun c=>cond (decide (c<0)) (some (-1)) (some c))
def FL(b:List Int)(a:Int×Int):Option ((Int×Int)⊕(Int⊕Int)):=
 cond (decide (a.2<(b.length:Int))) ((bS b a.2).bind fun c=>cond (c !=a.1) (some (.inr (.inr (-1)))) (some (.inl (IntKind.wrap .i64 (a.1+1),IntKind.wrap .i64 (a.2+1))))) (some (.inr (.inl a.1)))
def uZ(a:List Int)(b:Int):Option Int:=
 (bz (FL a) N0 (b,0)).bind fun c=>(match c with| .inl d=>some d| .inr g=>some g)
def Dn(d:List aq)(a:Int×Int):Option ((Int×Int)⊕(Int⊕Int)):=
 cond (decide (a.2<(d.length:Int))) ((bS d a.2).bind fun b=>cond (b.Id !=a.1) (some (.inr (.inr (-1)))) (cond (b.Route.Start !=(IntKind.wrap .i64 (a.1+1))) (some (.inr (.inr (-1)))) ((uZ b.Route.Fibers (IntKind.wrap .i64 ((IntKind.wrap .i64 (a.1+1))+1))).bind fun c=>cond (decide (c<0)) (some (.inr (.inr (-1)))) (cond (b.Block.First !=c) (some (.inr (.inr (-1)))) (cond (b.Block.Count !=(IntKind.wrap .i64 (c+1))) (some (.inr (.inr (-1)))) (some (.inl (IntKind.wrap .i64 ((IntKind.wrap .i64 (c+1))+1),IntKind.wrap .i64 (a.2+1))))))))) (some (.inr (.inl a.1)))
def xf(a:List aq)(b:Int):Option Int:=
 (bz (Dn a) N0 (b,0)).bind fun c=>(match c with| .inl d=>some d| .inr g=>some g)
def Fw(a:aK)(d:Int):Option Int:=
 (EB a.Network d).bind fun b=>cond (decide (b<0)) (some (-1)) ((xf a.Lights b).bind fun c=>cond (decide (c<0)) (some (-1)) (some c))
def uY(a:aj)(g:Int):Option Int:=
 (Fw a.Plan g).bind fun b=>cond (decide (b<0)) (some (-1)) ((xf a.Home b).bind fun c=>cond (decide (c<0)) (some (-1)) ((uZ a.Down c).bind fun d=>cond (decide (d<0)) (some (-1)) (some d)))
def Ph(c:aj)(m:Int):Option Bool:=
 (HP c 1048576).bind fun x=>cond (decide (x<0)) (some true) ((wA c).bind fun j=>(IL m j.Plan.Network.Nodes j.Plan.Network.Fibers j.Plan.Lights j.Home j.Down).bind fun b=>(wA (⟨(⟨(⟨c.Plan.Network.Nodes,c.Plan.Network.Fibers⟩:af),c.Plan.Lights⟩:aK),c.Home,c.Down⟩:aj)).bind fun d=>(Ce (⟨(⟨(⟨d.Plan.Network.Nodes,d.Plan.Network.Fibers⟩:af),d.Plan.Lights⟩:aK),d.Home,d.Down⟩:aj) m).bind fun a=>((xg (⟨(⟨(⟨a.1.Plan.Network.Nodes,a.1.Plan.Network.Fibers⟩:af),a.1.Plan.Lights⟩:aK),a.1.Home,a.1.Down⟩:aj) (⟨(⟨(⟨b.2.2.1,b.2.2.2.1⟩:af),b.2.2.2.2.1⟩:aK),b.2.2.2.2.2.1,b.2.2.2.2.2.2.1⟩:aj)).bind fun y=>cond (!y) (some true) (cond (!(a.2.1==b.1)) (some true) (some (!(a.2.2==b.2.1)))):Option Bool).bind fun z=>cond (z) (some false) ((wA (⟨(⟨(⟨c.Plan.Network.Nodes,c.Plan.Network.Fibers⟩:af),c.Plan.Lights⟩:aK),c.Home,c.Down⟩:aj)).bind fun k=>(xg (⟨(⟨(⟨d.Plan.Network.Nodes,d.Plan.Network.Fibers⟩:af),d.Plan.Lights⟩:aK),d.Home,d.Down⟩:aj) (⟨(⟨(⟨k.Plan.Network.Nodes,k.Plan.Network.Fibers⟩:af),k.Plan.Lights⟩:aK),k.Home,k.Down⟩:aj)).bind fun a1=>cond (!a1) (some false) ((EN 1 d.Plan.Network.Nodes d.Plan.Network.Fibers d.Plan.Lights d.Home d.Down).bind fun b1=>(cond (decide (b1.1<0)) (some true) ((xg (⟨(⟨(⟨a.1.Plan.Network.Nodes,a.1.Plan.Network.Fibers⟩:af),a.1.Plan.Lights⟩:aK),a.1.Home,a.1.Down⟩:aj) (⟨(⟨(⟨b.2.2.1,b.2.2.2.1⟩:af),b.2.2.2.2.1⟩:aK),b.2.2.2.2.2.1,b.2.2.2.2.2.2.1⟩:aj)).bind fun c1=>cond (!c1) (some true) (cond (!(a.2.1==b.1)) (some true) (some (!(a.2.2==b.2.1))))):Option Bool).bind fun d1=>cond (d1) (some false) ((EN 1 a.1.Plan.Network.Nodes a.1.Plan.Network.Fibers a.1.Plan.Lights a.1.Home a.1.Down).bind fun g=>bnd (fR g.2.1 0 a.1.Plan.Network.Nodes.length) fun p=>bnd (fR g.2.2.1 0 a.1.Plan.Network.Fibers.length) fun q=>bnd (fR g.2.2.2.1 0 a.1.Plan.Lights.length) fun s=>bnd (fR g.2.2.2.2.1 0 a.1.Home.length) fun t=>bnd (fR g.2.2.2.2.2 0 a.1.Down.length) fun u=>(uY (⟨(⟨(⟨p,q⟩:af),s⟩:aK),t,u⟩:aj) 1).bind fun v=>cond (decide (v<0)) (some false) (cond (v !=g.1) (some false) ((wA (⟨(⟨(⟨c.Plan.Network.Nodes,c.Plan.Network.Fibers⟩:af),c.Plan.Lights⟩:aK),c.Home,c.Down⟩:aj)).bind fun l=>(Ce (⟨(⟨(⟨l.Plan.Network.Nodes,l.Plan.Network.Fibers⟩:af),l.Plan.Lights⟩:aK),l.Home,l.Down⟩:aj) m).bind fun i=>((xg (⟨(⟨(⟨i.1.Plan.Network.Nodes,i.1.Plan.Network.Fibers⟩:af),i.1.Plan.Lights⟩:aK),i.1.Home,i.1.Down⟩:aj) (⟨(⟨(⟨b.2.2.1,b.2.2.2.1⟩:af),b.2.2.2.2.1⟩:aK),b.2.2.2.2.2.1,b.2.2.2.2.2.2.1⟩:aj)).bind fun g1=>cond (!g1) (some true) (cond (!(i.2.1==b.1)) (some true) (some (!(i.2.2==b.2.1)))):Option Bool).bind fun i1=>cond (i1) (some false) ((uY (⟨(⟨(⟨p,q⟩:af),s⟩:aK),t,u⟩:aj) 1).bind fun w=>cond (decide (w<0)) (some false) (cond (w !=g.1) (some false) (some true)))))))))
end Vs

set_option linter.unusedVariables false
set_option linter.unusedSimpArgs false
namespace Vs
open Go Go.Proofs Go.Shelf Go.RowKit Go.Lib
section
variable{P:Program}
theorem jI(b:Nat)(vs:List Value)(o:Nat)(w:World)(h:∀j,j<vs.length->(w.cell? ⟨b,o+j,none⟩).isSome=true)(k:Nat)(hk:(w.cell? ⟨b,k,none⟩).isSome=true):((w.setCells b o vs).cell? ⟨b,k,none⟩).isSome=true:=by
 by_cases hin:o<=k/\k<o+vs.length
 ·have:=World.cell?_setCells_in b vs o w h (k-o) (by omega);rw[show o+(k-o)=k by omega] at this;rw[this];rfl
 ·rw[World.cell?_setCells_out b vs o w ⟨b,k,none⟩ (fun _ _=>by show k<o\/o+vs.length<=k;omega)];exact hk
theorem eT(w:World)(dT sT ty elem:TypeId)(k:Nat)(b o dLen dCap:Nat)(a:Addr)(sLen sCap:Nat)(cs:List Value)
 (hu:P.underlying dT=some (.slice elem)) (hs:(P.info? elem).map (·.size)=some k) (hn:cs.length=Nat.min sLen dLen*k)
 (hsrc:∀j v,cs[j]?=some v->w.cell? (a.add j)=some v) (hc:∀j,j<cs.length->(w.cell? ⟨b,o+j,none⟩).isSome=true) (hf:∀j,j<cs.length->w.frozen? ⟨b,o+j,none⟩=false) (h1:∀v∈cs,v.oneCell'=true):
 (Builtin.copy_ #[dT,sT] ty #[.slice (some ⟨b,o,none⟩) dLen dCap,.slice (some a) sLen sCap]).run P w=.ok (goInt (Nat.min sLen dLen)) (w.setCells b o cs):=by
 have hl:=run_loadCells_list (P:=P) w a cs hsrc;have hst:=run_storeCells_cells (P:=P) b o cs 0 w (by simpa using hc) (by simpa using hf) h1;cases hq:P.info? elem with
 |none=>simp[hq] at hs
 | some i =>
   have hi:i.size=k:=by simpa[hq] using hs
   simp[Builtin.copy_,run_underlying hu,Builtin.lenOf,Builtin.firstCells,Go.sizeOf,typeInfo,hq,hi,<-hn,hl,hst]
theorem ut(w:World){o:Oper}{a:Act}{K:Act->World->Prop}{Q:Exit->Act->World->Prop}(d s:Operand)(t t':TypeId)
 (ho:o.op=.call {callee:=.builtin .copy,args:=#[d,s],argTypes:=#[t,t']}) (v u:Value) (hd:a.eval d=v) (hs:a.eval s=u) {v':Value} {w':World}
 (hr:(Builtin.copy_ #[t,t'] o.type #[v,u]).run P w=.ok v' w') (h:K (a.put o.dst v') w'):o.wp P a w K Q:=by
 unfold Oper.wp execOp;simp only[ho,resolve,invoke,builtin,Sem.run_bind,Sem.run_pure,Result.andThen_ok,List.map_toArray,List.map_cons,List.map_nil,hd,hs,hr];exact h
theorem fS(w:World){ops:Array Oper}{rest:List Oper}{o:Oper}{a:Act}{Q:Exit->Act->World->Prop}(hgd:o.guard=none)(d s:Operand)(t t':TypeId)
 (ho:o.op=.call {callee:=.builtin .copy,args:=#[d,s],argTypes:=#[t,t']}) (v u:Value) (hd:a.eval d=v) (hs:a.eval s=u) {v':Value} {w':World}
 (hr:(Builtin.copy_ #[t,t'] o.type #[v,u]).run P w=.ok v' w') (h:wpList P ops Q rest (a.put o.dst v') w'):wpList P ops Q (o::rest) a w:=
 wpList_plain hgd fun _ hK=>ut w d s t t' ho v u hd hs hr (hK _ _ h)
theorem km{ops:Array Oper}{o:Oper}{a:Act}{w:World}{K:Act->World->Prop}{Q:Exit->Act->World->Prop}{E:Prop}
 (hg:o.guard=none) (d x:Operand) (dT sT:TypeId) (hop:o.op=Op.call {callee:=Callee.builtin Builtin.copy,args:=#[d,x],argTypes:=#[dT,sT]})
 (v u:Value) (hd:a.eval d=v) (hx:a.eval x=u) {v':Value} {w':World} (hr:(Builtin.copy_ #[dT,sT] o.type #[v,u]).run P w=.ok v' w') (hK:K (a.put o.dst v') w'):
 if Region.wanted o (yielded ops a.tmps)=true then Oper.wp P o a w K Q else E:=by
 have hw:Region.wanted o (yielded ops a.tmps)=true:=by simp[Region.wanted,hg]
 rw[if_pos hw];unfold Oper.wp;simp[execOp,hop,resolve,invoke,builtin,hd,hx,hr,Result.andThen];exact hK
set_option maxHeartbeats 4000000 in
set_option maxRecDepth 100000 in
theorem Fb(b off n c i vb voff m vc:Nat)(cs vs:List Value)(w:World)(hi:i<n)(hm:0<m)(hroom:n+m<=c)(hbig:(n+m)*56<=140737488355328)(hvb:vb≠b)
 (hcl:cs.length=n*5) (hvl:vs.length=m*5)
 (hcs:∀j v,cs[j]?=some v->w.cell? ⟨b,off+j,none⟩=some v) (hsp:∀j,j<(n+m)*5->(w.cell? ⟨b,off+j,none⟩).isSome=true) (hfz:∀j,j<(n+m)*5->w.frozen? ⟨b,off+j,none⟩=false)
 (hvs:∀j v,vs[j]?=some v->w.cell? ⟨vb,voff+j,none⟩=some v) (h1c:∀v∈cs,v.oneCell'=true) (h1v:∀v∈vs,v.oneCell'=true)
 (tA tB:TypeId) (kA kB:Nat) (hsa:w.shape? vb=some (tA,kA)) (hsb:w.shape? b=some (tB,kB)) (hkB:kB≠0) (hfa:w.frozen? ⟨vb,voff,none⟩=false) (hfe:w.frozen? ⟨vb,kA,none⟩=false):
 Calls Tryz.prog 214 #[.slice (some ⟨b,off,none⟩) n c,.int .i64 i,.slice (some ⟨vb,voff,none⟩) m vc] w fun e w'=>
  e=.returned (.slice (some ⟨b,off,none⟩) (n+m) c)/\w'=(w.drew.setCells b (off+(i+m)*5) (cs.drop (i*5))).setCells b (off+i*5) vs:=by
 have tSL:Tryz.prog.underlying 37=some (.slice 98):=by kernel_rfl
 have uSL:=run_underlying tSL;have hz1:¬((m:Int)=0):=by omega
 have hz2:¬((i:Int)=(n:Int)):=by omega
 have hsz:(Tryz.prog.info? 98).map (·.size)=some 5:=by kernel_rfl
 have zEL:∀w,(Go.sizeOf 98).run Tryz.prog w=.ok 5 w:=fun w=>by
  obtain⟨i0,h1,h2⟩:=Option.map_eq_some_iff.1 hsz;simp[Go.sizeOf,typeInfo,h1,h2]
 have hov:∀lb cb,(callFunc 236 #[.slice (some ⟨vb,voff,none⟩) m vc,.slice (some ⟨b,off+(i+m)*5,none⟩) lb cb]).run Tryz.prog w=.ok (.value (.bool false)) w:=fun lb cb=>by
  rw[run_callFunc_extern Tryz.func236 (by kernel_rfl) (by kernel_rfl) (by kernel_rfl) (e:=Extern.SlicesOverlaps.overlaps #[37,37] #[4]) (by kernel_rfl),
   Lib.run_overlaps_apart w 37 4 98 tSL 5 zEL ⟨vb,voff,none⟩ ⟨b,off+(i+m)*5,none⟩ m vc lb cb hvb tA tB kA kB hsa hsb hkB hfa hfe]
  rfl
 have hdl:(cs.drop (i*5)).length=(n-i)*5:=by rw[List.length_drop,hcl];omega
 have hw1:IntKind.i64.wrap ((i:Int)+(m:Int))=(i:Int)+(m:Int):=by rw[IntKind.wrap_i64];omega
 have hw2:IntKind.i64.wrap ((n:Int)+(m:Int))=(n:Int)+(m:Int):=by rw[IntKind.wrap_i64];omega
 have hb1:(0:Int)<=(i:Int)+(m:Int):=by omega
 have hin:i<=n:=by omega
 have htn:((i:Int)+(m:Int)).toNat=i+m:=by omega
 have hb2:¬(c=i+m):=by omega
 have hb3:(i:Int)<=(n:Int)+(m:Int):=by omega
 have hb4:¬(c=i):=by omega
 have mixed:=Tryz.checked.mixed;have hcp1:∀ty dc sc,(Builtin.copy_ #[37,37] ty #[.slice (some ⟨b,off+(i+m)*5,none⟩) (n+m-(i+m)) dc,.slice (some ⟨b,off+i*5,none⟩) (n+m-i) sc]).run Tryz.prog w.drew=.ok (goInt (Nat.min (n+m-i) (n+m-(i+m)))) (w.drew.setCells b (off+(i+m)*5) (cs.drop (i*5))):=fun ty dc sc=>
  eT w.drew _ _ ty 98 5 b (off+(i+m)*5) (n+m-(i+m)) dc ⟨b,off+i*5,none⟩ (n+m-i) sc (cs.drop (i*5)) tSL hsz (by rw[hdl];congr 1;simp only[Nat.min_def];split<;>omega)
   (fun j v hj=>by rw[Addr.add_lit,Nat.add_assoc];exact hcs (i*5+j) v (by rwa[List.getElem?_drop] at hj))
   (fun j hj=>by rw[Nat.add_assoc];exact hsp _ (by omega)) (fun j hj=>by rw[Nat.add_assoc];exact hfz _ (by omega)) (fun v hv=>h1c v (List.mem_of_mem_drop hv))
 obtain⟨W1,hW1⟩:∃W1,W1=w.drew.setCells b (off+(i+m)*5) (cs.drop (i*5)):=⟨_,rfl⟩;have hsp1:∀k,k<(n+m)*5->(W1.cell? ⟨b,off+k,none⟩).isSome=true:=fun k hk=>by
  rw[hW1];exact jI b _ _ _ (fun j hj=>by rw[Nat.add_assoc];exact hsp _ (by omega)) _ (hsp k hk)
 have hcp2:∀(W:World),(∀x,W.cell? x=W1.cell? x)->(∀x,W.frozen? x=W1.frozen? x)->∀ty dc,(Builtin.copy_ #[37,37] ty #[.slice (some ⟨b,off+i*5,none⟩) (n+m-i) dc,.slice (some ⟨vb,voff,none⟩) m vc]).run Tryz.prog W=.ok (goInt (Nat.min m (n+m-i))) (W.setCells b (off+i*5) vs):=fun W hWc hWf ty dc=>
  eT W _ _ ty 98 5 b (off+i*5) (n+m-i) dc ⟨vb,voff,none⟩ m vc vs tSL hsz (by rw[hvl];congr 1;simp only[Nat.min_def];split<;>omega)
   (fun j v hj=>by
    rw[Addr.add_lit,hWc,hW1,World.cell?_setCells_out b _ _ _ _ (fun h _=>absurd h hvb)];exact hvs j v hj)
   (fun j hj=>by rw[hWc,Nat.add_assoc];exact hsp1 _ (by omega)) (fun j hj=>by rw[hWf,hW1,World.frozen?_setCells,Nat.add_assoc];exact hfz _ (by omega)) h1v
 rw[<-hW1] at hcp1
 go_enter Tryz.func214,Tryz.ntmps214
 go_wp2_with (simp only[hov])
 go_region_law_o (refine km rfl _ _ 37 37 rfl _ _ (by simp[Act.eval,Act.put]) (by simp[Act.eval,Act.put]) (hcp1 _ _ _) ?_)
 go_wp2_with (at_builtin;refine fS _ rfl _ _ 37 37 rfl _ _ rfl rfl (hcp2 _ (fun _=>rfl) (fun _=>rfl) _ _) ?_)
 go_ret
 first|exact⟨rfl,rfl⟩|exact⟨rfl,by rw[hW1]⟩
theorem wB(z:Array Value)(n:Nat)(hz:0<z.size)(x:Value)(h:x∈Builtin.zeroCells z n):x∈z:=by
 unfold Builtin.zeroCells at h;rw[Array.mem_map] at h;obtain⟨i,hi,h⟩:=h;rw[<-h];rw[getElem!_pos z _ (Nat.mod_lt _ hz)];exact Array.getElem_mem _
theorem tT:∃(i0:TypeInfo)(z:Value),Tryz.prog.info? 98=some i0/\i0.size=5/\i0.bytes=56/\i0.zero=some z/\z.cells.size=5/\∀x∈z.cells,x.oneCell'=true:=by
 have h:((Tryz.prog.info? 98).map fun i=>(i.size,i.bytes,i.zero.map fun z=>(z.cells.size,z.cells.all fun x=>x.oneCell')))=some (5,56,some (5,true)):=by kernel_rfl
 obtain⟨i0,h1,h2⟩:=Option.map_eq_some_iff.1 h;simp only[Prod.mk.injEq] at h2;obtain⟨a1,a2,a3⟩:=h2;obtain⟨z,b1,b2⟩:=Option.map_eq_some_iff.1 a3;simp only[Prod.mk.injEq] at b2;refine⟨i0,z,h1,a1,a2,b1,b2.1,fun x hx=>?_⟩;exact(Array.all_eq_true_iff_forall_mem.1 b2.2) x hx
set_option maxHeartbeats 4000000 in
set_option maxRecDepth 100000 in
theorem uw(b off n c vb voff m vc:Nat)(vs:List Value)(w:World)(hm:0<m)(hroom:n+m<=c)(hbig:(n+m)*56<=140737488355328)
 (hvl:vs.length=m*5) (hsp:∀j,j<m*5->(w.cell? ⟨b,off+n*5+j,none⟩).isSome=true) (hfz:∀j,j<m*5->w.frozen? ⟨b,off+n*5+j,none⟩=false)
 (hvs:∀j v,vs[j]?=some v->w.cell? ⟨vb,voff+j,none⟩=some v) (h1v:∀v∈vs,v.oneCell'=true):
 Calls Tryz.prog 214 #[.slice (some ⟨b,off,none⟩) n c,.int .i64 n,.slice (some ⟨vb,voff,none⟩) m vc] w fun e w'=>
  e=.returned (.slice (some ⟨b,off,none⟩) (n+m) c)/\w'=w.setCells b (off+n*5) vs:=by
 have tSL:Tryz.prog.underlying 37=some (.slice 98):=by kernel_rfl
 have uSL:=run_underlying tSL;obtain⟨i0,z,hi0,hzs,hzb,hz0,_,_⟩:=tT;have mixed:=Tryz.checked.mixed;have hz1:¬((m:Int)=0):=by omega
 have hsrc:Src Tryz.prog i0.size 37 (.slice (some ⟨vb,voff,none⟩) m vc) m vs w:=Src.ofSlice w tSL ⟨vb,voff,none⟩ m vc vs (by rw[hzs];exact hvl) (fun j u hj=>by rw[Addr.add_lit];exact hvs j u hj) h1v;have hrun:∀ty,(Builtin.append_ #[37,37] ty #[.slice (some ⟨b,off,none⟩) n c,.slice (some ⟨vb,voff,none⟩) m vc]).run Tryz.prog w=.ok (.slice (some ⟨b,off,none⟩) (n+m) c) (w.setCells b (off+n*5) vs):=fun ty=>by
  have:=run_append_room_src (P:=Tryz.prog) w 37 37 ty 98 i0 tSL hi0 b off n c (.slice (some ⟨vb,voff,none⟩) m vc) m vs hsrc hroom (by rw[hzs,hvl];exact hsp) (by rw[hzs,hvl];exact hfz);rw[hzs] at this;exact this
 go_enter Tryz.func214,Tryz.ntmps214
 go_wp2_with (at_builtin;refine Lib.wpList_append_run _ rfl _ _ _ _ rfl _ _ rfl rfl _ _ (hrun _) ?_)
 go_ret
 exact⟨rfl,rfl⟩
set_option maxHeartbeats 4000000 in
set_option maxRecDepth 100000 in
theorem mQ(base:Option Addr)(n c vb voff m vc:Nat)(cs vs:List Value)(w:World)(hm:0<m)(hnc:n<=c)(hroom:c<n+m)(hbig:(n+m)*56<=140737488355328)
 (hcl:cs.length=n*5) (hvl:vs.length=m*5) (hnil:base=none->n=0)
 (hcs:∀a,base=some a->∀j v,cs[j]?=some v->w.cell? (a.add j)=some v)
 (hvs:∀j v,vs[j]?=some v->w.cell? ⟨vb,voff+j,none⟩=some v) (h1v:∀v∈vs,v.oneCell'=true):
 Calls Tryz.prog 214 #[.slice base n c,.int .i64 n,.slice (some ⟨vb,voff,none⟩) m vc] w fun e w'=>
  ∃(G:Nat)(tl:Array Value),n+m<=G/\tl.size=(G-(n+m))*5/\(∀x∈tl,x.oneCell'=true)/\e=.returned (.slice (some ⟨w.heap.size,0,none⟩) (n+m) G)/\
  w'=w.drew.alloc (.cells ((cs++vs).toArray++tl) 98):=by
 have tSL:Tryz.prog.underlying 37=some (.slice 98):=by kernel_rfl
 have uSL:=run_underlying tSL;obtain⟨i0,z,hi0,hzs,hzb,hz0,hzc,hz1c⟩:=tT;have mixed:=Tryz.checked.mixed;have hz1:¬((m:Int)=0):=by omega
 have hsrc:Src Tryz.prog i0.size 37 (.slice (some ⟨vb,voff,none⟩) m vc) m vs w:=Src.ofSlice w tSL ⟨vb,voff,none⟩ m vc vs (by rw[hzs];exact hvl) (fun j u hj=>by rw[Addr.add_lit];exact hvs j u hj) h1v;have hold:(Builtin.firstCells i0.size n (.slice base n c)).run Tryz.prog w.drew=.ok cs.toArray w.drew:=by
  rw[hzs];cases base with
  | none =>
    have h0:=hnil rfl;subst h0;have hcs0:cs=[]:=List.length_eq_zero_iff.1 (by omega);rw[hcs0];exact run_firstCells_none w.drew 5 0 0 c
  |some a=>exact run_firstCells_some w.drew 5 n a n c cs hcl (fun j v hj=>hcs a rfl j v hj)
 have hrun:=fun ty=>run_append_grow_src (P:=Tryz.prog) w 37 37 ty 98 i0 z tSL hi0 hz0 base n c cs hold _ m vs hsrc hroom (by omega) (by rw[hzb];exact growslice_fits hroom hbig);obtain⟨G,hG⟩:∃G,G=grownCap w (n+m) c 98:=⟨_,rfl⟩;have hGn:n+m<=G:=by rw[hG];exact grownCap_ge w _ _ _
 obtain⟨tl,htl⟩:∃tl,tl=Builtin.zeroCells z.cells (G-(n+m)):=⟨_,rfl⟩;have ht1:tl.size=(G-(n+m))*5:=by rw[htl,size_zeroCells,hzc]
 have ht2:∀x∈tl,x.oneCell'=true:=fun x hx=>hz1c x (wB _ _ (by omega) x (by rw[<-htl];exact hx));rw[<-hG] at hrun;rw[<-htl] at hrun;obtain⟨ROW,hROW⟩:∃ROW:Array Value,ROW=(cs++vs).toArray++tl:=⟨_,rfl⟩;refine Calls.mono (R:=fun e w'=>e=.returned (.slice (some ⟨w.heap.size,0,none⟩) (n+m) G)/\w'=w.drew.alloc (.cells ROW 98)) ?_ (fun e w' h=>⟨G,tl,hGn,ht1,ht2,h.1,by rw[h.2,hROW]⟩);rw[<-hROW] at hrun;clear hold hROW ht2 ht1 htl hG hGn hz1c hz0 hi0 hsrc;clear hzc hzs hzb;clear i0
 go_enter Tryz.func214,Tryz.ntmps214
 cases base with
 | none =>
   have h0:=hnil rfl;subst h0;rw[Nat.zero_add] at hrun⊢
   go_wp2_with (at_builtin;refine Lib.wpList_append_run _ rfl _ _ _ _ rfl _ _ rfl rfl _ _ (hrun _) ?_)
   all_goals(go_ret;exact⟨rfl,rfl⟩)
 | some a =>
   obtain⟨ab,ao,asp⟩:=a
   go_wp2_with (at_builtin;refine Lib.wpList_append_run _ rfl _ _ _ _ rfl _ _ rfl rfl _ _ (hrun _) ?_)
   all_goals(go_ret;exact⟨rfl,rfl⟩)
set_option maxHeartbeats 4000000 in
set_option maxRecDepth 100000 in
theorem Ie(b off n c i vb voff m vc:Nat)(cs vs:List Value)(w:World)(hi:i<n)(hm:0<m)(hnc:n<=c)(hroom:c<n+m)(hbig:(n+m)*56<=140737488355328)
 (hcl:cs.length=n*5) (hvl:vs.length=m*5)
 (hcs:∀j v,cs[j]?=some v->w.cell? ⟨b,off+j,none⟩=some v)
 (hvs:∀j v,vs[j]?=some v->w.cell? ⟨vb,voff+j,none⟩=some v) (h1c:∀v∈cs,v.oneCell'=true) (h1v:∀v∈vs,v.oneCell'=true):
 Calls Tryz.prog 214 #[.slice (some ⟨b,off,none⟩) n c,.int .i64 i,.slice (some ⟨vb,voff,none⟩) m vc] w fun e w'=>
  ∃(G:Nat)(tl:Array Value),n+m<=G/\tl.size=(G-(n+m))*5/\(∀x∈tl,x.oneCell'=true)/\e=.returned (.slice (some ⟨w.heap.size,0,none⟩) (n+m) G)/\
  ∃z:Array Value,z.size=(n+m-i)*5/\w'=(((w.alloc (.cells ((cs.take (i*5)).toArray++z++tl) 98)).drew.setCells w.heap.size (i*5) vs).drew).setCells w.heap.size ((i+m)*5) (cs.drop (i*5)):=by
 have tSL:Tryz.prog.underlying 37=some (.slice 98):=by kernel_rfl
 have t3:Tryz.prog.underlying 3=some (.int .i64):=by kernel_rfl
 have uSL:=run_underlying tSL;have u3:=run_underlying t3;obtain⟨i0,z,hi0,hzs,hzb,hz0,hzc,hz1c⟩:=tT;have mixed:=Tryz.checked.mixed;have hsz:(Tryz.prog.info? 98).map (·.size)=some 5:=by kernel_rfl
 have hz1:¬((m:Int)=0):=by omega
 have hz2:¬((i:Int)=(n:Int)):=by omega
 have hz3:(c:Int)<(n:Int)+(m:Int):=by omega
 have hbw:b<w.heap.size:=block_lt_of_cell (hcs 0 _ (List.getElem?_eq_getElem (by omega)));have hvw:vb<w.heap.size:=block_lt_of_cell (hvs 0 _ (List.getElem?_eq_getElem (by omega)));have hkk:(n:Int)+(m:Int)-(i:Int)=((n+m-i:Nat):Int):=by omega
 have hik:i+(n+m-i)=n+m:=by omega
 have hold:(Builtin.firstCells i0.size i (.slice (some ⟨b,off,none⟩) i c)).run Tryz.prog w.drew=.ok (cs.take (i*5)).toArray w.drew:=by
  rw[hzs];exact run_firstCells_some w.drew 5 i ⟨b,off,none⟩ i c (cs.take (i*5)) (by rw[List.length_take];omega) (fun j v hj=>by
   rw[Addr.add_lit];rw[List.getElem?_take] at hj;split at hj
   ·exact hcs j v hj
   ·cases hj)
 obtain⟨G,hG⟩:∃G,G=grownCap w (n+m) c 98:=⟨_,rfl⟩;obtain⟨zs,hzz⟩:∃zs,zs=Builtin.zeroCells z.cells (n+m-i):=⟨_,rfl⟩;obtain⟨tl,htl⟩:∃tl,tl=Builtin.zeroCells z.cells (G-(n+m)):=⟨_,rfl⟩;have ht0:zs.size=(n+m-i)*5:=by rw[hzz,size_zeroCells,hzc]
 have ht1:tl.size=(G-(n+m))*5:=by rw[htl,size_zeroCells,hzc]
 have ht2:∀x∈tl,x.oneCell'=true:=fun x hx=>hz1c x (wB _ _ (by omega) x (by rw[<-htl];exact hx));have hrz:∀ty,(Builtin.append_ #[37,3] ty #[.slice (some ⟨b,off,none⟩) i c,.int .i64 ((n:Int)+(m:Int)-(i:Int))]).run Tryz.prog w=
  .ok (.slice (some ⟨w.heap.size,0,none⟩) (n+m) G) (w.drew.alloc (.cells ((cs.take (i*5)).toArray++zs++tl) 98)):=fun ty=>by
  have h:=Lib.run_append_grow_zeros w 37 3 ty 98 i0 _ .i64 .i64 tSL t3 hi0 hz0 (some ⟨b,off,none⟩) i c (cs.take (i*5)) hold (n+m-i) (by omega) (by omega) (by omega) (by omega) (by rw[hzb];omega) (by rw[hzb,hik];exact growslice_fits hroom hbig);rw[hik] at h;rw[hkk,hzz,htl,hG];exact h
 obtain⟨ROW,hROW⟩:∃ROW:Array Value,ROW=(cs.take (i*5)).toArray++zs++tl:=⟨_,rfl⟩;refine Calls.mono (R:=fun e w'=>e=.returned (.slice (some ⟨w.heap.size,0,none⟩) (n+m) G)/\w'=(((w.alloc (.cells ROW 98)).drew.setCells w.heap.size (i*5) vs).drew).setCells w.heap.size ((i+m)*5) (cs.drop (i*5))) ?_ (fun e w' h=>⟨G,tl,by rw[hG];exact grownCap_ge w _ _ _,ht1,ht2,h.1,zs,ht0,by rw[h.2,hROW]⟩);rw[<-hROW] at hrz;have hRl:(n+m)*5<=ROW.size:=by
  rw[hROW];simp only[Array.size_append,List.size_toArray,List.length_take,ht0];omega
 obtain⟨W1,hW1⟩:∃W1,W1=w.drew.alloc (.cells ROW 98):=⟨_,rfl⟩;rw[<-hW1] at hrz;have hN:∀j,j<(n+m)*5->(W1.cell? ⟨w.heap.size,j,none⟩).isSome=true:=fun j hj=>by
  rw[hW1,World.cell?_alloc_at (w:=w.drew) ROW _ w.heap.size j rfl,Array.getElem?_eq_getElem (by omega)];rfl
 have hNf:∀j,W1.frozen? ⟨w.heap.size,j,none⟩=false:=fun j=>by rw[hW1];exact World.frozen?_alloc_at (w:=w.drew) ROW _ w.heap.size j rfl
 have hOb:∀j v,w.cell? ⟨b,j,none⟩=some v->W1.cell? ⟨b,j,none⟩=some v:=fun j v h=>by rw[hW1,World.cell?_alloc_past (w:=w.drew) _ b j hbw];exact h
 have hOv:∀j v,w.cell? ⟨vb,j,none⟩=some v->W1.cell? ⟨vb,j,none⟩=some v:=fun j v h=>by rw[hW1,World.cell?_alloc_past (w:=w.drew) _ vb j hvw];exact h
 have hcpA:∀(W:World),(∀x,W.cell? x=W1.cell? x)->(∀x,W.frozen? x=W1.frozen? x)->∀ty dc,(Builtin.copy_ #[37,37] ty #[.slice (some ⟨w.heap.size,i*5,none⟩) (n+m-i) dc,.slice (some ⟨vb,voff,none⟩) m vc]).run Tryz.prog W=.ok (goInt (Nat.min m (n+m-i))) (W.setCells w.heap.size (i*5) vs):=fun W hWc hWf ty dc=>
  eT W _ _ ty 98 5 w.heap.size (i*5) (n+m-i) dc ⟨vb,voff,none⟩ m vc vs tSL hsz (by rw[hvl];congr 1;simp only[Nat.min_def];split<;>omega)
   (fun j v hj=>by rw[Addr.add_lit,hWc];exact hOv _ v (hvs j v hj))
   (fun j hj=>by rw[hWc];exact hN _ (by omega)) (fun j hj=>by rw[hWf];exact hNf _) h1v
 have hGn:n+m<=G:=by rw[hG];exact grownCap_ge w _ _ _
 have hG63:G<=9223372036854775807:=by
  have:=grownCap_le_maxLen w (n+m) c 98 (by unfold maxLen;omega);rw[<-hG] at this;unfold maxLen at this;omega
 have hGi:¬(G=i):=by omega
 have hGim:¬(G=i+m):=by omega
 have hci:¬(c=i):=by omega
 have hbN:b≠w.heap.size:=by omega
 have hdl:(cs.drop (i*5)).length=(n-i)*5:=by rw[List.length_drop,hcl];omega
 have hcpB:∀(W:World),(∀x,W.cell? x=(W1.setCells w.heap.size (i*5) vs).cell? x)->(∀x,W.frozen? x=(W1.setCells w.heap.size (i*5) vs).frozen? x)->∀ty dc sc,(Builtin.copy_ #[37,37] ty #[.slice (some ⟨w.heap.size,(i+m)*5,none⟩) (n+m-(i+m)) dc,.slice (some ⟨b,off+i*5,none⟩) (n-i) sc]).run Tryz.prog W=.ok (goInt (Nat.min (n-i) (n+m-(i+m)))) (W.setCells w.heap.size ((i+m)*5) (cs.drop (i*5))):=fun W hWc hWf ty dc sc=>
  eT W _ _ ty 98 5 w.heap.size ((i+m)*5) (n+m-(i+m)) dc ⟨b,off+i*5,none⟩ (n-i) sc (cs.drop (i*5)) tSL hsz (by rw[hdl];congr 1;simp only[Nat.min_def];split<;>omega)
   (fun j v hj=>by
    rw[Addr.add_lit,hWc,World.cell?_setCells_out _ _ _ _ _ (fun h _=>absurd h hbN),Nat.add_assoc];exact hOb _ v (hcs (i*5+j) v (by rwa[List.getElem?_drop] at hj)))
   (fun j hj=>by rw[hWc];exact jI _ _ _ _ (fun t ht=>hN _ (by omega)) _ (hN _ (by omega)))
   (fun j hj=>by rw[hWf,World.frozen?_setCells];exact hNf _) (fun v hv=>h1c v (List.mem_of_mem_drop hv))
 subst hW1;have hE1:∀x,((w.alloc (.cells ROW 98)).drew).cell? x=(w.drew.alloc (.cells ROW 98)).cell? x:=fun x=>rfl;have hE2:∀x,((w.alloc (.cells ROW 98)).drew).frozen? x=(w.drew.alloc (.cells ROW 98)).frozen? x:=fun x=>rfl;have hF1:∀x,(((w.alloc (.cells ROW 98)).drew.setCells w.heap.size (i*5) vs).drew).cell? x=((w.drew.alloc (.cells ROW 98)).setCells w.heap.size (i*5) vs).cell? x:=fun x=>rfl;have hF2:∀x,(((w.alloc (.cells ROW 98)).drew.setCells w.heap.size (i*5) vs).drew).frozen? x=((w.drew.alloc (.cells ROW 98)).setCells w.heap.size (i*5) vs).frozen? x:=fun x=>rfl;have hw1:IntKind.i64.wrap ((i:Int)+(m:Int))=(i:Int)+(m:Int):=by rw[IntKind.wrap_i64];omega
 have hb1:(0:Int)<=(i:Int)+(m:Int):=by omega
 have hin:i<=n:=by omega
 have htn:((i:Int)+(m:Int)).toNat=i+m:=by omega
 have hb3:(i:Int)<=(n:Int):=by omega
 clear hkk hik hold hRl hROW ht0 ht1 ht2 htl hzz hG hz1c hz0 hi0;clear hzc hzs hzb;clear z i0
 go_enter Tryz.func214,Tryz.ntmps214
 go_wp2_with (first
  |(at_builtin;refine Lib.wpList_append_run _ rfl _ _ _ _ rfl _ _ rfl rfl _ _ (hrz _) ?_)
  |(at_builtin;refine fS _ rfl _ _ 37 37 rfl _ _ rfl rfl (hcpA _ hE1 hE2 _ _) ?_)
  |(at_builtin;refine fS _ rfl _ _ 37 37 rfl _ _ rfl rfl (hcpB _ (fun _=>rfl) (fun _=>rfl) _ _ _) ?_))
 go_region_law_o (refine km rfl _ _ 37 37 rfl (.slice (some ⟨w.heap.size,(i+m)*5,none⟩) (n+m-(i+m)) (G-(i+m))) (.slice (some ⟨b,off+i*5,none⟩) (n-i) (c-i)) (by simp[Act.eval,Act.put]) (by simp[Act.eval,Act.put]) (hcpB _ hF1 hF2 3 (G-(i+m)) (c-i)) ?_)
 go_wp2
 go_ret
 all_goals exact⟨rfl,rfl⟩
end
theorem Ue:InsC Tryz.prog 214 5 56 where
 fn:=⟨_,Tryz.func214,by kernel_rfl,by kernel_rfl⟩
 kp:=by decide
 ins:=fun base n c i vb voff m vc cs vs w hi hnc hm hmv hbig hb hnil hcl hvl hcs hvs hF h1c h1v=>by
  have hfv:=pV hF;cases base with
  | none =>
    have hc:=hnil rfl;have hn:n=0:=by omega
    have hi0:i=n:=by omega
    subst hi0;exact(mQ none i c vb voff m vc cs vs w hm hnc (by omega) hbig hcl hvl (fun _=>hn) (fun a ha=>by cases ha) hvs h1v).mono fun e w' h=>qZ hcl hvl h
  | some a =>
    obtain⟨h1,h2,h3⟩:=hb a rfl;obtain⟨b,off,sp⟩:=a;simp only at h1 h2 h3;subst h1;have hcs':=hcs _ rfl;simp only at hcs';by_cases hroom:n+m<=c
    ·have hFb:=h3 (by omega);have hsl:=Nat.mul_le_mul_right 5 hroom;by_cases e:i=n
     ·subst e;exact(uw b off i c vb voff m vc vs w hm hroom (by omega) hvl (fun j hj=>nC hFb _ (by omega)) (fun j _=>pV hFb _) hvs h1v).mono fun e w' h=>DI hFb hroom hcl hvl hcs' h
     ·obtain⟨tA,kA,sA,lA⟩:=qa hF;obtain⟨tB,kB,sB,lB⟩:=qa hFb;exact(Fb b off n c i vb voff m vc cs vs w (by omega) hm hroom (by omega) (Ne.symm h2) hcl hvl hcs' (fun j hj=>nC hFb _ (by omega)) (fun j _=>pV hFb _) hvs h1c h1v tA tB kA kB sA sB (by omega) (hfv _) (hfv _)).mono fun e w' h=>xz hFb hroom (by omega) hcl hvl hcs' h
    ·by_cases e:i=n
     ·subst e;exact(mQ (some ⟨b,off,none⟩) i c vb voff m vc cs vs w hm hnc (by omega) hbig hcl hvl (fun h=>by cases h) (fun a ha=>by cases ha;exact fun j v hj=>by rw[Addr.add_lit];exact hcs' j v hj) hvs h1v).mono fun e w' h=>qZ hcl hvl h
     ·exact(Ie b off n c i vb voff m vc cs vs w (by omega) hm hnc (by omega) hbig hcl hvl hcs' hvs h1c h1v).mono fun e w' h=>Dg (by omega) hcl hvl h
end Vs

namespace Vs
open Go Go.Proofs
theorem aY:Tryz.prog.follows .mixedOrders=true:=Tryz.checked.mixed
def qN:Go.Shelf.Ren:=⟨fun|6=>242|15=>172|14=>251|28=>210|29=>211|20=>259|21=>260|22=>261|23=>262|24=>263|25=>264|26=>265|27=>266|46=>268|47=>229|48=>230|49=>269|50=>270|57=>273|n=>n,fun|22=>187|24=>94|25=>239|3=>3|39=>184|0=>0|53=>214|55=>216|4=>4|46=>207|45=>206|50=>211|5=>5|9=>9|66=>227|70=>231|76=>241|77=>242|n=>n,fun|n=>n⟩
theorem GE:Go.Proofs.SlLaysF0.n6 Tryz.prog qN:={
 mixed:=by kernel_rfl
 f6:=⟨Tryz.f242.name,by decide,Tryz.func242.trans (congrArg some (by kernel_rfl))⟩
 f14:=⟨Tryz.f251.name,by decide,Tryz.func251.trans (congrArg some (by kernel_rfl))⟩
 f15:=Tryz.func172.trans (congrArg some (by kernel_rfl))
 f20:=⟨Tryz.f259.name,by decide,Tryz.func259.trans (congrArg some (by kernel_rfl))⟩
 f21:=⟨Tryz.f260.name,by decide,Tryz.func260.trans (congrArg some (by kernel_rfl))⟩
 f22:=⟨Tryz.f261.name,by decide,Tryz.func261.trans (congrArg some (by kernel_rfl))⟩
 f23:=⟨Tryz.f262.name,by decide,Tryz.func262.trans (congrArg some (by kernel_rfl))⟩
 f24:=⟨Tryz.f263.name,by decide,Tryz.func263.trans (congrArg some (by kernel_rfl))⟩
 f25:=⟨Tryz.f264.name,by decide,Tryz.func264.trans (congrArg some (by kernel_rfl))⟩
 f26:=⟨Tryz.f265.name,by decide,Tryz.func265.trans (congrArg some (by kernel_rfl))⟩
 f27:=⟨Tryz.f266.name,by decide,Tryz.func266.trans (congrArg some (by kernel_rfl))⟩
 f28:=Tryz.func210.trans (congrArg some (by kernel_rfl))
 f29:=Tryz.func211.trans (congrArg some (by kernel_rfl))
 f46:=⟨Tryz.f268.name,by decide,Tryz.func268.trans (congrArg some (by kernel_rfl))⟩
 f47:=Tryz.func229.trans (congrArg some (by kernel_rfl))
 f48:=Tryz.func230.trans (congrArg some (by kernel_rfl))
 f49:=⟨Tryz.f269.name,by decide,Tryz.func269.trans (congrArg some (by kernel_rfl))⟩
 f50:=⟨Tryz.f270.name,by decide,Tryz.func270.trans (congrArg some (by kernel_rfl))⟩
 f57:=⟨Tryz.f273.name,by decide,Tryz.func273.trans (congrArg some (by kernel_rfl))⟩
 t0:=Tryz.underlying0
 a0:=Tryz.isAgg0
 z0:=Tryz.sizeOf0
 v0:=Tryz.zeroValue0
 t3:=Tryz.underlying3
 a3:=Tryz.isAgg3
 z3:=Tryz.sizeOf3
 v3:=Tryz.zeroValue3
 t4:=Tryz.underlying4
 a4:=Tryz.isAgg4
 z4:=Tryz.sizeOf4
 v4:=Tryz.zeroValue4
 t5:=Tryz.underlying5
 a5:=Tryz.isAgg5
 z5:=Tryz.sizeOf5
 v5:=Tryz.zeroValue5
 t9:=Tryz.underlying9
 a9:=Tryz.isAgg9
 z9:=Tryz.sizeOf9
 v9:=Tryz.zeroValue9
 t22:=Tryz.underlying187
 a22:=Tryz.isAgg187
 z22:=Tryz.sizeOf187
 v22:=Tryz.zeroValue187
 t25:=Tryz.underlying239
 a25:=Tryz.isAgg239
 z25:=Tryz.sizeOf239
 v25:=Tryz.zeroValue239
 t39:=Tryz.underlying184
 a39:=Tryz.isAgg184
 z39:=Tryz.sizeOf184
 v39:=Tryz.zeroValue184
 t45:=Tryz.underlying206
 a45:=Tryz.isAgg206
 z45:=Tryz.sizeOf206
 v45:=Tryz.zeroValue206
 t46:=Tryz.underlying207
 a46:=Tryz.isAgg207
 z46:=Tryz.sizeOf207
 v46:=Tryz.zeroValue207
 t50:=Tryz.underlying211
 a50:=Tryz.isAgg211
 z50:=Tryz.sizeOf211
 v50:=Tryz.zeroValue211
 t53:=Tryz.underlying214
 a53:=Tryz.isAgg214
 z53:=Tryz.sizeOf214
 v53:=Tryz.zeroValue214
 t55:=Tryz.underlying216
 a55:=Tryz.isAgg216
 z55:=Tryz.sizeOf216
 v55:=Tryz.zeroValue216
 t66:=Tryz.underlying227
 a66:=Tryz.isAgg227
 z66:=Tryz.sizeOf227
 v66:=Tryz.zeroValue227
 t70:=Tryz.underlying231
 a70:=Tryz.isAgg231
 z70:=Tryz.sizeOf231
 v70:=Tryz.zeroValue231
 t76:=Tryz.underlying241
 a76:=Tryz.isAgg241
 z76:=Tryz.sizeOf241
 v76:=Tryz.zeroValue241
 t77:=Tryz.underlying242
 a77:=Tryz.isAgg242
 z77:=Tryz.sizeOf242
 v77:=Tryz.zeroValue242}
theorem OB:BL Tryz.prog 242 2 (shK 2):=Vv (ρ:=qN) GE 2 (by decide) Tryz.isAgg94 Tryz.sizeOf94 (AnyF.slices_SortFunc_none GE) ⟨_,Tryz.func242,by kernel_rfl,by kernel_rfl⟩
def GG:aw:=(.seq (Zs [Zm 12 5,Zm 13 0,Zk 14 13,Zb 15 .lss 12 14] (.cond (Zt 15) .skip (.exit 0))) (.seq (.blk 1 (Zs [Zm 18 1,Zm 19 0,Zm 20 5,Zx 21 1 19 20,Zl 22 21,Zo 23 (.lenz (Zt 22)),Zb 24 .sub 18 23,Zm 1 24] (Zs [Zm 25 1,Zd 26 .lss 25 0] (.cond (Zt 26) (Zs [Zn 4 (-1)] .ret) .skip)))) (.reg [Zm 16 5,Zd 17 .add 16 1,Zm 5 17] [])))
def TQ:aw:=(Zs [Zm 27 1,Zm 4 27] .ret)
def A85:aw:=(Zs [Zn 4 0] (Zs [Zm 6 1,Zm 7 0,Zk 8 7,Zb 9 .sub 6 8,Zm 1 9] (.seq (Zs [Zm 10 1,Zd 11 .lss 10 0] (.cond (Zt 11) (Zs [Zn 4 (-1)] .ret) .skip)) (.seqa (.reg [Zn 5 0] []) (.blk 0 (.loop GG)) [1] [] TQ))))
def V85:List RV:=[.t 4]
theorem m85:ba Tryz.prog 85 2 A85 V85=true:=by kernel_rfl
def A86:aw:=(Zs [Zn 4 0] (Zs [Zm 5 1,Zm 6 0,Zk 7 6,Zb 8 .sub 5 7,Zm 1 8] (.seq (Zs [Zm 9 1,Zd 10 .lss 9 0] (.cond (Zt 10) (Zs [Zn 4 (-1)] .ret) .skip)) (Zs [Zm 11 1,Zm 4 11] .ret))))
theorem m86:ba Tryz.prog 86 2 A86 V85=true:=by kernel_rfl
def A34:aw:=(Zs [Zo 2 (.box 2 (Zt 0)),Zn 4 0] (Zs [Za 5 0 2,Zl 6 5,Zm 7 1,Zo 8 (.call 85 [(Zt 6),(Zt 7)]),Zm 1 8] (.seq (Zs [Zm 9 1,Zd 10 .lss 9 0] (.cond (Zt 10) (Zs [Zn 4 (-1)] .ret) .skip)) (Zs [Za 11 1 2,Zl 12 11,Zm 13 1,Zo 14 (.call 86 [(Zt 12),(Zt 13)]),Zm 1 14] (.seq (Zs [Zm 15 1,Zd 16 .lss 15 0] (.cond (Zt 16) (Zs [Zn 4 (-1)] .ret) .skip)) (Zs [Zm 17 1,Zm 4 17] .ret))))))
theorem m34:ba Tryz.prog 34 2 A34 V85=true:=by kernel_rfl
def A60:aw:=(Zs [Zn 4 0] (Zs [Zm 5 1,Zm 6 0,Zk 7 6,Zb 8 .sub 5 7,Zm 1 8] (.seq (Zs [Zm 9 1,Zd 10 .lss 9 0] (.cond (Zt 10) (Zs [Zn 4 (-1)] .ret) .skip)) (Zs [Zm 11 1,Zm 4 11] .ret))))
theorem m60:ba Tryz.prog 60 2 A60 V85=true:=by kernel_rfl
def A147:aw:=(Zs [Zo 2 (.box 2 (Zt 0)),Zn 4 0] (Zs [Za 5 1 2,Zl 6 5,Zm 7 1,Zo 8 (.call 60 [(Zt 6),(Zt 7)]),Zm 1 8] (.seq (Zs [Zm 9 1,Zd 10 .lss 9 0] (.cond (Zt 10) (Zs [Zn 4 (-1)] .ret) .skip)) (Zs [Zm 11 1,Zm 4 11] .ret))))
theorem m147:ba Tryz.prog 147 2 A147 V85=true:=by kernel_rfl
def A124:aw:=(Zs [Zo 2 (.box 5 (Zt 0)),Zn 4 0] (Zs [Za 5 1 2,Zv 6 2 5,Zm 7 1,Zo 8 (.call 147 [(Zt 6),(Zt 7)]),Zm 1 8] (.seq (Zs [Zm 9 1,Zd 10 .lss 9 0] (.cond (Zt 10) (Zs [Zn 4 (-1)] .ret) .skip)) (Zs [Zm 11 1,Zm 4 11] .ret))))
theorem m124:ba Tryz.prog 124 2 A124 V85=true:=by kernel_rfl
def HR:aw:=(.seq (Zs [Zm 12 5,Zm 13 0,Zk 14 13,Zb 15 .lss 12 14] (.cond (Zt 15) .skip (.exit 0))) (.seq (.blk 1 (Zs [Zm 18 0,Zm 19 5,Zx 20 5 18 19,Zv 21 5 20,Zm 22 1,Zo 23 (.call 124 [(Zt 21),(Zt 22)]),Zm 1 23] (Zs [Zm 24 1,Zd 25 .lss 24 0] (.cond (Zt 25) (Zs [Zn 4 (-1)] .ret) .skip)))) (.reg [Zm 16 5,Zd 17 .add 16 1,Zm 5 17] [])))
def Tq:aw:=(Zs [Zm 26 1,Zm 4 26] .ret)
def A59:aw:=(Zs [Zn 4 0] (Zs [Zm 6 1,Zm 7 0,Zk 8 7,Zb 9 .sub 6 8,Zm 1 9] (.seq (Zs [Zm 10 1,Zd 11 .lss 10 0] (.cond (Zt 11) (Zs [Zn 4 (-1)] .ret) .skip)) (.seqa (.reg [Zn 5 0] []) (.blk 0 (.loop HR)) [1] [] Tq))))
theorem m59:ba Tryz.prog 59 2 A59 V85=true:=by kernel_rfl
def A24:aw:=(Zs [Zo 2 (.box 3 (Zt 0)),Zn 4 0] (Zs [Za 5 0 2,Zv 6 2 5,Zm 7 1,Zo 8 (.call 34 [(Zt 6),(Zt 7)]),Zm 1 8] (.seq (Zs [Zm 9 1,Zd 10 .lss 9 0] (.cond (Zt 10) (Zs [Zn 4 (-1)] .ret) .skip)) (Zs [Za 11 2 2,Zl 12 11,Zm 13 1,Zo 14 (.call 59 [(Zt 12),(Zt 13)]),Zm 1 14] (.seq (Zs [Zm 15 1,Zd 16 .lss 15 0] (.cond (Zt 16) (Zs [Zn 4 (-1)] .ret) .skip)) (Zs [Zm 17 1,Zm 4 17] .ret))))))
theorem m24:ba Tryz.prog 24 2 A24 V85=true:=by kernel_rfl
def A13:aw:=(Zs [Zo 2 (.box 5 (Zt 0)),Zn 4 0] (Zs [Za 5 0 2,Zv 6 3 5,Zm 7 1,Zo 8 (.call 24 [(Zt 6),(Zt 7)]),Zm 1 8] (.seq (Zs [Zm 9 1,Zd 10 .lss 9 0] (.cond (Zt 10) (Zs [Zn 4 (-1)] .ret) .skip)) (Zs [Za 11 3 2,Zl 12 11,Zm 13 1,Zo 14 (.call 59 [(Zt 12),(Zt 13)]),Zm 1 14] (.seq (Zs [Zm 15 1,Zd 16 .lss 15 0] (.cond (Zt 16) (Zs [Zn 4 (-1)] .ret) .skip)) (Zs [Za 17 4 2,Zl 18 17,Zm 19 1,Zo 20 (.call 60 [(Zt 18),(Zt 19)]),Zm 1 20] (.seq (Zs [Zm 21 1,Zd 22 .lss 21 0] (.cond (Zt 22) (Zs [Zn 4 (-1)] .ret) .skip)) (Zs [Zm 23 1,Zm 4 23] .ret))))))))
theorem m13:ba Tryz.prog 13 2 A13 V85=true:=by kernel_rfl
def NV:aw:=(.seq (Zs [Zm 8 4,Zm 9 0,Zk 10 9,Zb 11 .lss 8 10] (.cond (Zt 11) .skip (.exit 0))) (.seq (.blk 1 (.reg [Zm 14 3,Zm 15 4,Zm 16 0,Zm 17 4,Zx 18 1 16 17,Zl 19 18,Zx 20 1 14 15,Zw (.store 1 (Zt 20) (Zt 19))] [])) (.reg [Zm 12 4,Zd 13 .add 12 1,Zm 4 13] [])))
def Tr:aw:=(.seq (.reg [Zm 21 3,Zm 2 21] [.s 2]) .ret)
def A91:aw:=(.seq (.reg [Zo 2 (.mv (.c (.lst .u 1 [])))] [.s 2]) (.seq (.reg [Zm 5 0,Zk 6 5,Zo 7 (.mks 1 (.z ⟨#[]⟩) 16 (Zt 6) (Zt 6)),Zm 3 7] [.s 3]) (.seqa (.reg [Zn 4 0] []) (.blk 0 (.loop NV)) [3] [3] Tr)))
def V91:List RV:=[.t 2]
theorem m91:ba Tryz.prog 91 1 A91 V91=true:=by kernel_rfl
def A150:aw:=(Zs [Zo 1 (.box 4 (Zt 0)),Zo 2 (.alloc (.agg [.i 0,.i 0,.i 0,.i 0]))] (Zs [Zo 3 (.alloc (.agg [.i 0,.i 0,.i 0,.i 0]))] (Zs [Za 4 0 1,Zl 5 4,Za 6 0 3,Zw (.store 1 (Zt 6) (Zt 5))] (Zs [Za 7 1 1,Zl 8 7,Za 9 1 3,Zw (.store 1 (Zt 9) (Zt 8))] (Zs [Za 10 2 1,Zl 11 10,Za 12 2 3,Zw (.store 1 (Zt 12) (Zt 11))] (Zs [Za 13 3 1,Zl 14 13,Za 15 3 3,Zw (.store 1 (Zt 15) (Zt 14))] (Zs [Zv 16 4 3,Zw (.store 4 (Zt 2) (Zt 16))] .ret)))))))
def Uj:List RV:=[.c 2 4 true]
theorem m150:ba Tryz.prog 150 1 A150 Uj=true:=by kernel_rfl
def KZ:aw:=(.seq (Zs [Zm 8 4,Zm 9 0,Zk 10 9,Zb 11 .lss 8 10] (.cond (Zt 11) .skip (.exit 0))) (.seq (.blk 1 (.reg [Zm 14 3,Zm 15 4,Zm 16 0,Zm 17 4,Zx 18 4 16 17,Zv 19 4 18,Zo 20 (.call 150 [(Zt 19)]),Zx 21 4 14 15,Zw (.store 4 (Zt 21) (Zt 20))] [])) (.reg [Zm 12 4,Zd 13 .add 12 1,Zm 4 13] [])))
def SJ:aw:=(.seq (.reg [Zm 22 3,Zm 2 22] [.s 2]) .ret)
def A92:aw:=(.seq (.reg [Zo 2 (.mv (.c (.lst .u 4 [])))] [.s 2]) (.seq (.reg [Zm 5 0,Zk 6 5,Zo 7 (.mks 4 (.agg [.i 0,.i 0,.i 0,.i 0]) 32 (Zt 6) (Zt 6)),Zm 3 7] [.s 3]) (.seqa (.reg [Zn 4 0] []) (.blk 0 (.loop KZ)) [3] [3] SJ)))
theorem m92:ba Tryz.prog 92 1 A92 V91=true:=by kernel_rfl
def A37:aw:=(Zs [Zo 1 (.box 2 (Zt 0)),Zo 2 (.alloc (.agg [.lst .u 1 [],.lst .u 4 []]))] (Zs [Zo 3 (.alloc (.agg [.lst .u 1 [],.lst .u 4 []]))] (Zs [Za 4 0 1,Zl 5 4,Zo 6 (.call 91 [(Zt 5)]),Za 7 0 3,Zw (.store 1 (Zt 7) (Zt 6))] (Zs [Za 8 1 1,Zl 9 8,Zo 10 (.call 92 [(Zt 9)]),Za 11 1 3,Zw (.store 1 (Zt 11) (Zt 10))] (Zs [Zv 12 2 3,Zw (.store 2 (Zt 2) (Zt 12))] .ret)))))
def V37:List RV:=[.c 2 2 true]
theorem m37:ba Tryz.prog 37 1 A37 V37=true:=by kernel_rfl
def Nn:aw:=(.seq (Zs [Zm 8 4,Zm 9 0,Zk 10 9,Zb 11 .lss 8 10] (.cond (Zt 11) .skip (.exit 0))) (.seq (.blk 1 (.reg [Zm 14 3,Zm 15 4,Zm 16 0,Zm 17 4,Zx 18 1 16 17,Zl 19 18,Zx 20 1 14 15,Zw (.store 1 (Zt 20) (Zt 19))] [])) (.reg [Zm 12 4,Zd 13 .add 12 1,Zm 4 13] [])))
def Tx:aw:=(.seq (.reg [Zm 21 3,Zm 2 21] [.s 2]) .ret)
def A32:aw:=(.seq (.reg [Zo 2 (.mv (.c (.lst .u 1 [])))] [.s 2]) (.seq (.reg [Zm 5 0,Zk 6 5,Zo 7 (.mks 1 (.i 0) 8 (Zt 6) (Zt 6)),Zm 3 7] [.s 3]) (.seqa (.reg [Zn 4 0] []) (.blk 0 (.loop Nn)) [3] [3] Tx)))
theorem m32:ba Tryz.prog 32 1 A32 V91=true:=by kernel_rfl
def A151:aw:=(Zs [Zo 1 (.box 2 (Zt 0)),Zo 2 (.alloc (.agg [.i 0,.lst .u 1 []]))] (Zs [Zo 3 (.alloc (.agg [.i 0,.lst .u 1 []]))] (Zs [Za 4 0 1,Zl 5 4,Za 6 0 3,Zw (.store 1 (Zt 6) (Zt 5))] (Zs [Za 7 1 1,Zl 8 7,Zo 9 (.call 32 [(Zt 8)]),Za 10 1 3,Zw (.store 1 (Zt 10) (Zt 9))] (Zs [Zv 11 2 3,Zw (.store 2 (Zt 2) (Zt 11))] .ret)))))
theorem m151:ba Tryz.prog 151 1 A151 V37=true:=by kernel_rfl
def A152:aw:=(Zs [Zo 1 (.box 2 (Zt 0)),Zo 2 (.alloc (.agg [.i 0,.i 0]))] (Zs [Zo 3 (.alloc (.agg [.i 0,.i 0]))] (Zs [Za 4 0 1,Zl 5 4,Za 6 0 3,Zw (.store 1 (Zt 6) (Zt 5))] (Zs [Za 7 1 1,Zl 8 7,Za 9 1 3,Zw (.store 1 (Zt 9) (Zt 8))] (Zs [Zv 10 2 3,Zw (.store 2 (Zt 2) (Zt 10))] .ret)))))
theorem m152:ba Tryz.prog 152 1 A152 V37=true:=by kernel_rfl
def A127:aw:=(Zs [Zo 1 (.box 5 (Zt 0)),Zo 2 (.alloc (.agg [.i 0,.i 0,.lst .u 1 [],.i 0,.i 0]))] (Zs [Zo 3 (.alloc (.agg [.i 0,.i 0,.lst .u 1 [],.i 0,.i 0]))] (Zs [Za 4 0 1,Zl 5 4,Za 6 0 3,Zw (.store 1 (Zt 6) (Zt 5))] (Zs [Za 7 1 1,Zv 8 2 7,Zo 9 (.call 151 [(Zt 8)]),Za 10 1 3,Zw (.store 2 (Zt 10) (Zt 9))] (Zs [Za 11 3 1,Zv 12 2 11,Zo 13 (.call 152 [(Zt 12)]),Za 14 3 3,Zw (.store 2 (Zt 14) (Zt 13))] (Zs [Zv 15 5 3,Zw (.store 5 (Zt 2) (Zt 15))] .ret))))))
def me:List RV:=[.c 2 5 true]
theorem m127:ba Tryz.prog 127 1 A127 me=true:=by kernel_rfl
def GF:aw:=(.seq (Zs [Zm 8 4,Zm 9 0,Zk 10 9,Zb 11 .lss 8 10] (.cond (Zt 11) .skip (.exit 0))) (.seq (.blk 1 (.reg [Zm 14 3,Zm 15 4,Zm 16 0,Zm 17 4,Zx 18 5 16 17,Zv 19 5 18,Zo 20 (.call 127 [(Zt 19)]),Zx 21 5 14 15,Zw (.store 5 (Zt 21) (Zt 20))] [])) (.reg [Zm 12 4,Zd 13 .add 12 1,Zm 4 13] [])))
def Tv:aw:=(.seq (.reg [Zm 22 3,Zm 2 22] [.s 2]) .ret)
def A62:aw:=(.seq (.reg [Zo 2 (.mv (.c (.lst .u 5 [])))] [.s 2]) (.seq (.reg [Zm 5 0,Zk 6 5,Zo 7 (.mks 5 (.agg [.i 0,.i 0,.lst .u 1 [],.i 0,.i 0]) 56 (Zt 6) (Zt 6)),Zm 3 7] [.s 3]) (.seqa (.reg [Zn 4 0] []) (.blk 0 (.loop GF)) [3] [3] Tv)))
theorem m62:ba Tryz.prog 62 1 A62 V91=true:=by kernel_rfl
def A26:aw:=(Zs [Zo 1 (.box 3 (Zt 0)),Zo 2 (.alloc (.agg [.lst .u 1 [],.lst .u 4 [],.lst .u 5 []]))] (Zs [Zo 3 (.alloc (.agg [.lst .u 1 [],.lst .u 4 [],.lst .u 5 []]))] (Zs [Za 4 0 1,Zv 5 2 4,Zo 6 (.call 37 [(Zt 5)]),Za 7 0 3,Zw (.store 2 (Zt 7) (Zt 6))] (Zs [Za 8 2 1,Zl 9 8,Zo 10 (.call 62 [(Zt 9)]),Za 11 2 3,Zw (.store 1 (Zt 11) (Zt 10))] (Zs [Zv 12 3 3,Zw (.store 3 (Zt 2) (Zt 12))] .ret)))))
def V26:List RV:=[.c 2 3 true]
theorem m26:ba Tryz.prog 26 1 A26 V26=true:=by kernel_rfl
def A15:aw:=(Zs [Zo 1 (.box 5 (Zt 0)),Zo 2 (.alloc (.agg [.lst .u 1 [],.lst .u 4 [],.lst .u 5 [],.lst .u 5 [],.lst .u 1 []]))] (Zs [Zo 3 (.alloc (.agg [.lst .u 1 [],.lst .u 4 [],.lst .u 5 [],.lst .u 5 [],.lst .u 1 []]))] (Zs [Za 4 0 1,Zv 5 3 4,Zo 6 (.call 26 [(Zt 5)]),Za 7 0 3,Zw (.store 3 (Zt 7) (Zt 6))] (Zs [Za 8 3 1,Zl 9 8,Zo 10 (.call 62 [(Zt 9)]),Za 11 3 3,Zw (.store 1 (Zt 11) (Zt 10))] (Zs [Za 12 4 1,Zl 13 12,Zo 14 (.call 32 [(Zt 13)]),Za 15 4 3,Zw (.store 1 (Zt 15) (Zt 14))] (Zs [Zv 16 5 3,Zw (.store 5 (Zt 2) (Zt 16))] .ret))))))
theorem m15:ba Tryz.prog 15 1 A15 me=true:=by kernel_rfl
def A178:aw:=(Zs [Zo 6 (.mv (Zy false))] (Zs [Zm 7 0,Zm 8 1,Zb 9 .geq 7 8,Zm 10 9,Zg 11 (.mv (Zt 0)) 10 true,Zg 12 (.mv (Zt 2)) 10 true,Zg 13 (.bin .leq (Zt 11) (Zt 12)) 10 true,Zo 14 (.pick (Zt 10) (Zt 13) (Zy false)),Zm 6 14] .ret))
def eI:List RV:=[.t 6]
theorem m178:ba Tryz.prog 178 3 A178 eI=true:=by kernel_rfl
def A224:aw:=(Zs [Zo 2 (.mv (Zy false))] (Zs [Zm 3 0,Zo 4 (.bin .geq (Zt 3) (.c (.sc (.int .u8 97)))),Zm 5 4,Zg 6 (.mv (Zt 0)) 5 true,Zg 7 (.bin .leq (Zt 6) (.c (.sc (.int .u8 122)))) 5 true,Zo 8 (.pick (Zt 5) (Zt 7) (Zy false)),Zm 9 8,Zg 10 (.mv (Zt 0)) 9 false,Zg 11 (.bin .geq (Zt 10) (.c (.sc (.int .u8 48)))) 9 false,Zg 12 (.mv (Zt 11)) 9 false,Zg 13 (.mv (Zt 0)) 12 true,Zg 14 (.bin .leq (Zt 13) (.c (.sc (.int .u8 57)))) 12 true,Zg 15 (.pick (Zt 12) (Zt 14) (Zy false)) 9 false,Zo 16 (.pick (Zt 9) (Zy true) (Zt 15)),Zm 2 16] .ret))
theorem m224:ba Tryz.prog 224 1 A224 V91=true:=by kernel_rfl
def LP:aw:=(.cond (Zt 17) (Zs [Zo 2 (.mv (Zy false))] .ret) .skip)
def yk:aw:=(.seq (Zs [Zm 18 3,Zm 19 0,Zo 20 (.lenz (Zt 19)),Zb 21 .lss 18 20] (.cond (Zt 21) .skip (.exit 0))) (.seq (.blk 1 (Zs [Zm 24 0,Zm 25 3,Zo 26 (.stri (Zt 24) (Zt 25)),Zo 27 (.call 224 [(Zt 26)]),Zo 28 (.un .not (Zt 27))] (.cond (Zt 28) (Zs [Zo 2 (.mv (Zy false))] .ret) .skip))) (.reg [Zm 22 3,Zd 23 .add 22 1,Zm 3 23] [])))
def GR:aw:=(Zs [Zo 2 (.mv (Zy true))] .ret)
def A187:aw:=(Zs [Zo 2 (.mv (Zy false))] (.seq (.seqr (.reg [Zm 4 0,Zo 5 (.lenz (Zt 4)),Zo 6 (.call 178 [(Zt 5),(.c (.i 1)),(.c (.i 8))]),Zo 7 (.un .not (Zt 6)),Zm 8 7,Zg 9 (.mv (Zt 0)) 8 false,Zg 10 (.stri (Zt 9) (.c (.i 0))) 8 false,Zg 11 (.bin .lss (Zt 10) (.c (.sc (.int .u8 97)))) 8 false,Zo 12 (.pick (Zt 8) (Zy true) (Zt 11)),Zm 13 12,Zg 14 (.mv (Zt 0)) 13 false,Zg 15 (.stri (Zt 14) (.c (.i 0))) 13 false,Zg 16 (.bin .gtr (Zt 15) (.c (.sc (.int .u8 122)))) 13 false,Zo 17 (.pick (Zt 13) (Zy true) (Zt 16))] []) [0,17] [] LP) (.seqa (.reg [Zn 3 0] []) (.blk 0 (.loop yk)) [] [] GR)))
theorem m187:ba Tryz.prog 187 1 A187 V91=true:=by kernel_rfl
def xu:aw:=(.seq (Zs [Zm 6 5,Zm 7 0,Zk 8 7,Zb 9 .lss 6 8] (.cond (Zt 9) .skip (.exit 0))) (.seq (.blk 1 (Zs [Zm 12 0,Zm 13 5,Zx 14 1 12 13,Zl 15 14,Zm 16 1,Zb 17 .eql 15 16] (.cond (Zt 17) (Zs [Zm 18 5,Zm 4 18] .ret) .skip))) (.reg [Zm 10 5,Zd 11 .add 10 1,Zm 5 11] [])))
def Jp:aw:=(Zs [Zn 4 (-1)] .ret)
def A188:aw:=(Zs [Zn 4 0] (.seqa (.reg [Zn 5 0] []) (.blk 0 (.loop xu)) [] [] Jp))
theorem m188:ba Tryz.prog 188 2 A188 V85=true:=by kernel_rfl
def A189:aw:=(Zs [Zo 2 (.box 4 (Zt 0)),Zo 4 (.mv (Zy false))] (Zs [Za 5 0 2,Zl 6 5,Zm 7 1,Zd 8 .sub 7 1,Zo 9 (.call 178 [(Zt 6),(.c (.i 0)),(Zt 8)]),Zm 10 9,Zg 11 (.fad 1 (Zt 2)) 10 true,Zg 12 (.load 1 false (Zt 11)) 10 true,Zg 13 (.fad 0 (Zt 2)) 10 true,Zg 14 (.load 1 false (Zt 13)) 10 true,Zg 15 (.bin .add (Zt 14) (.c (.i 1))) 10 true,Zg 16 (.mv (Zt 1)) 10 true,Zg 17 (.bin .sub (Zt 16) (.c (.i 1))) 10 true,Zg 18 (.call 178 [(Zt 12),(Zt 15),(Zt 17)]) 10 true,Zo 19 (.pick (Zt 10) (Zt 18) (Zy false)),Zm 20 19,Zg 21 (.fad 2 (Zt 2)) 20 true,Zg 22 (.load 1 false (Zt 21)) 20 true,Zg 23 (.call 178 [(Zt 22),(.c (.i 1)),(.c (.i 5000))]) 20 true,Zo 24 (.pick (Zt 20) (Zt 23) (Zy false)),Zm 25 24,Zg 26 (.fad 3 (Zt 2)) 25 true,Zg 27 (.load 1 false (Zt 26)) 25 true,Zg 28 (.call 178 [(Zt 27),(.c (.i 0)),(.c (.i 9))]) 25 true,Zo 29 (.pick (Zt 25) (Zt 28) (Zy false)),Zm 4 29] .ret))
theorem m189:ba Tryz.prog 189 2 A189 V85=true:=by kernel_rfl
def A190:aw:=(Zs [Zo 2 (.box 4 (Zt 0)),Zo 3 (.box 4 (Zt 1)),Zn 4 0] (.seq (.blk 0 (Zs [Za 6 0 2,Zl 7 6,Za 8 0 3,Zl 9 8,Zb 10 .neq 7 9,Zm 5 10] (.cond (Zt 5) (Zs [Za 11 0 2,Zl 12 11,Za 13 0 3,Zl 14 13,Zb 15 .sub 12 14,Zm 4 15] .ret) (Zs [Za 17 1 2,Zl 18 17,Za 19 1 3,Zl 20 19,Zb 21 .neq 18 20,Zm 16 21] (.cond (Zt 16) (Zs [Za 22 1 2,Zl 23 22,Za 24 1 3,Zl 25 24,Zb 26 .sub 23 25,Zm 4 26] .ret) (Zs [Za 28 2 2,Zl 29 28,Za 30 2 3,Zl 31 30,Zb 32 .neq 29 31,Zm 27 32] (.cond (Zt 27) (Zs [Za 33 2 2,Zl 34 33,Za 35 2 3,Zl 36 35,Zb 37 .sub 34 36,Zm 4 37] .ret) .skip))))))) (Zs [Za 38 3 2,Zl 39 38,Za 40 3 3,Zl 41 40,Zb 42 .sub 39 41,Zm 4 42] .ret)))
theorem m190:ba Tryz.prog 190 2 A190 V85=true:=by kernel_rfl
def Jq:aw:=(.cond (Zt 15) (Zs [Zo 2 (.mv (Zy false))] .ret) .skip)
def GY:aw:=(.cond (Zt 41) (Zs [Zo 2 (.mv (Zy false))] .ret) .skip)
def Ab:aw:=(.seq (Zs [Zm 16 3,Za 17 0 1,Zl 18 17,Zk 19 18,Zb 20 .lss 16 19] (.cond (Zt 20) .skip (.exit 0))) (.seq (.blk 1 (.seqr (.drw [Za 23 0 1,Zl 24 23,Zm 25 3,Zx 26 1 24 25,Zl 27 26,Zo 28 (.call 187 [(Zt 27)]),Zo 29 (.un .not (Zt 28)),Zm 30 29,Zg 31 (.fad 0 (Zt 1)) 30 false,Zg 32 (.load 1 false (Zt 31)) 30 false,Zg 33 (.fad 0 (Zt 1)) 30 false,Zg 34 (.load 1 false (Zt 33)) 30 false,Zg 35 (.mv (Zt 3)) 30 false,Zg 36 (.idx 1 (Zt 34) (Zt 35)) 30 false,Zg 37 (.load 1 false (Zt 36)) 30 false,Zg 38 (.call 188 [(Zt 32),(Zt 37)]) 30 false,Zg 39 (.mv (Zt 3)) 30 false,Zg 40 (.bin .neq (Zt 38) (Zt 39)) 30 false,Zo 41 (.pick (Zt 30) (Zy true) (Zt 40))] []) [1,3,41] [1] GY)) (.reg [Zm 21 3,Zd 22 .add 21 1,Zm 3 22] [])))
def KG:aw:=(.cond (Zt 77) (Zs [Zo 2 (.mv (Zy false))] .ret) .skip)
def zA:aw:=(.seq (Zs [Zm 42 4,Za 43 1 1,Zl 44 43,Zk 45 44,Zb 46 .lss 42 45] (.cond (Zt 46) .skip (.exit 2))) (.seq (.blk 3 (.seqr (.drw [Za 49 1 1,Zl 50 49,Zm 51 4,Zx 52 4 50 51,Zv 53 4 52,Za 54 0 1,Zl 55 54,Zk 56 55,Zo 57 (.call 189 [(Zt 53),(Zt 56)]),Zo 58 (.un .not (Zt 57)),Zm 59 58,Zg 60 (.mv (Zt 4)) 59 false,Zg 61 (.bin .gtr (Zt 60) (.c (.i 0))) 59 false,Zg 62 (.mv (Zt 61)) 59 false,Zg 63 (.fad 1 (Zt 1)) 62 true,Zg 64 (.load 1 false (Zt 63)) 62 true,Zg 65 (.mv (Zt 4)) 62 true,Zg 66 (.bin .sub (Zt 65) (.c (.i 1))) 62 true,Zg 67 (.idx 4 (Zt 64) (Zt 66)) 62 true,Zg 68 (.load 4 true (Zt 67)) 62 true,Zg 69 (.fad 1 (Zt 1)) 62 true,Zg 70 (.load 1 false (Zt 69)) 62 true,Zg 71 (.mv (Zt 4)) 62 true,Zg 72 (.idx 4 (Zt 70) (Zt 71)) 62 true,Zg 73 (.load 4 true (Zt 72)) 62 true,Zg 74 (.call 190 [(Zt 68),(Zt 73)]) 62 true,Zg 75 (.bin .gtr (Zt 74) (.c (.i 0))) 62 true,Zg 76 (.pick (Zt 62) (Zt 75) (Zy false)) 59 false,Zo 77 (.pick (Zt 59) (Zy true) (Zt 76))] []) [1,4,77] [1] KG)) (.reg [Zm 47 4,Zd 48 .add 47 1,Zm 4 48] [])))
def Ke:aw:=(Zs [Zo 2 (.mv (Zy true))] .ret)
def Ja:aw:=(.seqa (.reg [Zn 4 0] []) (.blk 2 (.loop zA)) [] [] Ke)
def A138:aw:=(Zs [Zo 1 (.box 2 (Zt 0)),Zo 2 (.mv (Zy false))] (.seq (.seqr (.reg [Za 5 0 1,Zl 6 5,Zk 7 6,Zo 8 (.call 178 [(Zt 7),(.c (.i 2)),(.c (.i 8))]),Zo 9 (.un .not (Zt 8)),Zm 10 9,Zg 11 (.fad 1 (Zt 1)) 10 false,Zg 12 (.load 1 false (Zt 11)) 10 false,Zg 13 (.len (Zt 12)) 10 false,Zg 14 (.bin .gtr (Zt 13) (.c (.i 14))) 10 false,Zo 15 (.pick (Zt 10) (Zy true) (Zt 14))] []) [1,15] [1] Jq) (.seqa (.reg [Zn 3 0] []) (.blk 0 (.loop Ab)) [1] [1] Ja)))
theorem m138:ba Tryz.prog 138 1 A138 V91=true:=by kernel_rfl
def A246:aw:=(Zs [Zo 3 (.box 2 (Zt 0)),Zn 6 0] (Zs [Za 8 1 3,Zl 9 8,Zm 10 1,Zx 11 4 9 10,Zv 12 4 11,Zo 7 (.alloc (.agg [.i 0,.i 0,.i 0,.i 0])),Zw (.store 4 (Zt 7) (Zt 12))] (.seq (Zs [Zm 13 2] (.blk 0 (Zs [Za 15 0 7,Zl 16 15,Zb 17 .eql 13 16,Zm 14 17] (.cond (Zt 14) (Zs [Za 18 1 7,Zl 19 18,Zm 6 19] .ret) (Zs [Za 21 1 7,Zl 22 21,Zb 23 .eql 13 22,Zm 20 23] (.cond (Zt 20) (Zs [Za 24 0 7,Zl 25 24,Zm 6 25] .ret) .skip)))))) (Zs [Zn 6 (-1)] .ret))))
theorem m246:ba Tryz.prog 246 3 A246 eI=true:=by kernel_rfl
def zy:aw:=(.seq (Zs [Zm 6 5,Zm 7 0,Zk 8 7,Zb 9 .lss 6 8] (.cond (Zt 9) .skip (.exit 0))) (.seq (.blk 1 (Zs [Zm 12 0,Zm 13 5,Zx 14 1 12 13,Zl 15 14,Zm 16 1,Zb 17 .eql 15 16] (.cond (Zt 17) (Zs [Zo 4 (.mv (Zy true))] .ret) .skip))) (.reg [Zm 10 5,Zd 11 .add 10 1,Zm 5 11] [])))
def GB:aw:=(Zs [Zo 4 (.mv (Zy false))] .ret)
def A144:aw:=(Zs [Zo 4 (.mv (Zy false))] (.seqa (.reg [Zn 5 0] []) (.blk 0 (.loop zy)) [] [] GB))
theorem m144:ba Tryz.prog 144 2 A144 V85=true:=by kernel_rfl
def Gl:aw:=(.cond (Zt 25) (.seq (.reg [Zm 26 6,Zm 4 26,Zo 5 (.mv (Zy false))] [.s 4]) .ret) .skip)
def KR:aw:=(.cond (Zt 65) (.seq (.reg [Zm 66 6,Zm 4 66,Zo 5 (.mv (Zy false))] [.s 4]) .ret) .skip)
def yw:aw:=(.seq (Zs [Zm 27 7,Za 28 1 3,Zl 29 28,Zk 30 29,Zb 31 .lss 27 30] (.cond (Zt 31) .skip (.exit 0))) (.seq (.blk 1 (.seq (.seq (.drw [Za 34 1 3,Zl 35 34,Zm 36 7,Zx 37 1 35 36,Zl 38 37,Za 39 1 2,Zl 40 39,Zk 41 40,Zd 42 .sub 41 1,Zo 43 (.call 178 [(Zt 38),(.c (.i 0)),(Zt 42)]),Zo 44 (.un .not (Zt 43))] []) (.cond (Zt 44) (.seq (.reg [Zm 45 6,Zm 4 45,Zo 5 (.mv (Zy false))] [.s 4]) .ret) .skip)) (.seq (.drw [Zv 46 2 2,Za 47 1 3,Zl 48 47,Zm 49 7,Zx 50 1 48 49,Zl 51 50,Zm 52 6,Zm 53 6,Zk 54 53,Zd 55 .sub 54 1,Zx 56 1 52 55,Zl 57 56,Zo 58 (.call 246 [(Zt 46),(Zt 51),(Zt 57)]),Zm 8 58] []) (.seq (.seqr (.reg [Zm 59 8,Zd 60 .lss 59 0,Zm 61 60,Zg 62 (.mv (Zt 6)) 61 false,Zg 63 (.mv (Zt 8)) 61 false,Zg 64 (.call 144 [(Zt 62),(Zt 63)]) 61 false,Zo 65 (.pick (Zt 61) (Zy true) (Zt 64))] []) [2,3,6,7,8,65] [2,3,6] KR) (.reg [Zm 67 6,Zm 68 8,Zo 69 (.bsl 1 false [(Zt 68)]),Zo 70 (.app 1 8 true (Zt 67) (Zt 69)),Zm 6 70] [.s 6]))))) (.reg [Zm 32 7,Zd 33 .add 32 1,Zm 7 33] [])))
def IX:aw:=(.seq (.reg [Zm 71 6,Zm 4 71,Zo 5 (.mv (Zy true))] [.s 4]) .ret)
def A220:aw:=(.seq (.reg [Zo 2 (.box 2 (Zt 0)),Zo 3 (.box 2 (Zt 1)),Zo 4 (.mv (.c (.lst .u 1 []))),Zo 5 (.mv (Zy false))] [.s 4]) (.seq (.reg [Za 9 0 3,Zl 10 9,Zo 11 (.bsl 1 false [(Zt 10)]),Zm 6 11] [.s 6]) (.seq (.seqr (.reg [Za 12 0 3,Zl 13 12,Za 14 0 2,Zl 15 14,Zk 16 15,Zd 17 .sub 16 1,Zo 18 (.call 178 [(Zt 13),(.c (.i 0)),(Zt 17)]),Zo 19 (.un .not (Zt 18)),Zm 20 19,Zg 21 (.fad 1 (Zt 3)) 20 false,Zg 22 (.load 1 false (Zt 21)) 20 false,Zg 23 (.len (Zt 22)) 20 false,Zg 24 (.bin .eql (Zt 23) (.c (.i 0))) 20 false,Zo 25 (.pick (Zt 20) (Zy true) (Zt 24))] []) [2,3,6,25] [2,3,6] Gl) (.seqa (.reg [Zn 7 0] []) (.blk 0 (.loop yw)) [6] [6] IX))))
def nb:List RV:=[.t 4,.t 5]
theorem m220:ba Tryz.prog 220 2 A220 nb=true:=by kernel_rfl
def A191:aw:=(Zs [Zo 2 (.box 2 (Zt 0)),Zo 3 (.box 2 (Zt 1)),Zo 4 (.mv (Zy false))] (.seq (Zs [Zv 7 2 2,Zo 8 (.call 138 [(Zt 7)]),Zo 9 (.un .not (Zt 8))] (.cond (Zt 9) (Zs [Zo 4 (.mv (Zy false))] .ret) .skip)) (.seq (.reg [Zv 11 2 2,Zv 12 2 3,Zo 13 (.call 220 [(Zt 11),(Zt 12)]),Zm 10 13,Ze 14 10 0,Ze 15 10 1,Zm 5 14,Zm 6 15] [.s 5]) (Zs [Zm 16 6,Zm 4 16] .ret))))
theorem m191:ba Tryz.prog 191 2 A191 V85=true:=by kernel_rfl
def A192:aw:=(Zs [Zo 1 (.box 2 (Zt 0)),Zo 2 (.mv (Zy false))] (Zs [Za 3 0 1,Zl 4 3,Zo 5 (.call 178 [(Zt 4),(.c (.i 0)),(.c (.i 23))]),Zm 6 5,Zg 7 (.fad 1 (Zt 1)) 6 true,Zg 8 (.load 1 false (Zt 7)) 6 true,Zg 9 (.fad 0 (Zt 1)) 6 true,Zg 10 (.load 1 false (Zt 9)) 6 true,Zg 11 (.bin .sub (.c (.i 24)) (Zt 10)) 6 true,Zg 12 (.call 178 [(Zt 8),(.c (.i 1)),(Zt 11)]) 6 true,Zo 13 (.pick (Zt 6) (Zt 12) (Zy false)),Zm 2 13] .ret))
theorem m192:ba Tryz.prog 192 1 A192 V91=true:=by kernel_rfl
def A139:aw:=(Zs [Zo 2 (.box 2 (Zt 0)),Zo 3 (.box 5 (Zt 1)),Zo 4 (.mv (Zy false))] (Zs [Za 5 0 3,Zl 6 5,Zo 7 (.call 178 [(Zt 6),(.c (.i 1)),(.c (.i 999))]),Zm 8 7,Zg 9 (.load 2 true (Zt 2)) 8 true,Zg 10 (.fad 1 (Zt 3)) 8 true,Zg 11 (.load 2 true (Zt 10)) 8 true,Zg 12 (.call 191 [(Zt 9),(Zt 11)]) 8 true,Zo 13 (.pick (Zt 8) (Zt 12) (Zy false)),Zm 14 13,Zg 15 (.fad 3 (Zt 3)) 14 true,Zg 16 (.load 2 true (Zt 15)) 14 true,Zg 17 (.call 192 [(Zt 16)]) 14 true,Zo 18 (.pick (Zt 14) (Zt 17) (Zy false)),Zm 4 18] .ret))
theorem m139:ba Tryz.prog 139 2 A139 V85=true:=by kernel_rfl
def zR:aw:=(.seq (Zs [Zm 6 5,Za 7 1 2,Zl 8 7,Zk 9 8,Zb 10 .lss 6 9] (.cond (Zt 10) .skip (.exit 0))) (.seq (.blk 1 (Zs [Zm 13 1,Za 14 1 2,Zl 15 14,Zm 16 5,Zx 17 1 15 16,Zl 18 17,Zo 19 (.call 144 [(Zt 13),(Zt 18)])] (.cond (Zt 19) (Zs [Zo 4 (.mv (Zy true))] .ret) .skip))) (.reg [Zm 11 5,Zd 12 .add 11 1,Zm 5 12] [])))
def Ia:aw:=(Zs [Zo 4 (.mv (Zy false))] .ret)
def A125:aw:=(Zs [Zo 2 (.box 2 (Zt 0)),Zo 4 (.mv (Zy false))] (.seqa (.reg [Zn 5 0] []) (.blk 0 (.loop zR)) [] [] Ia))
theorem m125:ba Tryz.prog 125 2 A125 V85=true:=by kernel_rfl
def A167:aw:=(Zs [Zo 1 (.box 2 (Zt 0)),Zn 2 0] (Zs [Za 3 1 1,Zl 4 3,Zo 5 (.conv .u64 (Zt 4)),Zo 6 (.bin .shl (.c (.i 1)) (Zt 5)),Zd 7 .sub 6 1,Za 8 0 1,Zl 9 8,Zo 10 (.conv .u64 (Zt 9)),Zb 11 .shl 7 10,Zm 2 11] .ret))
theorem m167:ba Tryz.prog 167 1 A167 V91=true:=by kernel_rfl
def A140:aw:=(Zs [Zo 2 (.box 5 (Zt 0)),Zo 3 (.box 5 (Zt 1)),Zo 4 (.mv (Zy false))] (.seq (.drw [Za 5 1 2,Zv 6 2 5,Za 7 1 3,Za 8 1 7,Zl 9 8,Zo 10 (.call 125 [(Zt 6),(Zt 9)]),Zm 11 10,Zg 12 (.fad 3 (Zt 2)) 11 true,Zg 13 (.load 2 true (Zt 12)) 11 true,Zg 14 (.call 167 [(Zt 13)]) 11 true,Zg 15 (.fad 3 (Zt 3)) 11 true,Zg 16 (.load 2 true (Zt 15)) 11 true,Zg 17 (.call 167 [(Zt 16)]) 11 true,Zg 18 (.bin .and (Zt 14) (Zt 17)) 11 true,Zg 19 (.bin .neq (Zt 18) (.c (.i 0))) 11 true,Zo 20 (.pick (Zt 11) (Zt 19) (Zy false)),Zm 4 20] []) .ret))
theorem m140:ba Tryz.prog 140 2 A140 V85=true:=by kernel_rfl
def Tl:aw:=(.cond (Zt 14) (Zs [Zo 2 (.mv (Zy false))] .ret) .skip)
def Tm:aw:=(.cond (Zt 50) (Zs [Zo 2 (.mv (Zy false))] .ret) .skip)
def Lv:aw:=(.seq (Zs [Zm 51 4,Zm 52 3,Zb 53 .lss 51 52] (.cond (Zt 53) .skip (.exit 2))) (.seq (.blk 3 (.seq (.drw [Za 56 2 1,Zl 57 56,Zm 58 4,Zx 59 5 57 58,Zv 60 5 59,Za 61 2 1,Zl 62 61,Zm 63 3,Zx 64 5 62 63,Zv 65 5 64,Zo 66 (.call 140 [(Zt 60),(Zt 65)])] []) (.cond (Zt 66) (Zs [Zo 2 (.mv (Zy false))] .ret) .skip))) (.reg [Zm 54 4,Zd 55 .add 54 1,Zm 4 55] [])))
def Ts:aw:=(.reg [Zm 20 3,Zd 21 .add 20 1,Zm 3 21] [])
def JV:aw:=(.seq (Zs [Zm 15 3,Za 16 2 1,Zl 17 16,Zk 18 17,Zb 19 .lss 15 18] (.cond (Zt 19) .skip (.exit 0))) (.seqr (.blk 1 (.seq (.seqr (.drw [Za 22 0 1,Zv 23 2 22,Za 24 2 1,Zl 25 24,Zm 26 3,Zx 27 5 25 26,Zv 28 5 27,Zo 29 (.call 139 [(Zt 23),(Zt 28)]),Zo 30 (.un .not (Zt 29)),Zm 31 30,Zg 32 (.mv (Zt 3)) 31 false,Zg 33 (.bin .gtr (Zt 32) (.c (.i 0))) 31 false,Zg 34 (.mv (Zt 33)) 31 false,Zg 35 (.fad 2 (Zt 1)) 34 true,Zg 36 (.load 1 false (Zt 35)) 34 true,Zg 37 (.mv (Zt 3)) 34 true,Zg 38 (.bin .sub (Zt 37) (.c (.i 1))) 34 true,Zg 39 (.idx 5 (Zt 36) (Zt 38)) 34 true,Zg 40 (.fad 0 (Zt 39)) 34 true,Zg 41 (.load 1 false (Zt 40)) 34 true,Zg 42 (.fad 2 (Zt 1)) 34 true,Zg 43 (.load 1 false (Zt 42)) 34 true,Zg 44 (.mv (Zt 3)) 34 true,Zg 45 (.idx 5 (Zt 43) (Zt 44)) 34 true,Zg 46 (.fad 0 (Zt 45)) 34 true,Zg 47 (.load 1 false (Zt 46)) 34 true,Zg 48 (.bin .geq (Zt 41) (Zt 47)) 34 true,Zg 49 (.pick (Zt 34) (Zt 48) (Zy false)) 31 false,Zo 50 (.pick (Zt 31) (Zy true) (Zt 49))] []) [1,3,50] [1] Tm) (Zs [Zn 4 0] (.blk 2 (.loop Lv))))) [1,3] [1] Ts))
def Ty:aw:=(Zs [Zo 2 (.mv (Zy true))] .ret)
def A74:aw:=(Zs [Zo 1 (.box 3 (Zt 0)),Zo 2 (.mv (Zy false))] (.seq (.seqr (.reg [Za 5 0 1,Zv 6 2 5,Zo 7 (.call 138 [(Zt 6)]),Zo 8 (.un .not (Zt 7)),Zm 9 8,Zg 10 (.fad 2 (Zt 1)) 9 false,Zg 11 (.load 1 false (Zt 10)) 9 false,Zg 12 (.len (Zt 11)) 9 false,Zg 13 (.bin .gtr (Zt 12) (.c (.i 12))) 9 false,Zo 14 (.pick (Zt 9) (Zy true) (Zt 13))] []) [1,14] [1] Tl) (.seqa (.reg [Zn 3 0] []) (.blk 0 (.loop JV)) [] [] Ty)))
theorem m74:ba Tryz.prog 74 1 A74 V91=true:=by kernel_rfl
def NY:aw:=(.cond (Zt 37) (Zs [Zo 6 (.mv (Zy false))] .ret) .skip)
def xy:aw:=(.seq (Zs [Zm 8 7,Zm 9 0,Zk 10 9,Zb 11 .lss 8 10] (.cond (Zt 11) .skip (.exit 0))) (.seq (.blk 1 (.seqr (.drw [Zm 14 0,Zm 15 7,Zx 16 1 14 15,Zl 17 16,Zm 18 1,Zm 19 2,Zo 20 (.call 178 [(Zt 17),(Zt 18),(Zt 19)]),Zo 21 (.un .not (Zt 20)),Zm 22 21,Zg 23 (.mv (Zt 7)) 22 false,Zg 24 (.bin .gtr (Zt 23) (.c (.i 0))) 22 false,Zg 25 (.mv (Zt 24)) 22 false,Zg 26 (.mv (Zt 0)) 25 true,Zg 27 (.mv (Zt 7)) 25 true,Zg 28 (.bin .sub (Zt 27) (.c (.i 1))) 25 true,Zg 29 (.idx 1 (Zt 26) (Zt 28)) 25 true,Zg 30 (.load 1 false (Zt 29)) 25 true,Zg 31 (.mv (Zt 0)) 25 true,Zg 32 (.mv (Zt 7)) 25 true,Zg 33 (.idx 1 (Zt 31) (Zt 32)) 25 true,Zg 34 (.load 1 false (Zt 33)) 25 true,Zg 35 (.bin .geq (Zt 30) (Zt 34)) 25 true,Zg 36 (.pick (Zt 25) (Zt 35) (Zy false)) 22 false,Zo 37 (.pick (Zt 22) (Zy true) (Zt 36))] []) [0,1,2,7,37] [] NY)) (.reg [Zm 12 7,Zd 13 .add 12 1,Zm 7 13] [])))
def KJ:aw:=(Zs [Zo 6 (.mv (Zy true))] .ret)
def A121:aw:=(Zs [Zo 6 (.mv (Zy false))] (.seqa (.reg [Zn 7 0] []) (.blk 0 (.loop xy)) [] [] KJ))
theorem m121:ba Tryz.prog 121 3 A121 eI=true:=by kernel_rfl
def zO:aw:=(.seq (Zs [Zm 6 5,Zm 7 0,Zk 8 7,Zb 9 .lss 6 8] (.cond (Zt 9) .skip (.exit 0))) (.seq (.blk 1 (Zs [Zm 12 0,Zm 13 5,Zx 14 5 12 13,Za 15 0 14,Zl 16 15,Zm 17 1,Zb 18 .eql 16 17] (.cond (Zt 18) (Zs [Zm 19 5,Zm 4 19] .ret) .skip))) (.reg [Zm 10 5,Zd 11 .add 10 1,Zm 5 11] [])))
def Hw:aw:=(Zs [Zn 4 (-1)] .ret)
def A115:aw:=(Zs [Zn 4 0] (.seqa (.reg [Zn 5 0] []) (.blk 0 (.loop zO)) [] [] Hw))
theorem m115:ba Tryz.prog 115 2 A115 V85=true:=by kernel_rfl
def A179:aw:=(.seq (.reg [Zo 2 (.box 2 (Zt 0)),Zo 3 (.box 2 (Zt 1)),Zo 4 (.mv (.c (.lst .u 1 [])))] [.s 4]) (.seq (.reg [Zv 8 2 2,Zv 9 2 3,Zo 10 (.call 220 [(Zt 8),(Zt 9)]),Zm 7 10,Ze 11 7 0,Ze 12 7 1,Zm 5 11,Zm 6 12] [.s 5]) (.seq (.reg [Zm 13 5,Zm 4 13] [.s 4]) .ret)))
theorem m179:ba Tryz.prog 179 2 A179 V85=true:=by kernel_rfl
def A126:aw:=(Zs [Zo 2 (.box 2 (Zt 0)),Zo 3 (.box 2 (Zt 1)),Zn 4 0] (.seq (.reg [Zv 6 2 2,Zv 7 2 3,Zo 8 (.call 179 [(Zt 6),(Zt 7)]),Zm 5 8] [.s 5]) (Zs [Zm 9 5,Zm 10 5,Zk 11 10,Zd 12 .sub 11 1,Zx 13 1 9 12,Zl 14 13,Zm 4 14] .ret)))
theorem m126:ba Tryz.prog 126 2 A126 V85=true:=by kernel_rfl
def TE:aw:=(.cond (Zt 32) (Zs [Zo 2 (.mv (Zy false))] .ret) .skip)
def SN:aw:=(.cond (Zt 60) (Zs [Zo 2 (.mv (Zy false))] .ret) .skip)
def SW:aw:=(.cond (Zt 92) (Zs [Zo 2 (.mv (Zy false))] .ret) .skip)
def Km:aw:=(.seq (Zs [Zm 33 4,Za 34 0 1,Za 35 2 34,Zl 36 35,Zk 37 36,Zb 38 .lss 33 37] (.cond (Zt 38) .skip (.exit 0))) (.seq (.blk 1 (Zs [Za 41 0 1,Za 42 2 41,Zl 43 42,Zm 44 4,Zx 45 5 43 44,Zv 46 5 45,Zo 5 (.alloc (.agg [.i 0,.i 0,.lst .u 1 [],.i 0,.i 0])),Zw (.store 5 (Zt 5) (Zt 46))] (Zs [Za 47 3 1,Zl 48 47,Za 49 0 5,Zl 50 49,Zo 51 (.call 115 [(Zt 48),(Zt 50)]),Zm 6 51] (.seq (.seqr (.reg [Zm 52 6,Zd 53 .lss 52 0,Zm 54 53,Zg 55 (.fad 1 (Zt 5)) 54 false,Zg 56 (.load 2 true (Zt 55)) 54 false,Zg 57 (.fad 4 (Zt 1)) 54 false,Zg 58 (.load 1 false (Zt 57)) 54 false,Zg 59 (.call 125 [(Zt 56),(Zt 58)]) 54 false,Zo 60 (.pick (Zt 54) (Zy true) (Zt 59))] []) [1,3,4,5,6,60] [1,3,5] SN) (Zs [Za 61 3 1,Zl 62 61,Zm 63 6,Zx 64 5 62 63,Zv 65 5 64,Zo 7 (.alloc (.agg [.i 0,.i 0,.lst .u 1 [],.i 0,.i 0])),Zw (.store 5 (Zt 7) (Zt 65))] (.seqr (.drw [Za 66 1 5,Za 67 0 66,Zl 68 67,Za 69 1 7,Za 70 0 69,Zl 71 70,Zb 72 .neq 68 71,Zm 73 72,Zg 74 (.load 2 true (Zt 3)) 73 false,Zg 75 (.fad 1 (Zt 5)) 73 false,Zg 76 (.load 2 true (Zt 75)) 73 false,Zg 77 (.call 126 [(Zt 74),(Zt 76)]) 73 false,Zg 78 (.load 2 true (Zt 3)) 73 false,Zg 79 (.fad 1 (Zt 7)) 73 false,Zg 80 (.load 2 true (Zt 79)) 73 false,Zg 81 (.call 126 [(Zt 78),(Zt 80)]) 73 false,Zg 82 (.bin .neq (Zt 77) (Zt 81)) 73 false,Zo 83 (.pick (Zt 73) (Zy true) (Zt 82)),Zm 84 83,Zg 85 (.fad 3 (Zt 5)) 84 false,Zg 86 (.fad 1 (Zt 85)) 84 false,Zg 87 (.load 1 false (Zt 86)) 84 false,Zg 88 (.fad 3 (Zt 7)) 84 false,Zg 89 (.fad 1 (Zt 88)) 84 false,Zg 90 (.load 1 false (Zt 89)) 84 false,Zg 91 (.bin .neq (Zt 87) (Zt 90)) 84 false,Zo 92 (.pick (Zt 84) (Zy true) (Zt 91))] []) [1,3,4,92] [1,3] SW)))))) (.reg [Zm 39 4,Zd 40 .add 39 1,Zm 4 40] [])))
def SI:aw:=(Zs [Zo 2 (.mv (Zy true))] .ret)
def A61:aw:=(Zs [Zo 1 (.box 5 (Zt 0)),Zo 2 (.mv (Zy false))] (Zs [Za 8 0 1,Za 9 0 8,Zv 10 2 9,Zo 3 (.alloc (.agg [.lst .u 1 [],.lst .u 4 []])),Zw (.store 2 (Zt 3) (Zt 10))] (.seq (.seqr (.reg [Za 11 0 1,Zv 12 3 11,Zo 13 (.call 74 [(Zt 12)]),Zo 14 (.un .not (Zt 13)),Zm 15 14,Zg 16 (.load 2 true (Zt 3)) 15 false,Zg 17 (.fad 3 (Zt 1)) 15 false,Zg 18 (.load 1 false (Zt 17)) 15 false,Zg 19 (.build [.lst .u 1 [],.lst .u 4 [],.lst .u 5 []] [(0,2,(Zt 16)),(2,1,(Zt 18))]) 15 false,Zg 20 (.call 74 [(Zt 19)]) 15 false,Zg 21 (.un .not (Zt 20)) 15 false,Zo 22 (.pick (Zt 15) (Zy true) (Zt 21)),Zm 23 22,Zg 24 (.fad 4 (Zt 1)) 23 false,Zg 25 (.load 1 false (Zt 24)) 23 false,Zg 26 (.fad 1 (Zt 3)) 23 false,Zg 27 (.load 1 false (Zt 26)) 23 false,Zg 28 (.len (Zt 27)) 23 false,Zg 29 (.bin .sub (Zt 28) (.c (.i 1))) 23 false,Zg 30 (.call 121 [(Zt 25),(.c (.i 0)),(Zt 29)]) 23 false,Zg 31 (.un .not (Zt 30)) 23 false,Zo 32 (.pick (Zt 23) (Zy true) (Zt 31))] []) [1,3,32] [1,3] TE) (.seqa (.reg [Zn 4 0] []) (.blk 0 (.loop Km)) [] [] SI))))
theorem m61:ba Tryz.prog 61 1 A61 V91=true:=by kernel_rfl
def Ai:aw:=(.seq (Zs [Zm 6 5,Za 7 2 2,Zl 8 7,Zk 9 8,Zb 10 .lss 6 9] (.cond (Zt 10) .skip (.exit 0))) (.seq (.blk 1 (Zs [Za 13 2 2,Zl 14 13,Zm 15 5,Zx 16 5 14 15,Za 17 0 16,Zl 18 17,Zm 19 1,Zb 20 .eql 18 19] (.cond (Zt 20) (Zs [Zm 21 5,Zm 4 21] .ret) .skip))) (.reg [Zm 11 5,Zd 12 .add 11 1,Zm 5 12] [])))
def NK:aw:=(Zs [Zn 4 (-1)] .ret)
def A116:aw:=(Zs [Zo 2 (.box 3 (Zt 0)),Zn 4 0] (.seqa (.reg [Zn 5 0] []) (.blk 0 (.loop Ai)) [] [] NK))
theorem m116:ba Tryz.prog 116 2 A116 V85=true:=by kernel_rfl
def Ac:aw:=(.seq (Zs [Zm 7 6,Za 8 2 2,Zl 9 8,Zk 10 9,Zb 11 .lss 7 10] (.cond (Zt 11) .skip (.exit 0))) (.seq (.blk 1 (Zs [Za 14 2 2,Zl 15 14,Zm 16 6,Zx 17 5 15 16,Za 18 1 17,Za 19 1 18,Zl 20 19,Zm 21 1,Zo 22 (.call 144 [(Zt 20),(Zt 21)])] (.cond (Zt 22) (.reg [Zm 23 5,Za 24 2 2,Zl 25 24,Zm 26 6,Zx 27 5 25 26,Za 28 3 27,Zv 29 2 28,Zo 30 (.call 167 [(Zt 29)]),Zb 31 .or 23 30,Zm 5 31] []) .skip))) (.reg [Zm 12 6,Zd 13 .add 12 1,Zm 6 13] [])))
def Kw:aw:=(Zs [Zm 32 5,Zm 4 32] .ret)
def A200:aw:=(Zs [Zo 2 (.box 3 (Zt 0)),Zn 4 0] (Zs [Zn 5 0] (.seqa (.reg [Zn 6 0] []) (.blk 0 (.loop Ac)) [5] [] Kw)))
theorem m200:ba Tryz.prog 200 2 A200 V85=true:=by kernel_rfl
def zf:aw:=(.seq (Zs [Zm 7 6,Za 8 1 3,Zl 9 8,Zk 10 9,Zb 11 .lss 7 10] (.cond (Zt 11) .skip (.exit 0))) (.seq (.blk 1 (.drw [Zm 14 5,Zv 15 3 2,Za 16 1 3,Zl 17 16,Zm 18 6,Zx 19 1 17 18,Zl 20 19,Zo 21 (.call 200 [(Zt 15),(Zt 20)]),Zb 22 .or 14 21,Zm 5 22] [])) (.reg [Zm 12 6,Zd 13 .add 12 1,Zm 6 13] [])))
def Jd:aw:=(Zs [Zm 23 5,Zm 4 23] .ret)
def A166:aw:=(Zs [Zo 2 (.box 3 (Zt 0)),Zo 3 (.box 2 (Zt 1)),Zn 4 0] (Zs [Zn 5 0] (.seqa (.reg [Zn 6 0] []) (.blk 0 (.loop zf)) [5] [] Jd)))
theorem m166:ba Tryz.prog 166 2 A166 V85=true:=by kernel_rfl
def A194:aw:=(.seq (.reg [Zo 2 (.mv (.c (.lst .u 1 [])))] [.s 2]) (.seq (.reg [Zo 3 (.bsl 1 false []),Zm 4 0,Zo 5 (.app 1 8 false (Zt 3) (Zt 4)),Zm 2 5] [.s 2]) .ret))
theorem m194:ba Tryz.prog 194 1 A194 V91=true:=by kernel_rfl
def A193:aw:=(Zs [Zo 1 (.box 2 (Zt 0)),Zo 2 (.alloc (.agg [.i 0,.lst .u 1 []]))] (.seq (.drw [Za 3 0 1,Zl 4 3,Za 5 1 1,Zl 6 5,Zo 7 (.call 194 [(Zt 6)]),Zo 8 (.build [.i 0,.lst .u 1 []] [(0,1,(Zt 4)),(1,1,(Zt 7))]),Zw (.store 2 (Zt 2) (Zt 8))] []) .ret))
theorem m193:ba Tryz.prog 193 1 A193 V37=true:=by kernel_rfl
def A141:aw:=(Zs [Zo 1 (.box 5 (Zt 0)),Zo 2 (.alloc (.agg [.i 0,.i 0,.lst .u 1 [],.i 0,.i 0]))] (.seq (.drw [Za 3 0 1,Zl 4 3,Za 5 1 1,Zv 6 2 5,Zo 7 (.call 193 [(Zt 6)]),Za 8 3 1,Zv 9 2 8,Zo 10 (.build [.i 0,.i 0,.lst .u 1 [],.i 0,.i 0] [(0,1,(Zt 4)),(1,2,(Zt 7)),(3,2,(Zt 9))]),Zw (.store 5 (Zt 2) (Zt 10))] []) .ret))
theorem m141:ba Tryz.prog 141 1 A141 me=true:=by kernel_rfl
def A234:aw:=(Zs [Zo 3 (.box 2 (Zt 0)),Zo 6 (.mv (Zy false))] (Zs [Zv 7 2 3,Zo 8 (.call 138 [(Zt 7)]),Zm 9 8,Zg 10 (.mv (Zt 1)) 9 true,Zg 11 (.fad 0 (Zt 3)) 9 true,Zg 12 (.load 1 false (Zt 11)) 9 true,Zg 13 (.len (Zt 12)) 9 true,Zg 14 (.bin .sub (Zt 13) (.c (.i 1))) 9 true,Zg 15 (.call 178 [(Zt 10),(.c (.i 0)),(Zt 14)]) 9 true,Zo 16 (.pick (Zt 9) (Zt 15) (Zy false)),Zm 17 16,Zg 18 (.mv (Zt 2)) 17 true,Zg 19 (.fad 0 (Zt 3)) 17 true,Zg 20 (.load 1 false (Zt 19)) 17 true,Zg 21 (.len (Zt 20)) 17 true,Zg 22 (.bin .sub (Zt 21) (.c (.i 1))) 17 true,Zg 23 (.call 178 [(Zt 18),(.c (.i 0)),(Zt 22)]) 17 true,Zo 24 (.pick (Zt 17) (Zt 23) (Zy false)),Zm 25 24,Zg 26 (.mv (Zt 1)) 25 true,Zg 27 (.mv (Zt 2)) 25 true,Zg 28 (.bin .neq (Zt 26) (Zt 27)) 25 true,Zo 29 (.pick (Zt 25) (Zt 28) (Zy false)),Zm 6 29] .ret))
theorem m234:ba Tryz.prog 234 3 A234 eI=true:=by kernel_rfl
def yv:aw:=(.seq (Zs [Zm 7 6,Za 8 1 3,Zl 9 8,Zk 10 9,Zb 11 .lss 7 10] (.cond (Zt 11) .skip (.exit 0))) (.seq (.blk 1 (.drw [Zm 14 5,Za 15 1 2,Zl 16 15,Za 17 1 3,Zl 18 17,Zm 19 6,Zx 20 1 18 19,Zl 21 20,Zx 22 4 16 21,Za 23 2 22,Zl 24 23,Zb 25 .add 14 24,Zm 5 25] [])) (.reg [Zm 12 6,Zd 13 .add 12 1,Zm 6 13] [])))
def HF:aw:=(Zs [Zm 26 5,Zm 4 26] .ret)
def A271:aw:=(Zs [Zo 2 (.box 2 (Zt 0)),Zo 3 (.box 2 (Zt 1)),Zn 4 0] (Zs [Zn 5 0] (.seqa (.reg [Zn 6 0] []) (.blk 0 (.loop yv)) [5] [] HF)))
theorem m271:ba Tryz.prog 271 2 A271 V85=true:=by kernel_rfl
def A272:aw:=(Zs [Zn 2 0] (.seq (.blk 0 (Zs [Zm 4 0,Zd 5 .lss 4 0,Zm 3 5] (.cond (Zt 3) (Zs [Zn 2 (-1)] .ret) (Zs [Zm 7 0,Zd 8 .gtr 7 0,Zm 6 8] (.cond (Zt 6) (Zs [Zn 2 1] .ret) .skip))))) (Zs [Zn 2 0] .ret)))
theorem m272:ba Tryz.prog 272 1 A272 V91=true:=by kernel_rfl
def xU:aw:=(.seq (Zs [Zm 32 9,Za 33 1 4,Zl 34 33,Zk 35 34,Zb 36 .lss 32 35] (.cond (Zt 36) .skip (.exit 0))) (.seq (.blk 1 (.seq (.drw [Za 39 1 4,Zl 40 39,Zm 41 9,Zx 42 1 40 41,Zl 43 42,Za 44 1 5,Zl 45 44,Zm 46 9,Zx 47 1 45 46,Zl 48 47,Zb 49 .neq 43 48] []) (.cond (Zt 49) (.seq (.drw [Za 50 1 4,Zl 51 50,Zm 52 9,Zx 53 1 51 52,Zl 54 53,Za 55 1 5,Zl 56 55,Zm 57 9,Zx 58 1 56 57,Zl 59 58,Zb 60 .sub 54 59,Zo 61 (.call 272 [(Zt 60)]),Zm 6 61] []) .ret) .skip))) (.reg [Zm 37 9,Zd 38 .add 37 1,Zm 9 38] [])))
def Jo:aw:=(Zs [Za 62 0 4,Zl 63 62,Za 64 0 5,Zl 65 64,Zb 66 .sub 63 65,Zo 67 (.call 272 [(Zt 66)]),Zm 6 67] .ret)
def A267:aw:=(Zs [Zo 3 (.box 2 (Zt 0)),Zo 4 (.box 2 (Zt 1)),Zo 5 (.box 2 (Zt 2)),Zn 6 0] (.seq (.seq (.drw [Zv 10 2 3,Zv 11 2 4,Zo 12 (.call 271 [(Zt 10),(Zt 11)]),Zv 13 2 3,Zv 14 2 5,Zo 15 (.call 271 [(Zt 13),(Zt 14)]),Zb 16 .sub 12 15,Zm 7 16] []) (Zs [Zm 17 7,Zd 18 .neq 17 0] (.cond (Zt 18) (Zs [Zm 19 7,Zo 20 (.call 272 [(Zt 19)]),Zm 6 20] .ret) .skip))) (.seq (Zs [Za 21 1 4,Zl 22 21,Zk 23 22,Za 24 1 5,Zl 25 24,Zk 26 25,Zb 27 .sub 23 26,Zm 8 27] (Zs [Zm 28 8,Zd 29 .neq 28 0] (.cond (Zt 29) (Zs [Zm 30 8,Zo 31 (.call 272 [(Zt 30)]),Zm 6 31] .ret) .skip))) (.seqa (.reg [Zn 9 0] []) (.blk 0 (.loop xU)) [4,5] [4,5] Jo))))
theorem m267:ba Tryz.prog 267 3 A267 eI=true:=by kernel_rfl
def rl:aw:=(.seq (.seq (.drw [Zm 10 4,Zd 11 .gtr 10 0,Zm 12 11,Zg 13 (.mv (Zt 0)) 12 true,Zg 14 (.nilc (Zt 13)) 12 true,Zg 15 (.fad 0 (Zt 14)) 12 true,Zg 16 (.load 2 true (Zt 15)) 12 true,Zg 17 (.load 2 true (Zt 3)) 12 true,Zg 18 (.mv (Zt 0)) 12 true,Zg 19 (.nilc (Zt 18)) 12 true,Zg 20 (.fad 3 (Zt 19)) 12 true,Zg 21 (.load 1 false (Zt 20)) 12 true,Zg 22 (.mv (Zt 4)) 12 true,Zg 23 (.bin .sub (Zt 22) (.c (.i 1))) 12 true,Zg 24 (.idx 2 (Zt 21) (Zt 23)) 12 true,Zg 25 (.load 2 true (Zt 24)) 12 true,Zg 26 (.call 267 [(Zt 16),(Zt 17),(Zt 25)]) 12 true,Zg 27 (.bin .lss (Zt 26) (.c (.i 0))) 12 true,Zo 28 (.pick (Zt 12) (Zt 27) (Zy false))] []) (.cond (Zt 28) .skip (.exit 0))) (.blk 1 (.reg [Zm 29 4,Zd 30 .sub 29 1,Zm 4 30] [])))
def wG:aw:=(.drw [Zm 31 0,Zo 32 (.bsl 2 true []),Zm 33 0,Zo 34 (.nilc (Zt 33)),Za 35 3 34,Zl 36 35,Zm 37 4,Zo 38 (.slc 2 (Zt 36) none (some (Zt 37)) none),Zo 39 (.app 2 32 false (Zt 32) (Zt 38)),Zv 40 2 3,Zo 41 (.bsl 2 true [(Zt 40)]),Zo 42 (.app 2 32 true (Zt 39) (Zt 41)),Zm 43 0,Zo 44 (.nilc (Zt 43)),Za 45 3 44,Zl 46 45,Zm 47 4,Zo 48 (.slc 2 (Zt 46) (some (Zt 47)) none none),Zo 49 (.app 2 32 false (Zt 42) (Zt 48)),Zo 50 (.nilc (Zt 31)),Za 51 3 50,Zw (.store 1 (Zt 51) (Zt 49))] [])
def Hb:aw:=(Zs [Zo 3 (.box 2 (Zt 1))] (Zs [Zm 5 0,Zo 6 (.nilc (Zt 5)),Za 7 3 6,Zl 8 7,Zk 9 8,Zm 4 9] (.seqr (.blk 0 (.loop rl)) [0,3,4] [3,1000000000,1000000001] wG)))
def co:List RV:=[]
theorem Vw:ba Tryz.prog 257 2 Hb co=true:=by kernel_rfl
def pB:aw:=(.seq (.seq (.drw [Zm 10 4,Zd 11 .gtr 10 0,Zm 12 11,Zg 13 (.mv (Zt 0)) 12 true,Zg 14 (.nilc (Zt 13)) 12 true,Zg 15 (.fad 0 (Zt 14)) 12 true,Zg 16 (.load 2 true (Zt 15)) 12 true,Zg 17 (.load 2 true (Zt 3)) 12 true,Zg 18 (.mv (Zt 0)) 12 true,Zg 19 (.nilc (Zt 18)) 12 true,Zg 20 (.fad 3 (Zt 19)) 12 true,Zg 21 (.load 1 false (Zt 20)) 12 true,Zg 22 (.mv (Zt 4)) 12 true,Zg 23 (.bin .sub (Zt 22) (.c (.i 1))) 12 true,Zg 24 (.idx 2 (Zt 21) (Zt 23)) 12 true,Zg 25 (.load 2 true (Zt 24)) 12 true,Zg 26 (.call 267 [(Zt 16),(Zt 17),(Zt 25)]) 12 true,Zg 27 (.bin .lss (Zt 26) (.c (.i 0))) 12 true,Zo 28 (.pick (Zt 12) (Zt 27) (Zy false))] []) (.cond (Zt 28) .skip (.exit 0))) (.blk 1 (.reg [Zm 29 4,Zd 30 .sub 29 1,Zm 4 30] [])))
def wT:aw:=(.drw [Zm 31 0,Zo 32 (.bsl 2 true []),Zm 33 0,Zo 34 (.nilc (Zt 33)),Za 35 3 34,Zl 36 35,Zm 37 4,Zo 38 (.slc 2 (Zt 36) none (some (Zt 37)) none),Zo 39 (.app 2 32 false (Zt 32) (Zt 38)),Zv 40 2 3,Zo 41 (.bsl 2 true [(Zt 40)]),Zo 42 (.app 2 32 true (Zt 39) (Zt 41)),Zm 43 0,Zo 44 (.nilc (Zt 43)),Za 45 3 44,Zl 46 45,Zm 47 4,Zo 48 (.slc 2 (Zt 46) (some (Zt 47)) none none),Zo 49 (.app 2 32 false (Zt 42) (Zt 48)),Zo 50 (.nilc (Zt 31)),Za 51 3 50,Zw (.store 1 (Zt 51) (Zt 49))] [])
def FT:aw:=(Zs [Zo 3 (.box 2 (Zt 1))] (Zs [Zm 5 0,Zo 6 (.nilc (Zt 5)),Za 7 3 6,Zl 8 7,Zk 9 8,Zm 4 9] (.seqr (.blk 0 (.loop pB)) [0,3,4] [3,1000000000,1000000001] wT)))
theorem Um:ba Tryz.prog 257 2 FT co=true:=by kernel_rfl
def vA:aw:=(.cond (Zt 39) .skip (.exit 0))
def vy:aw:=(.cond (Zt 56) (.drw [Zm 57 0,Zo 58 (.fdv [65,71,470000003,1000000000] 0 (Zt 4)),Zo 59 (.ldv [65,71,470000003,1000000000] 1 false (Zt 58)),Zo 60 (.fdv [65,71,470000003,1000000000] 1 (Zt 4)),Zo 61 (.ldv [65,71,470000003,1000000000] 1 false (Zt 60)),Zo 62 (.call 194 [(Zt 61)]),Zm 63 7,Zo 64 (.bsl 1 true [(Zt 63)]),Zo 65 (.app 1 8 true (Zt 62) (Zt 64)),Zo 66 (.build [.i 0,.lst .u 1 []] [(0,1,(Zt 59)),(1,1,(Zt 65))]),Zm 67 2,Zo 68 (.call 194 [(Zt 67)]),Zm 69 8,Zo 70 (.bsl 1 true [(Zt 69)]),Zo 71 (.app 1 8 true (Zt 68) (Zt 70)),Zo 72 (.callM 249 [(Zt 57),(Zt 66),(Zt 71)] [1000000000,470000003,65,71])] [.f true 470000003 1000000000 3]) .skip)
def qT:aw:=(.seq (.seqr (.reg [Zm 24 7,Zm 25 0,Zo 26 (.nilc (Zt 25)),Za 27 0 26,Za 28 1 27,Zl 29 28,Zk 30 29,Zb 31 .lss 24 30,Zm 32 31,Zg 33 (.mv (Zt 0)) 32 true,Zg 34 (.nilc (Zt 33)) 32 true,Zg 35 (.fad 3 (Zt 34)) 32 true,Zg 36 (.load 1 false (Zt 35)) 32 true,Zg 37 (.len (Zt 36)) 32 true,Zg 38 (.bin .leq (Zt 37) (.c (.i 200))) 32 true,Zo 39 (.pick (Zt 32) (Zt 38) (Zy false))] []) [0,2,4,6,7,39] [4,470000003,1000000000,1000000003] vA) (.seq (.blk 1 (Zs [Zm 42 0,Zo 43 (.nilc (Zt 42)),Za 44 0 43,Zv 45 2 44,Zm 46 7,Zm 47 6,Zo 48 (.call 246 [(Zt 45),(Zt 46),(Zt 47)]),Zm 8 48] (.seqr (.reg [Zm 49 8,Zd 50 .geq 49 0,Zm 51 50,Zg 52 (.mv (Zt 2)) 51 true,Zg 53 (.mv (Zt 8)) 51 true,Zg 54 (.call 144 [(Zt 52),(Zt 53)]) 51 true,Zg 55 (.un .not (Zt 54)) 51 true,Zo 56 (.pick (Zt 51) (Zt 55) (Zy false))] []) [0,2,4,6,7,8,56] [4,470000003,1000000000,1000000003] vy))) (.reg [Zm 40 7,Zd 41 .add 40 1,Zm 7 41] [])))
def Ig:aw:=(.seq (.reg [Zo 4 (.box 2 (Zt 1))] [.w 4,.f true 470000003 1000000000 3,.f true 500000257 4 1]) (Zs [Zm 9 2,Zm 10 2,Zk 11 10,Zd 12 .sub 11 1,Zx 13 1 9 12,Zl 14 13,Zm 6 14] (.seq (Zs [Zm 15 6,Zm 16 0,Zo 17 (.nilc (Zt 16)),Za 18 2 17,Zl 19 18,Zb 20 .eql 15 19] (.cond (Zt 20) (.seq (.reg [Zm 21 0,Zv 22 2 4,Zo 23 (.callM 257 [(Zt 21),(Zt 22)] [1000000000,470000003])] [.f true 470000003 1000000000 3]) .ret) .skip)) (Zs [Zn 7 0] (.blk 0 (.loop qT))))))
theorem Ug:ba Tryz.prog 249 3 Ig co=true:=by kernel_rfl
def we:aw:=(.cond (Zt 39) .skip (.exit 0))
def xk:aw:=(.cond (Zt 56) (.drw [Zm 57 0,Zo 58 (.fdv [65,71,470000003,1000000000] 0 (Zt 4)),Zo 59 (.ldv [65,71,470000003,1000000000] 1 false (Zt 58)),Zo 60 (.fdv [65,71,470000003,1000000000] 1 (Zt 4)),Zo 61 (.ldv [65,71,470000003,1000000000] 1 false (Zt 60)),Zo 62 (.call 194 [(Zt 61)]),Zm 63 7,Zo 64 (.bsl 1 true [(Zt 63)]),Zo 65 (.app 1 8 true (Zt 62) (Zt 64)),Zo 66 (.build [.i 0,.lst .u 1 []] [(0,1,(Zt 59)),(1,1,(Zt 65))]),Zm 67 2,Zo 68 (.call 194 [(Zt 67)]),Zm 69 8,Zo 70 (.bsl 1 true [(Zt 69)]),Zo 71 (.app 1 8 true (Zt 68) (Zt 70)),Zo 72 (.callM 249 [(Zt 57),(Zt 66),(Zt 71)] [1000000000,470000003,65,71])] [.f true 470000003 1000000000 3]) .skip)
def pD:aw:=(.seq (.seqr (.reg [Zm 24 7,Zm 25 0,Zo 26 (.nilc (Zt 25)),Za 27 0 26,Za 28 1 27,Zl 29 28,Zk 30 29,Zb 31 .lss 24 30,Zm 32 31,Zg 33 (.mv (Zt 0)) 32 true,Zg 34 (.nilc (Zt 33)) 32 true,Zg 35 (.fad 3 (Zt 34)) 32 true,Zg 36 (.load 1 false (Zt 35)) 32 true,Zg 37 (.len (Zt 36)) 32 true,Zg 38 (.bin .leq (Zt 37) (.c (.i 200))) 32 true,Zo 39 (.pick (Zt 32) (Zt 38) (Zy false))] []) [0,2,4,6,7,39] [4,470000003,1000000000,1000000001] we) (.seq (.blk 1 (Zs [Zm 42 0,Zo 43 (.nilc (Zt 42)),Za 44 0 43,Zv 45 2 44,Zm 46 7,Zm 47 6,Zo 48 (.call 246 [(Zt 45),(Zt 46),(Zt 47)]),Zm 8 48] (.seqr (.reg [Zm 49 8,Zd 50 .geq 49 0,Zm 51 50,Zg 52 (.mv (Zt 2)) 51 true,Zg 53 (.mv (Zt 8)) 51 true,Zg 54 (.call 144 [(Zt 52),(Zt 53)]) 51 true,Zg 55 (.un .not (Zt 54)) 51 true,Zo 56 (.pick (Zt 51) (Zt 55) (Zy false))] []) [0,2,4,6,7,8,56] [4,470000003,1000000000,1000000001] xk))) (.reg [Zm 40 7,Zd 41 .add 40 1,Zm 7 41] [])))
def Lb:aw:=(.seq (.reg [Zo 4 (.box 2 (Zt 1))] [.w 4,.f true 470000003 1000000000 3]) (Zs [Zm 9 2,Zm 10 2,Zk 11 10,Zd 12 .sub 11 1,Zx 13 1 9 12,Zl 14 13,Zm 6 14] (.seq (Zs [Zm 15 6,Zm 16 0,Zo 17 (.nilc (Zt 16)),Za 18 2 17,Zl 19 18,Zb 20 .eql 15 19] (.cond (Zt 20) (.seq (.reg [Zm 21 0,Zv 22 2 4,Zo 23 (.callM 257 [(Zt 21),(Zt 22)] [1000000000,470000003])] [.f true 470000003 1000000000 3]) .ret) .skip)) (Zs [Zn 7 0] (.blk 0 (.loop pD))))))
theorem Wv:ba Tryz.prog 249 3 Lb co=true:=by kernel_rfl
def GJ:aw:=(.seq (.reg [Zo 3 (.box 2 (Zt 0)),Zo 6 (.mv (.c (.lst .u 2 []))),Zo 7 (.mv (Zy false))] [.s 6]) (Zs [Zv 9 2 3,Zm 10 2,Zo 11 (.build [.lst .u 1 [],.lst .u 4 [],.i 0,.lst .u 2 []] [(0,2,(Zt 9)),(2,1,(Zt 10))]),Zo 12 (.box 4 (Zt 11)),Zm 8 12] (Zs [Zm 13 8,Zm 14 1,Zo 15 (.build [.i 0,.lst .u 1 []] [(0,1,(Zt 14))]),Zm 16 1,Zo 17 (.bsl 1 false [(Zt 16)]),Zo 18 (.callM 249 [(Zt 13),(Zt 15),(Zt 17)] [12,17])] (.seq (Zs [Zm 19 8,Zo 20 (.nilc (Zt 19)),Za 21 3 20,Zl 22 21,Zk 23 22,Zd 24 .gtr 23 200] (.cond (Zt 24) (.seq (.reg [Zo 25 (.bsl 2 false []),Zm 6 25,Zo 7 (.mv (Zy false))] [.s 6]) .ret) .skip)) (.seq (.reg [Zo 26 (.bsl 2 false []),Zm 27 8,Zo 28 (.nilc (Zt 27)),Za 29 3 28,Zl 30 29,Zo 31 (.app 2 32 false (Zt 26) (Zt 30)),Zm 6 31,Zo 7 (.mv (Zy true))] [.s 6]) .ret)))))
def fP:List RV:=[.t 6,.t 7]
theorem UQ:ba Tryz.prog 235 3 GJ fP=true:=by kernel_rfl
def Ji:aw:=(.seq (.reg [Zo 3 (.box 2 (Zt 0)),Zo 6 (.mv (.c (.lst .u 2 []))),Zo 7 (.mv (Zy false))] [.s 6]) (.seq (Zs [Zv 8 2 3,Zm 9 1,Zm 10 2,Zo 11 (.call 234 [(Zt 8),(Zt 9),(Zt 10)]),Zo 12 (.un .not (Zt 11))] (.cond (Zt 12) (.seq (.reg [Zo 13 (.bsl 2 false []),Zm 6 13,Zo 7 (.mv (Zy false))] [.s 6]) .ret) .skip)) (.seq (.reg [Zv 14 2 3,Zm 15 1,Zm 16 2,Zo 17 (.callM 235 [(Zt 14),(Zt 15),(Zt 16)] []),Ze 18 17 0,Ze 19 17 1,Zm 6 18,Zm 7 19] [.s 6]) .ret)))
theorem UA:ba Tryz.prog 212 3 Ji fP=true:=by kernel_rfl
def zd:aw:=(.seq (Zs [Zm 8 6,Zm 9 1,Zb 10 .add 8 9,Zd 11 .leq 10 24] (.cond (Zt 11) .skip (.exit 0))) (.seq (.blk 1 (Zs [Zm 14 0,Zm 15 6,Zm 16 1,Zo 17 (.build [.i 0,.i 0] [(0,1,(Zt 15)),(1,1,(Zt 16))]),Zo 18 (.call 167 [(Zt 17)]),Zb 19 .and 14 18,Zd 20 .eql 19 0] (.cond (Zt 20) (.reg [Zm 21 5,Zm 22 6,Zo 23 (.bsl 1 false [(Zt 22)]),Zo 24 (.app 1 8 true (Zt 21) (Zt 23)),Zm 5 24] [.s 5]) .skip))) (.reg [Zm 12 6,Zd 13 .add 12 1,Zm 6 13] [])))
def Lz:aw:=(.seq (.reg [Zm 25 5,Zm 4 25] [.s 4]) .ret)
def A213:aw:=(.seq (.reg [Zo 4 (.mv (.c (.lst .u 1 [])))] [.s 4]) (.seq (.reg [Zo 7 (.bsl 1 false []),Zm 5 7] [.s 5]) (.seqa (.reg [Zn 6 0] []) (.blk 0 (.loop zd)) [5] [5] Lz)))
theorem m213:ba Tryz.prog 213 2 A213 V85=true:=by kernel_rfl
def Lo:aw:=(.cond (Zt 31) (Zs [Zv 32 5 3,Zo 33 (.call 141 [(Zt 32)]),Zw (.store 5 (Zt 4) (Zt 33)),Zo 5 (.mv (Zy true))] .ret) .skip)
def Oa:aw:=(.cond (Zt 52) .skip (.exit 0))
def zV:aw:=(.seq (.seqr (.reg [Zm 46 9,Zm 47 7,Zk 48 47,Zb 49 .lss 46 48,Zm 50 49,Zg 51 (.mv (Zt 8)) 50 true,Zo 52 (.pick (Zt 50) (Zt 51) (Zy false))] []) [2,3,4,7,8,9,52] [2,3,4,7] Oa) (.seq (.blk 1 (.seq (.seq (.drw [Zm 55 7,Zm 56 9,Zx 57 2 55 56,Zv 58 2 57,Za 59 4 2,Zl 60 59,Zo 61 (.call 125 [(Zt 58),(Zt 60)])] []) (.cond (Zt 61) (.exit 1) .skip)) (.seq (.drw [Za 62 0 2,Zv 63 3 62,Zm 64 7,Zm 65 9,Zx 66 2 64 65,Zv 67 2 66,Zo 68 (.call 166 [(Zt 63),(Zt 67)]),Za 69 3 3,Za 70 1 69,Zl 71 70,Zo 72 (.call 213 [(Zt 68),(Zt 71)]),Zm 10 72] [.s 10]) (Zs [Zm 73 10,Zk 74 73,Zd 75 .gtr 74 0] (.cond (Zt 75) (.seq (.drw [Za 76 0 3,Zl 77 76,Zm 78 7,Zm 79 9,Zx 80 2 78 79,Zv 81 2 80,Zo 82 (.call 193 [(Zt 81)]),Zm 83 10,Zo 84 (.idx 1 (Zt 83) (.c (.i 0))),Zl 85 84,Za 86 3 3,Za 87 1 86,Zl 88 87,Zo 89 (.build [.i 0,.i 0] [(0,1,(Zt 85)),(1,1,(Zt 88))]),Zo 90 (.build [.i 0,.i 0,.lst .u 1 [],.i 0,.i 0] [(0,1,(Zt 77)),(1,2,(Zt 82)),(3,2,(Zt 89))]),Zw (.store 5 (Zt 4) (Zt 90)),Zo 5 (.mv (Zy true))] []) .ret) .skip))))) (.reg [Zm 53 9,Zd 54 .add 53 1,Zm 9 54] [])))
def Kf:aw:=(Zs [Zo 91 (.build [.i 0,.i 0,.lst .u 1 [],.i 0,.i 0] []),Zw (.store 5 (Zt 4) (Zt 91)),Zo 5 (.mv (Zy false))] .ret)
def A173:aw:=(Zs [Zo 2 (.box 5 (Zt 0)),Zo 3 (.box 5 (Zt 1)),Zo 4 (.alloc (.agg [.i 0,.i 0,.lst .u 1 [],.i 0,.i 0])),Zo 5 (.mv (Zy false))] (Zs [Za 11 0 2,Za 12 0 11,Zv 13 2 12,Zo 6 (.alloc (.agg [.lst .u 1 [],.lst .u 4 []])),Zw (.store 2 (Zt 6) (Zt 13))] (.seq (.seqr (.drw [Za 14 1 3,Zv 15 2 14,Za 16 4 2,Zl 17 16,Zo 18 (.call 125 [(Zt 15),(Zt 17)]),Zo 19 (.un .not (Zt 18)),Zm 20 19,Zg 21 (.fad 0 (Zt 2)) 20 true,Zg 22 (.load 3 true (Zt 21)) 20 true,Zg 23 (.fad 1 (Zt 3)) 20 true,Zg 24 (.load 2 true (Zt 23)) 20 true,Zg 25 (.call 166 [(Zt 22),(Zt 24)]) 20 true,Zg 26 (.fad 3 (Zt 3)) 20 true,Zg 27 (.load 2 true (Zt 26)) 20 true,Zg 28 (.call 167 [(Zt 27)]) 20 true,Zg 29 (.bin .and (Zt 25) (Zt 28)) 20 true,Zg 30 (.bin .eql (Zt 29) (.c (.i 0))) 20 true,Zo 31 (.pick (Zt 20) (Zt 30) (Zy false))] []) [2,3,4,6,31] [2,3,4,6] Lo) (.seq (.drw [Zv 35 2 6,Za 36 1 3,Za 37 0 36,Zl 38 37,Zv 39 2 6,Za 40 1 3,Zv 41 2 40,Zo 42 (.call 126 [(Zt 39),(Zt 41)]),Zo 43 (.callM 212 [(Zt 35),(Zt 38),(Zt 42)] []),Zm 34 43,Ze 44 34 0,Ze 45 34 1,Zm 7 44,Zm 8 45] [.s 7]) (.seqa (.reg [Zn 9 0] []) (.blk 0 (.loop zV)) [4] [4] Kf)))))
def kP:List RV:=[.c 4 5 true,.t 5]
theorem m173:ba Tryz.prog 173 2 A173 kP=true:=by kernel_rfl
def A89:aw:=(Zs [Zo 1 (.box 2 (Zt 0)),Zo 2 (.alloc (.agg [.lst .u 1 [],.lst .u 4 []]))] (.seq (.drw [Zo 3 (.bsl 1 true []),Za 4 0 1,Zl 5 4,Zo 6 (.app 1 16 false (Zt 3) (Zt 5)),Zo 7 (.bsl 4 true []),Za 8 1 1,Zl 9 8,Zo 10 (.app 4 32 false (Zt 7) (Zt 9)),Zo 11 (.build [.lst .u 1 [],.lst .u 4 []] [(0,1,(Zt 6)),(1,1,(Zt 10))]),Zw (.store 2 (Zt 2) (Zt 11))] []) .ret))
theorem m89:ba Tryz.prog 89 1 A89 V37=true:=by kernel_rfl
def Na:aw:=(.seq (Zs [Zm 9 4,Za 10 2 1,Zl 11 10,Zk 12 11,Zb 13 .lss 9 12] (.cond (Zt 13) .skip (.exit 0))) (.seq (.blk 1 (.drw [Zo 16 (.fdv [] 2 (Zt 3)),Zo 17 (.ldv [] 1 false (Zt 16)),Za 18 2 1,Zl 19 18,Zm 20 4,Zx 21 5 19 20,Zv 22 5 21,Zo 23 (.call 141 [(Zt 22)]),Zo 24 (.bsm 5 [(Zt 23)]),Zo 25 (.app 5 56 true (Zt 17) (Zt 24)),Za 26 2 3,Zw (.store 1 (Zt 26) (Zt 25))] [.f false 500000194 3 2])) (.reg [Zm 14 4,Zd 15 .add 14 1,Zm 4 15] [])))
def Th:aw:=(.seq (.reg [Zv 27 3 3,Zw (.store 3 (Zt 2) (Zt 27))] [.f false 500000128 2 0,.f false 500000129 2 1,.f false 500000130 2 2]) .ret)
def A75:aw:=(Zs [Zo 1 (.box 3 (Zt 0)),Zo 2 (.alloc (.agg [.lst .u 1 [],.lst .u 4 [],.lst .u 5 []]))] (.seq (.reg [Za 5 0 1,Zv 6 2 5,Zo 7 (.call 89 [(Zt 6)]),Zo 8 (.build [.lst .u 1 [],.lst .u 4 [],.lst .u 5 []] [(0,2,(Zt 7))]),Zo 3 (.alloc (.agg [.lst .u 1 [],.lst .u 4 [],.lst .u 5 []])),Zw (.store 3 (Zt 3) (Zt 8))] [.f false 500000192 3 0,.f false 500000193 3 1,.f false 500000194 3 2]) (.seqa (.reg [Zn 4 0] []) (.blk 0 (.loop Na)) [2,3] [2,3,500000192,500000193,500000194] Th)))
theorem m75:ba Tryz.prog 75 1 A75 V26=true:=by kernel_rfl
def JK:aw:=(.seq (Zs [Zm 6 4,Zm 7 0,Zk 8 7,Zb 9 .lss 6 8] (.cond (Zt 9) .skip (.exit 0))) (.seq (.blk 1 (.reg [Zm 12 3,Zm 13 0,Zm 14 4,Zx 15 5 13 14,Zv 16 5 15,Zo 17 (.call 141 [(Zt 16)]),Zo 18 (.bsl 5 false [(Zt 17)]),Zo 19 (.app 5 56 true (Zt 12) (Zt 18)),Zm 3 19] [.s 3])) (.reg [Zm 10 4,Zd 11 .add 10 1,Zm 4 11] [])))
def Tn:aw:=(.seq (.reg [Zm 20 3,Zm 2 20] [.s 2]) .ret)
def A76:aw:=(.seq (.reg [Zo 2 (.mv (.c (.lst .u 5 [])))] [.s 2]) (.seq (.reg [Zo 5 (.bsl 5 false []),Zm 3 5] [.s 3]) (.seqa (.reg [Zn 4 0] []) (.blk 0 (.loop JK)) [3] [3] Tn)))
theorem m76:ba Tryz.prog 76 1 A76 V91=true:=by kernel_rfl
def A143:aw:=(Zs [Zo 1 (.box 5 (Zt 0)),Zo 2 (.alloc (.agg [.lst .u 1 [],.lst .u 4 [],.lst .u 5 [],.lst .u 5 [],.lst .u 1 []]))] (.seq (.drw [Za 3 0 1,Zv 4 3 3,Zo 5 (.call 75 [(Zt 4)]),Za 6 3 1,Zl 7 6,Zo 8 (.call 76 [(Zt 7)]),Za 9 4 1,Zl 10 9,Zo 11 (.call 194 [(Zt 10)]),Zo 12 (.build [.lst .u 1 [],.lst .u 4 [],.lst .u 5 [],.lst .u 5 [],.lst .u 1 []] [(0,3,(Zt 5)),(3,1,(Zt 8)),(4,1,(Zt 11))]),Zw (.store 5 (Zt 2) (Zt 12))] []) .ret))
theorem m143:ba Tryz.prog 143 1 A143 me=true:=by kernel_rfl
def uL:aw:=(.seq (.seq (.drw [Zm 9 6,Za 10 2 5,Zl 11 10,Zk 12 11,Zb 13 .lss 9 12,Zm 14 13,Zg 15 (.fad 2 (Zt 5)) 14 true,Zg 16 (.load 1 false (Zt 15)) 14 true,Zg 17 (.mv (Zt 6)) 14 true,Zg 18 (.idx 5 (Zt 16) (Zt 17)) 14 true,Zg 19 (.fad 0 (Zt 18)) 14 true,Zg 20 (.load 1 false (Zt 19)) 14 true,Zg 21 (.fad 0 (Zt 3)) 14 true,Zg 22 (.load 1 false (Zt 21)) 14 true,Zg 23 (.bin .lss (Zt 20) (Zt 22)) 14 true,Zo 24 (.pick (Zt 14) (Zt 23) (Zy false))] []) (.cond (Zt 24) .skip (.exit 0))) (.blk 1 (.reg [Zm 25 6,Zd 26 .add 25 1,Zm 6 26] [])))
def AH:aw:=(.seq (.drw [Zo 27 (.bsl 5 true []),Za 28 2 5,Zl 29 28,Zm 30 6,Zo 31 (.slc 5 (Zt 29) none (some (Zt 30)) none),Zo 32 (.app 5 56 false (Zt 27) (Zt 31)),Zv 33 5 3,Zo 34 (.call 141 [(Zt 33)]),Zo 35 (.bsm 5 [(Zt 34)]),Zo 36 (.app 5 56 true (Zt 32) (Zt 35)),Za 37 2 5,Zl 38 37,Zm 39 6,Zo 40 (.slc 5 (Zt 38) (some (Zt 39)) none none),Zo 41 (.app 5 56 false (Zt 36) (Zt 40)),Za 42 2 5,Zw (.store 1 (Zt 42) (Zt 41))] [.w 41]) (Zs [Zv 43 3 5,Zw (.store 3 (Zt 4) (Zt 43))] .ret))
def Tz:aw:=(Zs [Zo 2 (.box 3 (Zt 0)),Zo 3 (.box 5 (Zt 1)),Zo 4 (.alloc (.agg [.lst .u 1 [],.lst .u 4 [],.lst .u 5 []]))] (Zs [Zv 7 3 2,Zo 8 (.call 75 [(Zt 7)]),Zo 5 (.alloc (.agg [.lst .u 1 [],.lst .u 4 [],.lst .u 5 []])),Zw (.store 3 (Zt 5) (Zt 8))] (Zs [Zn 6 0] (.seqr (.blk 0 (.loop uL)) [3,4,5,6] [3,4,5,8,1008,2008,1000000000,1000000001,1000000002,1000000003] AH))))
def sU:List RV:=[.c 4 3 true]
theorem Xo:ba Tryz.prog 90 2 Tz sU=true:=by kernel_rfl
def Ls:aw:=(.seq (.reg [Zo 2 (.box 5 (Zt 0)),Zo 4 (.alloc (.agg [.lst .u 1 [],.lst .u 4 [],.lst .u 5 [],.lst .u 5 [],.lst .u 1 []])),Zo 5 (.mv (Zy false))] [.f false 500000128 2 0,.f false 500000129 2 1,.f false 500000130 2 2,.f false 500000131 2 3,.f false 500000132 2 4]) (.seq (.drw [Zv 10 5 2,Za 11 3 2,Zl 12 11,Zm 13 1,Zx 14 5 12 13,Zv 15 5 14,Zo 16 (.call 173 [(Zt 10),(Zt 15)]),Zm 9 16,Ze 17 9 0,Ze 18 9 1,Zo 6 (.alloc (.agg [.i 0,.i 0,.lst .u 1 [],.i 0,.i 0])),Zw (.store 5 (Zt 6) (Zt 17)),Zm 7 18] [.f false 500000386 6 2]) (.seq (.reg [Zv 19 5 2,Zo 20 (.call 143 [(Zt 19)]),Zo 8 (.alloc (.agg [.lst .u 1 [],.lst .u 4 [],.lst .u 5 [],.lst .u 5 [],.lst .u 1 []])),Zw (.store 5 (Zt 8) (Zt 20))] [.f false 500000512 8 0,.f false 500000513 8 1,.f false 500000514 8 2,.f false 500000515 8 3,.f false 500000516 8 4]) (.seq (Zs [Zm 21 7] (.cond (Zt 21) (.reg [Za 22 0 8,Zv 23 3 22,Zv 24 5 6,Zo 25 (.callM 90 [(Zt 23),(Zt 24)] [500000512,500000513,500000514,500000386]),Za 26 0 8,Zw (.store 3 (Zt 26) (Zt 25))] [.f false 500000512 8 0,.f false 500000513 8 1,.f false 500000514 8 2]) .skip)) (.seq (.reg [Zv 27 5 8,Zm 28 7,Zw (.store 5 (Zt 4) (Zt 27)),Zm 5 28] [.f false 500000256 4 0,.f false 500000257 4 1,.f false 500000258 4 2,.f false 500000259 4 3,.f false 500000260 4 4,.w 500000258]) .ret)))))
theorem Ud:ba Tryz.prog 117 2 Ls kP=true:=by kernel_rfl
def BC:aw:=(.cond (Zt 25) (.seq (.reg [Zo 26 (.build [.lst .u 1 [],.lst .u 4 [],.lst .u 5 [],.lst .u 5 [],.lst .u 1 []] []),Zw (.store 5 (Zt 4) (Zt 26)),Zo 5 (.mv (Zy false)),Zo 6 (.mv (Zy false))] [.f false 500000256 4 0,.f false 500000257 4 1,.f false 500000258 4 2,.f false 500000259 4 3,.f false 500000260 4 4]) .ret) .skip)
def Tu:aw:=(.seq (.reg [Zo 2 (.box 5 (Zt 0)),Zo 4 (.alloc (.agg [.lst .u 1 [],.lst .u 4 [],.lst .u 5 [],.lst .u 5 [],.lst .u 1 []])),Zo 5 (.mv (Zy false)),Zo 6 (.mv (Zy false))] [.f false 500000128 2 0,.f false 500000129 2 1,.f false 500000130 2 2,.f false 500000131 2 3,.f false 500000132 2 4]) (.seq (.seqr (.reg [Zv 9 5 2,Zo 10 (.call 61 [(Zt 9)]),Zo 11 (.un .not (Zt 10)),Zm 12 11,Zg 13 (.fad 3 (Zt 2)) 12 false,Zg 14 (.load 1 false (Zt 13)) 12 false,Zg 15 (.mv (Zt 1)) 12 false,Zg 16 (.call 115 [(Zt 14),(Zt 15)]) 12 false,Zg 17 (.bin .lss (Zt 16) (.c (.i 0))) 12 false,Zo 18 (.pick (Zt 12) (Zy true) (Zt 17)),Zm 19 18,Zg 20 (.fad 0 (Zt 2)) 19 false,Zg 21 (.load 3 true (Zt 20)) 19 false,Zg 22 (.mv (Zt 1)) 19 false,Zg 23 (.call 116 [(Zt 21),(Zt 22)]) 19 false,Zg 24 (.bin .geq (Zt 23) (.c (.i 0))) 19 false,Zo 25 (.pick (Zt 19) (Zy true) (Zt 24))] []) [1,2,4,25] [2,4,1000000000,1000000001,1000000002,1000000003,1000000004] BC) (.seq (.drw [Zv 28 5 2,Za 29 3 2,Zl 30 29,Zm 31 1,Zo 32 (.call 115 [(Zt 30),(Zt 31)]),Zo 33 (.callM 117 [(Zt 28),(Zt 32)] [1000000000,1000000001,1000000002,1000000003,1000000004]),Zm 27 33,Ze 34 27 0,Ze 35 27 1,Zo 7 (.alloc (.agg [.lst .u 1 [],.lst .u 4 [],.lst .u 5 [],.lst .u 5 [],.lst .u 1 []])),Zw (.store 5 (Zt 7) (Zt 34)),Zm 8 35] [.f false 500000448 7 0,.f false 500000449 7 1,.f false 500000450 7 2,.f false 500000451 7 3,.f false 500000452 7 4]) (.seq (.reg [Zv 36 5 7,Zm 37 8,Zw (.store 5 (Zt 4) (Zt 36)),Zm 5 37,Zo 6 (.mv (Zy true))] [.f false 500000256 4 0,.f false 500000257 4 1,.f false 500000258 4 2,.f false 500000259 4 3,.f false 500000260 4 4]) .ret))))
def nX:List RV:=[.c 4 5 true,.t 5,.t 6]
theorem WN:ba Tryz.prog 49 2 Tu nX=true:=by kernel_rfl
def A132:aw:=(Zs [Zo 6 (.mv (Zy false))] (Zs [Zm 7 1,Zm 8 0,Zb 9 .leq 7 8,Zm 10 9,Zg 11 (.mv (Zt 0)) 10 true,Zg 12 (.mv (Zt 2)) 10 true,Zg 13 (.bin .leq (Zt 11) (Zt 12)) 10 true,Zo 14 (.pick (Zt 10) (Zt 13) (Zy false)),Zm 6 14] .ret))
theorem m132:ba Tryz.prog 132 3 A132 eI=true:=by kernel_rfl
def Ju:aw:=(Zs [Zm 31 4,Zo 32 (.un .not (Zt 31)),Zm 33 32,Zg 34 (.mv (Zt 5)) 33 true,Zg 35 (.un .not (Zt 34)) 33 true,Zg 36 (.mv (Zt 35)) 33 true,Zg 37 (.mv (Zt 3)) 36 false,Zg 38 (.bin .eql (Zt 37) (.c (.i 0))) 36 false,Zg 39 (.pick (Zt 36) (Zy true) (Zt 38)) 33 true,Zo 40 (.pick (Zt 33) (Zt 39) (Zy false))] (.cond (Zt 40) (Zs [Zo 2 (.mv (Zy false))] .ret) .skip))
def xp:aw:=(Zs [Zb 9 .lss 8 7] (.seq (.cond (Zt 9) .skip (.exit 0)) (.seq (.blk 1 (Zs [Zm 10 8,Zm 3 10] (.seqr (.drw [Zm 11 0,Zm 12 3,Zo 13 (.stri (Zt 11) (Zt 12)),Zo 14 (.bin .geq (Zt 13) (.c (.sc (.int .u8 97)))),Zm 15 14,Zg 16 (.mv (Zt 0)) 15 true,Zg 17 (.mv (Zt 3)) 15 true,Zg 18 (.stri (Zt 16) (Zt 17)) 15 true,Zg 19 (.bin .leq (Zt 18) (.c (.sc (.int .u8 122)))) 15 true,Zo 20 (.pick (Zt 15) (Zt 19) (Zy false)),Zm 21 0,Zm 22 3,Zo 23 (.stri (Zt 21) (Zt 22)),Zo 24 (.bin .geq (Zt 23) (.c (.sc (.int .u8 48)))),Zm 25 24,Zg 26 (.mv (Zt 0)) 25 true,Zg 27 (.mv (Zt 3)) 25 true,Zg 28 (.stri (Zt 26) (Zt 27)) 25 true,Zg 29 (.bin .leq (Zt 28) (.c (.sc (.int .u8 57)))) 25 true,Zo 30 (.pick (Zt 25) (Zt 29) (Zy false)),Zm 4 20,Zm 5 30] []) [0,3,4,5,7,8] [] Ju))) (.reg [Zd 41 .add 8 1,Zm 8 41] []))))
def Io:aw:=(Zs [Zm 42 0,Zo 43 (.lenz (Zt 42)),Zo 44 (.call 132 [(Zt 43),(.c (.i 1)),(.c (.i 8))]),Zm 2 44] .ret)
def A180:aw:=(Zs [Zo 2 (.mv (Zy false))] (.seqa (.reg [Zm 6 0,Zo 7 (.lenz (Zt 6)),Zn 8 0] []) (.blk 0 (.loop xp)) [0] [] Io))
theorem m180:ba Tryz.prog 180 1 A180 V91=true:=by kernel_rfl
def xn:aw:=(Zs [Zb 9 .lss 8 7] (.seq (.cond (Zt 9) .skip (.exit 0)) (.seq (.blk 1 (Zs [Zm 10 8,Zm 5 10] (Zs [Zm 11 1,Zm 12 0,Zm 13 5,Zx 14 1 12 13,Zl 15 14,Zb 16 .eql 11 15] (.cond (Zt 16) (Zs [Zm 17 5,Zm 4 17] .ret) .skip)))) (.reg [Zd 18 .add 8 1,Zm 8 18] []))))
def LV:aw:=(Zs [Zn 4 (-1)] .ret)
def A221:aw:=(Zs [Zn 4 0] (.seqa (.reg [Zm 6 0,Zk 7 6,Zn 8 0] []) (.blk 0 (.loop xn)) [] [] LV))
theorem m221:ba Tryz.prog 221 2 A221 V85=true:=by kernel_rfl
def A181:aw:=(Zs [Zo 4 (.mv (Zy false))] (Zs [Zm 5 0,Zm 6 1,Zo 7 (.call 221 [(Zt 5),(Zt 6)]),Zd 8 .geq 7 0,Zm 4 8] .ret))
theorem m181:ba Tryz.prog 181 2 A181 V85=true:=by kernel_rfl
def A233:aw:=(Zs [Zo 2 (.mv (Zy false))] (Zs [Zm 3 0,Zm 4 0,Zb 5 .neq 3 4,Zm 2 5] .ret))
theorem m233:ba Tryz.prog 233 1 A233 V91=true:=by kernel_rfl
def A223:aw:=(Zs [Zn 4 0] (Zs [Zm 7 0,Zo 8 (.call 233 [(Zt 7)]),Zm 5 8] (Zs [Zm 9 1,Zo 10 (.call 233 [(Zt 9)]),Zm 6 10] (.seq (Zs [Zm 11 5] (.cond (Zt 11) (.seq (Zs [Zm 12 6] (.cond (Zt 12) (Zs [Zn 4 0] .ret) .skip)) (Zs [Zn 4 (-1)] .ret)) .skip)) (.seq (Zs [Zm 13 6] (.cond (Zt 13) (Zs [Zn 4 1] .ret) .skip)) (.seq (Zs [Zm 14 0,Zm 15 1,Zb 16 .lss 14 15] (.cond (Zt 16) (Zs [Zn 4 (-1)] .ret) .skip)) (.seq (Zs [Zm 17 0,Zm 18 1,Zb 19 .gtr 17 18] (.cond (Zt 19) (Zs [Zn 4 1] .ret) .skip)) (Zs [Zn 4 0] .ret))))))))
theorem m223:ba Tryz.prog 223 2 A223 V85=true:=by kernel_rfl
def ze:aw:=(Zs [Zb 9 .lss 8 7] (.seq (.cond (Zt 9) .skip (.exit 0)) (.seq (.blk 1 (Zs [Zx 10 1 6 8,Zl 11 10,Zm 5 11] (Zs [Zm 12 5,Zm 13 3,Zb 14 .neq 12 13] (.cond (Zt 14) (Zs [Zm 15 5,Zm 2 15] .ret) .skip)))) (.reg [Zd 16 .add 8 1,Zm 8 16] []))))
def LG:aw:=(Zs [Zm 17 3,Zm 2 17] .ret)
def A222:aw:=(Zs [Zn 2 0] (Zs [Zn 3 0] (.seqa (.reg [Zm 6 0,Zk 7 6,Zn 8 0] []) (.blk 0 (.loop ze)) [3] [] LG)))
theorem m222:ba Tryz.prog 222 1 A222 V91=true:=by kernel_rfl
def A182:aw:=(Zs [Zo 2 (.box 4 (Zt 0)),Zo 3 (.box 4 (Zt 1)),Zn 4 0] (.seq (.drw [Za 5 0 2,Zl 6 5,Za 7 0 3,Zl 8 7,Zo 9 (.call 223 [(Zt 6),(Zt 8)]),Za 10 1 2,Zl 11 10,Za 12 1 3,Zl 13 12,Zo 14 (.call 223 [(Zt 11),(Zt 13)]),Za 15 2 2,Zl 16 15,Za 17 2 3,Zl 18 17,Zo 19 (.call 223 [(Zt 16),(Zt 18)]),Za 20 3 2,Zl 21 20,Za 22 3 3,Zl 23 22,Zo 24 (.call 223 [(Zt 21),(Zt 23)]),Zo 25 (.bsl 1 true [(Zt 9),(Zt 14),(Zt 19),(Zt 24)]),Zo 26 (.call 222 [(Zt 25)]),Zm 4 26] []) .ret))
theorem m182:ba Tryz.prog 182 2 A182 V85=true:=by kernel_rfl
def zB:aw:=(Zs [Zb 11 .lss 10 9] (.seq (.cond (Zt 11) .skip (.exit 0)) (.seq (.blk 1 (Zs [Zm 12 10,Zx 13 1 8 10,Zl 14 13,Zm 3 12,Zm 4 14] (Zs [Zm 15 4,Zo 16 (.call 180 [(Zt 15)]),Zo 17 (.un .not (Zt 16)),Zm 18 17,Zg 19 (.fad 0 (Zt 1)) 18 false,Zg 20 (.load 1 false (Zt 19)) 18 false,Zg 21 (.mv (Zt 3)) 18 false,Zg 22 (.slc 1 (Zt 20) none (some (Zt 21)) none) 18 false,Zg 23 (.mv (Zt 4)) 18 false,Zg 24 (.call 181 [(Zt 22),(Zt 23)]) 18 false,Zo 25 (.pick (Zt 18) (Zy true) (Zt 24))] (.cond (Zt 25) (Zs [Zo 2 (.mv (Zy false))] .ret) .skip)))) (.reg [Zd 26 .add 10 1,Zm 10 26] []))))
def yC:aw:=(Zs [Zb 31 .lss 30 29] (.seq (.cond (Zt 31) .skip (.exit 2)) (.seq (.blk 3 (Zs [Zm 32 30,Zx 33 4 28 30,Zv 34 4 33,Zo 6 (.alloc (.agg [.i 0,.i 0,.i 0,.i 0])),Zm 5 32,Zw (.store 4 (Zt 6) (Zt 34))] (.seq (.drw [Za 35 0 6,Zl 36 35,Zd 37 .lss 36 0,Zm 38 37,Zg 39 (.fad 0 (Zt 6)) 38 false,Zg 40 (.load 1 false (Zt 39)) 38 false,Zg 41 (.fad 1 (Zt 6)) 38 false,Zg 42 (.load 1 false (Zt 41)) 38 false,Zg 43 (.bin .geq (Zt 40) (Zt 42)) 38 false,Zo 44 (.pick (Zt 38) (Zy true) (Zt 43)),Zm 45 44,Zg 46 (.fad 1 (Zt 6)) 45 false,Zg 47 (.load 1 false (Zt 46)) 45 false,Zg 48 (.fad 0 (Zt 1)) 45 false,Zg 49 (.load 1 false (Zt 48)) 45 false,Zg 50 (.len (Zt 49)) 45 false,Zg 51 (.bin .geq (Zt 47) (Zt 50)) 45 false,Zo 52 (.pick (Zt 45) (Zy true) (Zt 51)),Zm 53 52,Zg 54 (.fad 2 (Zt 6)) 53 false,Zg 55 (.load 1 false (Zt 54)) 53 false,Zg 56 (.call 132 [(Zt 55),(.c (.i 1)),(.c (.i 5000))]) 53 false,Zg 57 (.un .not (Zt 56)) 53 false,Zo 58 (.pick (Zt 53) (Zy true) (Zt 57)),Zm 59 58,Zg 60 (.fad 3 (Zt 6)) 59 false,Zg 61 (.load 1 false (Zt 60)) 59 false,Zg 62 (.call 132 [(Zt 61),(.c (.i 0)),(.c (.i 9))]) 59 false,Zg 63 (.un .not (Zt 62)) 59 false,Zo 64 (.pick (Zt 59) (Zy true) (Zt 63)),Zm 65 64,Zg 66 (.mv (Zt 5)) 65 false,Zg 67 (.bin .gtr (Zt 66) (.c (.i 0))) 65 false,Zg 68 (.mv (Zt 67)) 65 false,Zg 69 (.fad 1 (Zt 1)) 68 true,Zg 70 (.load 1 false (Zt 69)) 68 true,Zg 71 (.mv (Zt 5)) 68 true,Zg 72 (.bin .sub (Zt 71) (.c (.i 1))) 68 true,Zg 73 (.idx 4 (Zt 70) (Zt 72)) 68 true,Zg 74 (.load 4 true (Zt 73)) 68 true,Zg 75 (.load 4 true (Zt 6)) 68 true,Zg 76 (.call 182 [(Zt 74),(Zt 75)]) 68 true,Zg 77 (.bin .gtr (Zt 76) (.c (.i 0))) 68 true,Zg 78 (.pick (Zt 68) (Zt 77) (Zy false)) 65 false,Zo 79 (.pick (Zt 65) (Zy true) (Zt 78))] []) (.cond (Zt 79) (Zs [Zo 2 (.mv (Zy false))] .ret) .skip)))) (.reg [Zd 80 .add 30 1,Zm 30 80] []))))
def Nq:aw:=(Zs [Za 81 0 1,Zl 82 81,Zk 83 82,Zo 84 (.call 132 [(Zt 83),(.c (.i 2)),(.c (.i 8))]),Zm 85 84,Zg 86 (.fad 1 (Zt 1)) 85 true,Zg 87 (.load 1 false (Zt 86)) 85 true,Zg 88 (.len (Zt 87)) 85 true,Zg 89 (.bin .leq (Zt 88) (.c (.i 14))) 85 true,Zo 90 (.pick (Zt 85) (Zt 89) (Zy false)),Zm 2 90] .ret)
def MA:aw:=(.seqa (.reg [Za 27 1 1,Zl 28 27,Zk 29 28,Zn 30 0] []) (.blk 2 (.loop yC)) [1] [1] Nq)
def A128:aw:=(Zs [Zo 1 (.box 2 (Zt 0)),Zo 2 (.mv (Zy false))] (.seqa (.reg [Za 7 0 1,Zl 8 7,Zk 9 8,Zn 10 0] []) (.blk 0 (.loop zB)) [1] [1] MA))
theorem m128:ba Tryz.prog 128 1 A128 V91=true:=by kernel_rfl
def A185:aw:=(Zs [Zo 2 (.box 4 (Zt 0)),Zn 4 0] (.seq (Zs [Zm 5 1] (.blk 0 (Zs [Za 7 0 2,Zl 8 7,Zb 9 .eql 5 8,Zm 6 9] (.cond (Zt 6) (Zs [Za 10 1 2,Zl 11 10,Zm 4 11] .ret) (Zs [Za 13 1 2,Zl 14 13,Zb 15 .eql 5 14,Zm 12 15] (.cond (Zt 12) (Zs [Za 16 0 2,Zl 17 16,Zm 4 17] .ret) .skip)))))) (Zs [Zn 4 (-1)] .ret)))
theorem m185:ba Tryz.prog 185 2 A185 V85=true:=by kernel_rfl
def xK:aw:=(Zs [Zb 9 .lss 8 7] (.seq (.cond (Zt 9) .skip (.exit 0)) (.seq (.blk 1 (Zs [Zm 10 8,Zm 5 10] (Zs [Zm 11 1,Zm 12 0,Zm 13 5,Zx 14 1 12 13,Zl 15 14,Zb 16 .eql 11 15] (.cond (Zt 16) (Zs [Zm 17 5,Zm 4 17] .ret) .skip)))) (.reg [Zd 18 .add 8 1,Zm 8 18] []))))
def Kv:aw:=(Zs [Zn 4 (-1)] .ret)
def A146:aw:=(Zs [Zn 4 0] (.seqa (.reg [Zm 6 0,Zk 7 6,Zn 8 0] []) (.blk 0 (.loop xK)) [] [] Kv))
theorem m146:ba Tryz.prog 146 2 A146 V85=true:=by kernel_rfl
def A84:aw:=(Zs [Zo 4 (.mv (Zy false))] (Zs [Zm 5 0,Zm 6 1,Zo 7 (.call 146 [(Zt 5),(Zt 6)]),Zd 8 .geq 7 0,Zm 4 8] .ret))
theorem m84:ba Tryz.prog 84 2 A84 V85=true:=by kernel_rfl
def Lt:aw:=(.cond (Zt 23) (.seq (.reg [Zo 4 (.mv (.c (.lst .u 1 []))),Zo 5 (.mv (Zy false))] [.s 4]) .ret) .skip)
def NP:aw:=(.cond (Zt 56) (.seq (.reg [Zo 4 (.mv (.c (.lst .u 1 []))),Zo 5 (.mv (Zy false))] [.s 4]) .ret) .skip)
def zW:aw:=(Zs [Zb 33 .lss 32 31] (.seq (.cond (Zt 33) .skip (.exit 0)) (.seq (.blk 1 (Zs [Zx 34 1 30 32,Zl 35 34,Zm 9 35] (.seq (Zs [Zm 36 9,Za 37 1 2,Zl 38 37,Zk 39 38,Zd 40 .sub 39 1,Zo 41 (.call 132 [(Zt 36),(.c (.i 0)),(Zt 40)]),Zo 42 (.un .not (Zt 41))] (.cond (Zt 42) (.seq (.reg [Zo 4 (.mv (.c (.lst .u 1 []))),Zo 5 (.mv (Zy false))] [.s 4]) .ret) .skip)) (Zs [Za 43 1 2,Zl 44 43,Zm 45 9,Zx 46 4 44 45,Zv 47 4 46,Zm 48 7,Zo 49 (.call 185 [(Zt 47),(Zt 48)]),Zm 7 49] (.seq (.seqr (.reg [Zm 50 7,Zd 51 .lss 50 0,Zm 52 51,Zg 53 (.mv (Zt 6)) 52 false,Zg 54 (.mv (Zt 7)) 52 false,Zg 55 (.call 84 [(Zt 53),(Zt 54)]) 52 false,Zo 56 (.pick (Zt 52) (Zy true) (Zt 55))] []) [2,6,7,30,31,32,56] [2,6] NP) (.reg [Zm 57 6,Zm 58 7,Zo 59 (.bsl 1 false [(Zt 58)]),Zo 60 (.app 1 8 true (Zt 57) (Zt 59)),Zm 6 60] [.s 6])))))) (.reg [Zd 61 .add 32 1,Zm 32 61] []))))
def LQ:aw:=(.seq (.reg [Zm 62 6,Zm 4 62,Zo 5 (.mv (Zy true))] [.s 4]) .ret)
def A135:aw:=(.seq (.reg [Zo 2 (.box 2 (Zt 0)),Zo 3 (.box 2 (Zt 1)),Zo 4 (.mv (.c (.lst .u 1 []))),Zo 5 (.mv (Zy false))] [.s 4]) (.seq (.seqr (.reg [Za 10 0 3,Zl 11 10,Za 12 0 2,Zl 13 12,Zk 14 13,Zd 15 .sub 14 1,Zo 16 (.call 132 [(Zt 11),(.c (.i 0)),(Zt 15)]),Zo 17 (.un .not (Zt 16)),Zm 18 17,Zg 19 (.fad 1 (Zt 3)) 18 false,Zg 20 (.load 1 false (Zt 19)) 18 false,Zg 21 (.len (Zt 20)) 18 false,Zg 22 (.bin .eql (Zt 21) (.c (.i 0))) 18 false,Zo 23 (.pick (Zt 18) (Zy true) (Zt 22))] []) [2,3,23] [2,3] Lt) (.seq (.drw [Za 24 0 3,Zl 25 24,Zo 26 (.bsl 1 true [(Zt 25)]),Za 27 0 3,Zl 28 27,Zm 6 26,Zm 7 28] [.s 6]) (.seqa (.reg [Za 29 1 3,Zl 30 29,Zk 31 30,Zn 32 0] []) (.blk 0 (.loop zW)) [6] [6] LQ))))
theorem m135:ba Tryz.prog 135 2 A135 nb=true:=by kernel_rfl
def A183:aw:=(Zs [Zo 1 (.box 2 (Zt 0)),Zo 2 (.mv (Zy false))] (Zs [Za 3 0 1,Zl 4 3,Zd 5 .geq 4 0,Zm 6 5,Zg 7 (.fad 1 (Zt 1)) 6 true,Zg 8 (.load 1 false (Zt 7)) 6 true,Zg 9 (.call 132 [(Zt 8),(.c (.i 1)),(.c (.i 24))]) 6 true,Zo 10 (.pick (Zt 6) (Zt 9) (Zy false)),Zm 11 10,Zg 12 (.fad 0 (Zt 1)) 11 true,Zg 13 (.load 1 false (Zt 12)) 11 true,Zg 14 (.fad 1 (Zt 1)) 11 true,Zg 15 (.load 1 false (Zt 14)) 11 true,Zg 16 (.bin .sub (.c (.i 24)) (Zt 15)) 11 true,Zg 17 (.bin .leq (Zt 13) (Zt 16)) 11 true,Zo 18 (.pick (Zt 11) (Zt 17) (Zy false)),Zm 2 18] .ret))
theorem m183:ba Tryz.prog 183 1 A183 V91=true:=by kernel_rfl
def A129:aw:=(Zs [Zo 2 (.box 2 (Zt 0)),Zo 3 (.box 5 (Zt 1)),Zo 4 (.mv (Zy false))] (.seq (.reg [Zv 8 2 2,Za 9 1 3,Zv 10 2 9,Zo 11 (.call 135 [(Zt 8),(Zt 10)]),Zm 7 11,Ze 12 7 0,Ze 13 7 1,Zm 5 12,Zm 6 13] [.s 5]) (Zs [Zm 14 6,Zm 15 14,Zg 16 (.fad 0 (Zt 3)) 15 true,Zg 17 (.load 1 false (Zt 16)) 15 true,Zg 18 (.call 132 [(Zt 17),(.c (.i 1)),(.c (.i 999))]) 15 true,Zo 19 (.pick (Zt 15) (Zt 18) (Zy false)),Zm 20 19,Zg 21 (.fad 3 (Zt 3)) 20 true,Zg 22 (.load 2 true (Zt 21)) 20 true,Zg 23 (.call 183 [(Zt 22)]) 20 true,Zo 24 (.pick (Zt 20) (Zt 23) (Zy false)),Zm 4 24] .ret)))
theorem m129:ba Tryz.prog 129 2 A129 V85=true:=by kernel_rfl
def A184:aw:=(Zs [Zo 1 (.box 2 (Zt 0)),Zn 2 0] (.seq (.drw [Za 3 1 1,Zl 4 3,Zo 5 (.bin .shl (.c (.i 1)) (Zt 4)),Zd 6 .sub 5 1,Za 7 0 1,Zl 8 7,Zb 9 .shl 6 8,Zm 2 9] []) .ret))
theorem m184:ba Tryz.prog 184 1 A184 V91=true:=by kernel_rfl
def IC:aw:=(Zs [Zm 19 2,Zm 20 0,Zo 21 (.conv .u8 (Zt 20)),Zo 22 (.stri (.c (.z ⟨#[0,1,2,2,3,3,3,3,4,4,4,4,4,4,4,4,5,5,5,5,5,5,5,5,5,5,5,5,5,5,5,5,6,6,6,6,6,6,6,6,6,6,6,6,6,6,6,6,6,6,6,6,6,6,6,6,6,6,6,6,6,6,6,6,7,7,7,7,7,7,7,7,7,7,7,7,7,7,7,7,7,7,7,7,7,7,7,7,7,7,7,7,7,7,7,7,7,7,7,7,7,7,7,7,7,7,7,7,7,7,7,7,7,7,7,7,7,7,7,7,7,7,7,7,7,7,7,7,8,8,8,8,8,8,8,8,8,8,8,8,8,8,8,8,8,8,8,8,8,8,8,8,8,8,8,8,8,8,8,8,8,8,8,8,8,8,8,8,8,8,8,8,8,8,8,8,8,8,8,8,8,8,8,8,8,8,8,8,8,8,8,8,8,8,8,8,8,8,8,8,8,8,8,8,8,8,8,8,8,8,8,8,8,8,8,8,8,8,8,8,8,8,8,8,8,8,8,8,8,8,8,8,8,8,8,8,8,8,8,8,8,8,8,8,8,8,8,8,8,8,8,8,8,8,8,8]⟩)) (Zt 21)),Zo 23 (.conv .i64 (Zt 22)),Zb 24 .add 19 23,Zm 2 24] .ret)
def Hn:aw:=(.seqr (Zs [Zm 13 0,Zo 14 (.bin .geq (Zt 13) (.c (.sc (.int .u64 256))))] (.cond (Zt 14) (Zs [Zm 15 0,Zo 16 (.bin .shr (Zt 15) (.c (.sc (.int .u64 8)))),Zm 0 16] (.reg [Zm 17 2,Zd 18 .add 17 8,Zm 2 18] [])) .skip)) [0,2] [] IC)
def Md:aw:=(.seqr (Zs [Zm 7 0,Zo 8 (.bin .geq (Zt 7) (.c (.sc (.int .u64 65536))))] (.cond (Zt 8) (Zs [Zm 9 0,Zo 10 (.bin .shr (Zt 9) (.c (.sc (.int .u64 16)))),Zm 0 10] (.reg [Zm 11 2,Zd 12 .add 11 16,Zm 2 12] [])) .skip)) [0,2] [] Hn)
def A211:aw:=(Zs [Zn 2 0] (.seqr (Zs [Zm 3 0,Zo 4 (.bin .geq (Zt 3) (.c (.sc (.int .u64 4294967296))))] (.cond (Zt 4) (Zs [Zm 5 0,Zo 6 (.bin .shr (Zt 5) (.c (.sc (.int .u64 32)))),Zm 0 6] (.reg [Zn 2 32] [])) .skip)) [0,2] [] Md))
theorem m211:ba Tryz.prog 211 1 A211 V91=true:=by kernel_rfl
def A172:aw:=(Zs [Zn 2 0] (.seq (.cond (Zy false) (Zs [Zm 3 0,Zo 4 (.conv .u32 (Zt 3)),Zo 5 (.call 210 [(Zt 4)]),Zm 2 5] .ret) .skip) (Zs [Zm 6 0,Zo 7 (.call 211 [(Zt 6)]),Zm 2 7] .ret)))
theorem m172:ba Tryz.prog 172 1 A172 V91=true:=by kernel_rfl
def A207:aw:=(Zs [Zo 4 (.mv (Zy false))] (Zs [Zm 5 0,Zo 6 (.call 233 [(Zt 5)]),Zm 7 6,Zg 8 (.mv (Zt 1)) 7 true,Zg 9 (.call 233 [(Zt 8)]) 7 true,Zg 10 (.un .not (Zt 9)) 7 true,Zo 11 (.pick (Zt 7) (Zt 10) (Zy false)),Zm 12 11,Zg 13 (.mv (Zt 0)) 12 false,Zg 14 (.mv (Zt 1)) 12 false,Zg 15 (.bin .lss (Zt 13) (Zt 14)) 12 false,Zo 16 (.pick (Zt 12) (Zy true) (Zt 15)),Zm 4 16] .ret))
theorem m207:ba Tryz.prog 207 2 A207 V85=true:=by kernel_rfl
def vg:aw:=(.cond (Zt 30) .skip (.exit 2))
def qt:aw:=(.seq (.seqr (.drw [Zm 16 7,Zm 17 1,Zb 18 .gtr 16 17,Zm 19 18,Zg 20 (.mv (Zt 0)) 19 true,Zg 21 (.mv (Zt 7)) 19 true,Zg 22 (.idx 1 (Zt 20) (Zt 21)) 19 true,Zg 23 (.load 1 false (Zt 22)) 19 true,Zg 24 (.mv (Zt 0)) 19 true,Zg 25 (.mv (Zt 7)) 19 true,Zg 26 (.bin .sub (Zt 25) (.c (.i 1))) 19 true,Zg 27 (.idx 1 (Zt 24) (Zt 26)) 19 true,Zg 28 (.load 1 false (Zt 27)) 19 true,Zg 29 (.call 207 [(Zt 23),(Zt 28)]) 19 true,Zo 30 (.pick (Zt 19) (Zt 29) (Zy false))] []) [0,1,2,6,7,30] [1000000000] vg) (.seq (.blk 3 (.drw [Zm 33 0,Zm 34 7,Zm 35 0,Zm 36 7,Zd 37 .sub 36 1,Zm 38 0,Zm 39 7,Zd 40 .sub 39 1,Zx 41 1 38 40,Zl 42 41,Zm 43 0,Zm 44 7,Zx 45 1 43 44,Zl 46 45,Zx 47 1 33 34,Zw (.store 1 (Zt 47) (Zt 42)),Zx 48 1 35 37,Zw (.store 1 (Zt 48) (Zt 46))] [])) (.reg [Zm 31 7,Zd 32 .sub 31 1,Zm 7 32] [])))
def uW:aw:=(.reg [Zm 13 6,Zd 14 .add 13 1,Zm 6 14] [])
def pX:aw:=(.seq (Zs [Zm 10 6,Zm 11 2,Zb 12 .lss 10 11] (.cond (Zt 12) .skip (.exit 0))) (.seqr (.blk 1 (Zs [Zm 15 6,Zm 7 15] (.blk 2 (.loop qt)))) [0,1,2,6] [1000000000] uW))
def GO:aw:=(Zs [Zm 8 1,Zd 9 .add 8 1,Zm 6 9] (.blk 0 (.loop pX)))
theorem Uc:ba Tryz.prog 201 3 GO co=true:=by kernel_rfl
def qI:aw:=(.blk 1 (Zs [Zm 19 2,Zm 20 1,Zb 21 .sub 19 20,Zm 10 21] (.seq (Zs [Zm 22 10,Zd 23 .leq 22 12] (.cond (Zt 23) (Zs [Zm 24 0,Zm 25 1,Zm 26 2,Zo 27 (.callM 201 [(Zt 24),(Zt 25),(Zt 26)] [1000000000])] .ret) .skip)) (.seq (Zs [Zm 28 3,Zd 29 .eql 28 0] (.cond (Zt 29) (Zs [Zm 30 0,Zm 31 1,Zm 32 2,Zo 33 (.call 202 [(Zt 30),(Zt 31),(Zt 32)])] .ret) .skip)) (.seq (Zs [Zm 34 8,Zo 35 (.un .not (Zt 34))] (.cond (Zt 35) (Zs [Zm 36 0,Zm 37 1,Zm 38 2,Zo 39 (.call 203 [(Zt 36),(Zt 37),(Zt 38)])] (.reg [Zm 40 3,Zd 41 .sub 40 1,Zm 3 41] [])) .skip)) (Zs [Zm 43 0,Zm 44 1,Zm 45 2,Zo 46 (.call 204 [(Zt 43),(Zt 44),(Zt 45)]),Zm 42 46,Ze 47 42 0,Ze 48 42 1,Zm 11 47,Zm 12 48] (.seq (Zs [Zm 49 12,Zd 50 .eql 49 2] (.cond (Zt 50) (Zs [Zm 51 0,Zm 52 1,Zm 53 2,Zo 54 (.call 205 [(Zt 51),(Zt 52),(Zt 53)])] (Zs [Zm 55 2,Zd 56 .sub 55 1,Zm 57 11,Zm 58 1,Zb 59 .sub 57 58,Zb 60 .sub 56 59,Zm 11 60] (.reg [Zn 12 1] []))) .skip)) (.seq (Zs [Zm 61 8,Zm 62 61,Zg 63 (.mv (Zt 9)) 62 true,Zo 64 (.pick (Zt 62) (Zt 63) (Zy false)),Zm 65 64,Zg 66 (.mv (Zt 12)) 65 true,Zg 67 (.bin .eql (Zt 66) (.c (.i 1))) 65 true,Zo 68 (.pick (Zt 65) (Zt 67) (Zy false))] (.cond (Zt 68) (Zs [Zm 69 0,Zm 70 1,Zm 71 2,Zo 72 (.call 206 [(Zt 69),(Zt 70),(Zt 71)])] (.cond (Zt 72) .ret .skip)) .skip)) (.seq (.seq (.drw [Zm 73 1,Zd 74 .gtr 73 0,Zm 75 74,Zg 76 (.mv (Zt 0)) 75 true,Zg 77 (.mv (Zt 1)) 75 true,Zg 78 (.bin .sub (Zt 77) (.c (.i 1))) 75 true,Zg 79 (.idx 1 (Zt 76) (Zt 78)) 75 true,Zg 80 (.load 1 false (Zt 79)) 75 true,Zg 81 (.mv (Zt 0)) 75 true,Zg 82 (.mv (Zt 11)) 75 true,Zg 83 (.idx 1 (Zt 81) (Zt 82)) 75 true,Zg 84 (.load 1 false (Zt 83)) 75 true,Zg 85 (.call 207 [(Zt 80),(Zt 84)]) 75 true,Zg 86 (.un .not (Zt 85)) 75 true,Zo 87 (.pick (Zt 75) (Zt 86) (Zy false))] []) (.cond (Zt 87) (Zs [Zm 88 0,Zm 89 1,Zm 90 2,Zm 91 11,Zo 92 (.call 208 [(Zt 88),(Zt 89),(Zt 90),(Zt 91)]),Zm 13 92] (Zs [Zm 93 13,Zm 1 93] (.exit 1))) .skip)) (Zs [Zm 95 0,Zm 96 1,Zm 97 2,Zm 98 11,Zo 99 (.call 209 [(Zt 95),(Zt 96),(Zt 97),(Zt 98)]),Zm 94 99,Ze 100 94 0,Ze 101 94 1,Zm 14 100,Zm 15 101] (Zs [Zm 102 15,Zm 9 102] (Zs [Zm 103 14,Zm 104 1,Zb 105 .sub 103 104,Zm 106 2,Zm 107 14,Zb 108 .sub 106 107,Zm 16 105,Zm 17 108] (Zs [Zm 109 10,Zd 110 .quo 109 8,Zm 18 110] (Zs [Zm 111 16,Zm 112 17,Zb 113 .lss 111 112] (.cond (Zt 113) (Zs [Zm 114 16,Zm 115 18,Zb 116 .geq 114 115,Zm 8 116] (Zs [Zm 117 0,Zm 118 1,Zm 119 14,Zm 120 3,Zo 121 (.call 171 [(Zt 117),(Zt 118),(Zt 119),(Zt 120)])] (.reg [Zm 122 14,Zd 123 .add 122 1,Zm 1 123] []))) (Zs [Zm 124 17,Zm 125 18,Zb 126 .geq 124 125,Zm 8 126] (Zs [Zm 127 0,Zm 128 14,Zd 129 .add 128 1,Zm 130 2,Zm 131 3,Zo 132 (.call 171 [(Zt 127),(Zt 129),(Zt 130),(Zt 131)])] (.reg [Zm 133 14,Zm 2 133] []))))))))))))))))))
def My:aw:=(Zs [Zo 8 (.mv (Zy true))] (Zs [Zo 9 (.mv (Zy true))] (.blk 0 (.loop qI))))
theorem VE:ba Tryz.prog 171 4 My co=true:=by kernel_rfl
def Lx:aw:=(Zs [Zm 3 0,Zk 4 3,Zm 2 4] (.reg [Zm 5 0,Zm 6 2,Zm 7 2,Zo 8 (.conv .u64 (Zt 7)),Zo 9 (.call 172 [(Zt 8)]),Zo 10 (.callM 171 [(Zt 5),(.c (.i 0)),(Zt 6),(Zt 9)] [1000000000])] []))
theorem Uk:ba Tryz.prog 111 1 Lx co=true:=by kernel_rfl
def po:aw:=(.seq (Zs [Zm 29 5,Zm 30 4,Zk 31 30,Zb 32 .lss 29 31] (.cond (Zt 32) .skip (.exit 2))) (.seq (.blk 3 (.seq (.drw [Zm 35 4,Zm 36 5,Zx 37 1 35 36,Zl 38 37,Zm 39 4,Zm 40 5,Zd 41 .sub 40 1,Zx 42 1 39 41,Zl 43 42,Zb 44 .neq 38 43] []) (.cond (Zt 44) (Zs [Zm 45 0,Zm 46 3,Zm 47 4,Zm 48 5,Zx 49 1 47 48,Zl 50 49,Zx 51 1 45 46,Zw (.store 1 (Zt 51) (Zt 50))] (.reg [Zm 52 3,Zd 53 .add 52 1,Zm 3 53] [])) .skip))) (.reg [Zm 33 5,Zd 34 .add 33 1,Zm 5 34] [])))
def vD:aw:=(Zs [Zm 54 0,Zm 55 3,Zo 56 (.slc 1 (Zt 54) (some (Zt 55)) none none),Zw (.clr 1 (.i 0) (Zt 56))] (.seq (.reg [Zm 57 0,Zm 58 3,Zo 59 (.slc 1 (Zt 57) none (some (Zt 58)) none),Zm 2 59] [.s 2]) .ret))
def qE:aw:=(.seq (Zs [Zm 10 3,Zm 11 0,Zk 12 11,Zb 13 .lss 10 12] (.cond (Zt 13) .skip (.exit 0))) (.seq (.blk 1 (.seq (.drw [Zm 16 0,Zm 17 3,Zx 18 1 16 17,Zl 19 18,Zm 20 0,Zm 21 3,Zd 22 .sub 21 1,Zx 23 1 20 22,Zl 24 23,Zb 25 .eql 19 24] []) (.cond (Zt 25) (.seq (.reg [Zm 26 0,Zm 27 3,Zo 28 (.slc 1 (Zt 26) (some (Zt 27)) none none),Zm 4 28] [.s 4]) (.seqa (.reg [Zn 5 1] []) (.blk 2 (.loop po)) [0,3] [1000000000] vD)) .skip))) (.reg [Zm 14 3,Zd 15 .add 14 1,Zm 3 15] [])))
def vY:aw:=(.seq (.reg [Zm 60 0,Zm 2 60] [.s 2]) .ret)
def Iz:aw:=(.seq (.reg [Zo 2 (.mv (.c (.lst .u 1 [])))] [.s 2]) (.seq (Zs [Zm 6 0,Zk 7 6,Zd 8 .lss 7 2] (.cond (Zt 8) (.seq (.reg [Zm 9 0,Zm 2 9] [.s 2]) .ret) .skip)) (.seqa (.reg [Zn 3 1] []) (.blk 0 (.loop qE)) [0] [1000000000] vY)))
theorem Wa:ba Tryz.prog 112 1 Iz V91=true:=by kernel_rfl
def Mw:aw:=(Zs [Zb 12 .lss 11 10] (.seq (.cond (Zt 12) .skip (.exit 0)) (.seq (.blk 1 (Zs [Zx 13 1 9 11,Zl 14 13,Zm 7 14] (Zs [Zm 15 1,Zm 16 7,Zo 17 (.call 84 [(Zt 15),(Zt 16)])] (.cond (Zt 17) (.reg [Zm 18 5,Zm 19 7,Zo 20 (.bsl 1 false [(Zt 19)]),Zo 21 (.app 1 8 true (Zt 18) (Zt 20)),Zm 5 21] [.s 5]) .skip)))) (.reg [Zd 22 .add 11 1,Zm 11 22] []))))
def TL:aw:=(Zs [Zm 23 5,Zo 24 (.callM 111 [(Zt 23)] [5])] (.seq (.reg [Zm 25 5,Zo 26 (.callM 112 [(Zt 25)] [5]),Zm 4 26] [.s 4]) .ret))
def A68:aw:=(.seq (.reg [Zo 4 (.mv (.c (.lst .u 1 [])))] [.s 4]) (.seq (.reg [Zo 8 (.bsl 1 false []),Zm 5 8] [.s 5]) (.seqa (.reg [Zm 9 0,Zk 10 9,Zn 11 0] []) (.blk 0 (.loop Mw)) [5] [5] TL)))
theorem m68:ba Tryz.prog 68 2 A68 V85=true:=by kernel_rfl
def A131:aw:=(Zs [Zo 2 (.box 5 (Zt 0)),Zo 3 (.box 5 (Zt 1)),Zo 4 (.mv (Zy false))] (.seq (.drw [Za 5 3 2,Zv 6 2 5,Zo 7 (.call 184 [(Zt 6)]),Za 8 3 3,Zv 9 2 8,Zo 10 (.call 184 [(Zt 9)]),Zb 11 .and 7 10,Zd 12 .neq 11 0,Zm 13 12,Zg 14 (.fad 1 (Zt 2)) 13 true,Zg 15 (.fad 1 (Zt 14)) 13 true,Zg 16 (.load 1 false (Zt 15)) 13 true,Zg 17 (.fad 1 (Zt 3)) 13 true,Zg 18 (.fad 1 (Zt 17)) 13 true,Zg 19 (.load 1 false (Zt 18)) 13 true,Zg 20 (.call 68 [(Zt 16),(Zt 19)]) 13 true,Zg 21 (.len (Zt 20)) 13 true,Zg 22 (.bin .gtr (Zt 21) (.c (.i 0))) 13 true,Zo 23 (.pick (Zt 13) (Zt 22) (Zy false)),Zm 4 23] []) .ret))
theorem m131:ba Tryz.prog 131 2 A131 V85=true:=by kernel_rfl
def A130:aw:=(Zs [Zo 2 (.box 5 (Zt 0)),Zo 3 (.mv (Zy false))] (Zs [Zv 4 5 2,Zv 5 5 1,Zo 6 (.call 131 [(Zt 4),(Zt 5)]),Zm 3 6] .ret))
def lz:List RV:=[.t 3]
theorem m130:ba Tryz.prog 130 2 A130 lz=true:=by kernel_rfl
def yN:aw:=(Zs [Zb 9 .lss 8 7] (.seq (.cond (Zt 9) .skip (.exit 0)) (.seq (.blk 1 (Zs [Zm 10 8,Zm 5 10] (Zs [Zm 11 1,Zm 12 0,Zm 13 5,Zx 14 5 12 13,Zv 15 5 14,Zo 16 (.dyn (Zt 11) [(Zt 15)])] (.cond (Zt 16) (Zs [Zm 17 5,Zm 4 17] .ret) .skip)))) (.reg [Zd 18 .add 8 1,Zm 8 18] []))))
def Lh:aw:=(Zs [Zn 4 (-1)] .ret)
def A133:aw:=(Zs [Zn 4 0] (.seqa (.reg [Zm 6 0,Zk 7 6,Zn 8 0] []) (.blk 0 (.loop yN)) [] [] Lh))
theorem m133:ba Tryz.prog 133 2 A133 V85=true:=by kernel_rfl
def A65:aw:=(Zs [Zo 4 (.mv (Zy false))] (Zs [Zm 5 0,Zm 6 1,Zo 7 (.call 133 [(Zt 5),(Zt 6)]),Zd 8 .geq 7 0,Zm 4 8] .ret))
theorem m65:ba Tryz.prog 65 2 A65 V85=true:=by kernel_rfl
def SP:aw:=(.cond (Zt 14) (Zs [Zo 2 (.mv (Zy false))] .ret) .skip)
def JO:aw:=(Zs [Zb 19 .lss 18 17] (.seq (.cond (Zt 19) .skip (.exit 0)) (.seq (.blk 1 (Zs [Zm 20 18,Zx 21 5 16 18,Zv 22 5 21,Zo 4 (.alloc (.agg [.i 0,.i 0,.lst .u 1 [],.i 0,.i 0])),Zm 3 20,Zw (.store 5 (Zt 4) (Zt 22))] (.seq (.drw [Za 23 0 1,Zv 24 2 23,Zv 25 5 4,Zo 26 (.call 129 [(Zt 24),(Zt 25)]),Zo 27 (.un .not (Zt 26)),Zm 28 27,Zg 29 (.mv (Zt 3)) 28 false,Zg 30 (.bin .gtr (Zt 29) (.c (.i 0))) 28 false,Zg 31 (.mv (Zt 30)) 28 false,Zg 32 (.fad 2 (Zt 1)) 31 true,Zg 33 (.load 1 false (Zt 32)) 31 true,Zg 34 (.mv (Zt 3)) 31 true,Zg 35 (.bin .sub (Zt 34) (.c (.i 1))) 31 true,Zg 36 (.idx 5 (Zt 33) (Zt 35)) 31 true,Zg 37 (.fad 0 (Zt 36)) 31 true,Zg 38 (.load 1 false (Zt 37)) 31 true,Zg 39 (.fad 0 (Zt 4)) 31 true,Zg 40 (.load 1 false (Zt 39)) 31 true,Zg 41 (.bin .geq (Zt 38) (Zt 40)) 31 true,Zg 42 (.pick (Zt 31) (Zt 41) (Zy false)) 28 false,Zo 43 (.pick (Zt 28) (Zy true) (Zt 42)),Zm 44 43,Zg 45 (.fad 2 (Zt 1)) 44 false,Zg 46 (.load 1 false (Zt 45)) 44 false,Zg 47 (.mv (Zt 3)) 44 false,Zg 48 (.slc 5 (Zt 46) none (some (Zt 47)) none) 44 false,Zg 49 (.mkf 130 [(Zt 4)]) 44 false,Zg 50 (.call 65 [(Zt 48),(Zt 49)]) 44 false,Zo 51 (.pick (Zt 44) (Zy true) (Zt 50))] []) (.cond (Zt 51) (Zs [Zo 2 (.mv (Zy false))] .ret) .skip)))) (.reg [Zd 52 .add 18 1,Zm 18 52] []))))
def SV:aw:=(Zs [Zo 2 (.mv (Zy true))] .ret)
def A63:aw:=(Zs [Zo 1 (.box 3 (Zt 0)),Zo 2 (.mv (Zy false))] (.seq (.seqr (.reg [Za 5 0 1,Zv 6 2 5,Zo 7 (.call 128 [(Zt 6)]),Zo 8 (.un .not (Zt 7)),Zm 9 8,Zg 10 (.fad 2 (Zt 1)) 9 false,Zg 11 (.load 1 false (Zt 10)) 9 false,Zg 12 (.len (Zt 11)) 9 false,Zg 13 (.bin .gtr (Zt 12) (.c (.i 12))) 9 false,Zo 14 (.pick (Zt 9) (Zy true) (Zt 13))] []) [1,14] [1] SP) (.seqa (.reg [Za 15 2 1,Zl 16 15,Zk 17 16,Zn 18 0] []) (.blk 0 (.loop JO)) [] [] SV)))
theorem m63:ba Tryz.prog 63 1 A63 V91=true:=by kernel_rfl
def Nj:aw:=(Zs [Zb 10 .lss 9 8] (.seq (.cond (Zt 10) .skip (.exit 0)) (.seq (.blk 1 (Zs [Zm 11 9,Zx 12 1 7 9,Zl 13 12,Zm 5 11,Zm 6 13] (Zs [Zm 14 6,Zm 15 1,Zd 16 .sub 15 1,Zo 17 (.call 132 [(Zt 14),(.c (.i 0)),(Zt 16)]),Zo 18 (.un .not (Zt 17)),Zm 19 18,Zg 20 (.mv (Zt 5)) 19 false,Zg 21 (.bin .gtr (Zt 20) (.c (.i 0))) 19 false,Zg 22 (.mv (Zt 21)) 19 false,Zg 23 (.mv (Zt 0)) 22 true,Zg 24 (.mv (Zt 5)) 22 true,Zg 25 (.bin .sub (Zt 24) (.c (.i 1))) 22 true,Zg 26 (.idx 1 (Zt 23) (Zt 25)) 22 true,Zg 27 (.load 1 false (Zt 26)) 22 true,Zg 28 (.mv (Zt 6)) 22 true,Zg 29 (.bin .geq (Zt 27) (Zt 28)) 22 true,Zg 30 (.pick (Zt 22) (Zt 29) (Zy false)) 19 false,Zo 31 (.pick (Zt 19) (Zy true) (Zt 30))] (.cond (Zt 31) (Zs [Zo 4 (.mv (Zy false))] .ret) .skip)))) (.reg [Zd 32 .add 9 1,Zm 9 32] []))))
def Ta:aw:=(Zs [Zo 4 (.mv (Zy true))] .ret)
def A64:aw:=(Zs [Zo 4 (.mv (Zy false))] (.seqa (.reg [Zm 7 0,Zk 8 7,Zn 9 0] []) (.blk 0 (.loop Nj)) [] [] Ta))
theorem m64:ba Tryz.prog 64 2 A64 V85=true:=by kernel_rfl
def A134:aw:=(Zs [Zo 2 (.box 5 (Zt 0)),Zo 3 (.mv (Zy false))] (Zs [Za 4 0 2,Zl 5 4,Zl 6 1,Zb 7 .eql 5 6,Zm 3 7] .ret))
theorem m134:ba Tryz.prog 134 2 A134 lz=true:=by kernel_rfl
def A67:aw:=(Zs [Zo 2 (.box 5 (Zt 0)),Zo 3 (.box 1 (Zt 1)),Zn 4 0] (Zs [Za 5 3 2,Zl 6 5,Zo 7 (.mkf 134 [(Zt 3)]),Zo 8 (.call 133 [(Zt 6),(Zt 7)]),Zm 4 8] .ret))
theorem m67:ba Tryz.prog 67 2 A67 V85=true:=by kernel_rfl
def A69:aw:=(Zs [Zo 2 (.box 2 (Zt 0)),Zo 3 (.box 2 (Zt 1)),Zn 4 0] (.seq (.reg [Zv 8 2 2,Zv 9 2 3,Zo 10 (.call 135 [(Zt 8),(Zt 9)]),Zm 7 10,Ze 11 7 0,Ze 12 7 1,Zm 5 11,Zm 6 12] [.s 5]) (Zs [Zm 13 5,Zm 14 5,Zk 15 14,Zd 16 .sub 15 1,Zx 17 1 13 16,Zl 18 17,Zm 4 18] .ret)))
theorem m69:ba Tryz.prog 69 2 A69 V85=true:=by kernel_rfl
def Tb:aw:=(.cond (Zt 22) (Zs [Zo 4 (.mv (Zy true))] .ret) .skip)
def A66:aw:=(Zs [Zo 3 (.box 5 (Zt 0)),Zo 4 (.mv (Zy false))] (Zs [Zv 7 5 1,Za 8 0 3,Zl 9 8,Zo 10 (.call 67 [(Zt 7),(Zt 9)]),Zm 5 10] (.seq (.seqr (.reg [Zm 11 5,Zd 12 .lss 11 0,Zm 13 12,Zg 14 (.fad 1 (Zt 3)) 13 false,Zg 15 (.fad 1 (Zt 14)) 13 false,Zg 16 (.load 1 false (Zt 15)) 13 false,Zg 17 (.fad 4 (Zt 1)) 13 false,Zg 18 (.load 1 false (Zt 17)) 13 false,Zg 19 (.call 68 [(Zt 16),(Zt 18)]) 13 false,Zg 20 (.len (Zt 19)) 13 false,Zg 21 (.bin .gtr (Zt 20) (.c (.i 0))) 13 false,Zo 22 (.pick (Zt 13) (Zy true) (Zt 21))] []) [1,2,3,5,22] [3] Tb) (Zs [Za 23 3 1,Zl 24 23,Zm 25 5,Zx 26 5 24 25,Zv 27 5 26,Zo 6 (.alloc (.agg [.i 0,.i 0,.lst .u 1 [],.i 0,.i 0])),Zw (.store 5 (Zt 6) (Zt 27))] (.seq (.drw [Za 28 1 6,Za 29 0 28,Zl 30 29,Za 31 1 3,Za 32 0 31,Zl 33 32,Zb 34 .neq 30 33,Zm 35 34,Zg 36 (.load 2 true (Zt 2)) 35 false,Zg 37 (.fad 1 (Zt 6)) 35 false,Zg 38 (.load 2 true (Zt 37)) 35 false,Zg 39 (.call 69 [(Zt 36),(Zt 38)]) 35 false,Zg 40 (.load 2 true (Zt 2)) 35 false,Zg 41 (.fad 1 (Zt 3)) 35 false,Zg 42 (.load 2 true (Zt 41)) 35 false,Zg 43 (.call 69 [(Zt 40),(Zt 42)]) 35 false,Zg 44 (.bin .neq (Zt 39) (Zt 43)) 35 false,Zo 45 (.pick (Zt 35) (Zy true) (Zt 44)),Zm 46 45,Zg 47 (.fad 3 (Zt 6)) 46 false,Zg 48 (.fad 1 (Zt 47)) 46 false,Zg 49 (.load 1 false (Zt 48)) 46 false,Zg 50 (.fad 3 (Zt 3)) 46 false,Zg 51 (.fad 1 (Zt 50)) 46 false,Zg 52 (.load 1 false (Zt 51)) 46 false,Zg 53 (.bin .neq (Zt 49) (Zt 52)) 46 false,Zo 54 (.pick (Zt 46) (Zy true) (Zt 53)),Zm 4 54] []) .ret)))))
theorem m66:ba Tryz.prog 66 3 A66 V85=true:=by kernel_rfl
def TI:aw:=(.cond (Zt 27) (Zs [Zo 2 (.mv (Zy false))] .ret) .skip)
def A16:aw:=(Zs [Zo 1 (.box 5 (Zt 0)),Zo 2 (.mv (Zy false))] (Zs [Za 4 0 1,Za 5 0 4,Zv 6 2 5,Zo 3 (.alloc (.agg [.lst .u 1 [],.lst .u 4 []])),Zw (.store 2 (Zt 3) (Zt 6))] (.seq (.seqr (.reg [Za 7 0 1,Zv 8 3 7,Zo 9 (.call 63 [(Zt 8)]),Zo 10 (.un .not (Zt 9)),Zm 11 10,Zg 12 (.load 2 true (Zt 3)) 11 false,Zg 13 (.fad 3 (Zt 1)) 11 false,Zg 14 (.load 1 false (Zt 13)) 11 false,Zg 15 (.build [.lst .u 1 [],.lst .u 4 [],.lst .u 5 []] [(0,2,(Zt 12)),(2,1,(Zt 14))]) 11 false,Zg 16 (.call 63 [(Zt 15)]) 11 false,Zg 17 (.un .not (Zt 16)) 11 false,Zo 18 (.pick (Zt 11) (Zy true) (Zt 17)),Zm 19 18,Zg 20 (.fad 4 (Zt 1)) 19 false,Zg 21 (.load 1 false (Zt 20)) 19 false,Zg 22 (.fad 1 (Zt 3)) 19 false,Zg 23 (.load 1 false (Zt 22)) 19 false,Zg 24 (.len (Zt 23)) 19 false,Zg 25 (.call 64 [(Zt 21),(Zt 24)]) 19 false,Zg 26 (.un .not (Zt 25)) 19 false,Zo 27 (.pick (Zt 19) (Zy true) (Zt 26))] []) [1,3,27] [1,3] TI) (Zs [Za 28 0 1,Za 29 2 28,Zl 30 29,Zo 31 (.mkf 66 [(Zt 1),(Zt 3)]),Zo 32 (.call 65 [(Zt 30),(Zt 31)]),Zo 33 (.un .not (Zt 32)),Zm 2 33] .ret))))
theorem m16:ba Tryz.prog 16 1 A16 V91=true:=by kernel_rfl
def A186:aw:=(Zs [Zo 2 (.box 5 (Zt 0)),Zo 3 (.mv (Zy false))] (Zs [Za 4 0 2,Zl 5 4,Zl 6 1,Zb 7 .eql 5 6,Zm 3 7] .ret))
theorem m186:ba Tryz.prog 186 2 A186 lz=true:=by kernel_rfl
def A137:aw:=(Zs [Zo 2 (.box 3 (Zt 0)),Zo 3 (.box 1 (Zt 1)),Zn 4 0] (Zs [Za 5 2 2,Zl 6 5,Zo 7 (.mkf 186 [(Zt 3)]),Zo 8 (.call 133 [(Zt 6),(Zt 7)]),Zm 4 8] .ret))
theorem m137:ba Tryz.prog 137 2 A137 V85=true:=by kernel_rfl
def JM:aw:=(Zs [Zb 11 .lss 10 9] (.seq (.cond (Zt 11) .skip (.exit 0)) (.seq (.blk 1 (Zs [Zx 12 5 8 10,Zv 13 5 12,Zo 5 (.alloc (.agg [.i 0,.i 0,.lst .u 1 [],.i 0,.i 0])),Zw (.store 5 (Zt 5) (Zt 13))] (Zs [Za 14 0 1,Zv 15 3 14,Za 16 0 5,Zl 17 16,Zo 18 (.call 137 [(Zt 15),(Zt 17)]),Zd 19 .lss 18 0] (.cond (Zt 19) (.reg [Zm 20 3,Za 21 0 5,Zl 22 21,Zo 23 (.bsl 1 false [(Zt 22)]),Zo 24 (.app 1 8 true (Zt 20) (Zt 23)),Zm 3 24] [.s 3]) .skip)))) (.reg [Zd 25 .add 10 1,Zm 10 25] []))))
def Tc:aw:=(.seq (.reg [Zm 26 3,Zm 2 26] [.s 2]) .ret)
def A72:aw:=(.seq (.reg [Zo 1 (.box 5 (Zt 0)),Zo 2 (.mv (.c (.lst .u 1 [])))] [.s 2]) (.seq (.reg [Zo 6 (.bsl 1 false []),Zm 3 6] [.s 3]) (.seqa (.reg [Za 7 3 1,Zl 8 7,Zk 9 8,Zn 10 0] []) (.blk 0 (.loop JM)) [3] [3] Tc)))
theorem m72:ba Tryz.prog 72 1 A72 V91=true:=by kernel_rfl
def A157:aw:=(Zs [Zo 1 (.box 2 (Zt 0)),Zo 2 (.alloc (.agg [.lst .u 1 [],.lst .u 4 []]))] (.seq (.drw [Zo 3 (.bsl 1 true []),Za 4 0 1,Zl 5 4,Zo 6 (.app 1 16 false (Zt 3) (Zt 5)),Zo 7 (.bsl 4 true []),Za 8 1 1,Zl 9 8,Zo 10 (.app 4 32 false (Zt 7) (Zt 9)),Zo 11 (.build [.lst .u 1 [],.lst .u 4 []] [(0,1,(Zt 6)),(1,1,(Zt 10))]),Zw (.store 2 (Zt 2) (Zt 11))] []) .ret))
theorem m157:ba Tryz.prog 157 1 A157 V37=true:=by kernel_rfl
def A108:aw:=(Zs [Zo 1 (.box 2 (Zt 0)),Zo 2 (.alloc (.agg [.i 0,.lst .u 1 []]))] (.seq (.drw [Za 3 0 1,Zl 4 3,Zo 5 (.bsl 1 true []),Za 6 1 1,Zl 7 6,Zo 8 (.app 1 8 false (Zt 5) (Zt 7)),Zo 9 (.build [.i 0,.lst .u 1 []] [(0,1,(Zt 4)),(1,1,(Zt 8))]),Zw (.store 2 (Zt 2) (Zt 9))] []) .ret))
theorem m108:ba Tryz.prog 108 1 A108 V37=true:=by kernel_rfl
def NI:aw:=(Zs [Zb 14 .lss 13 12] (.seq (.cond (Zt 14) .skip (.exit 0)) (.seq (.blk 1 (.seq (.reg [Zx 15 5 11 13,Zv 16 5 15,Zo 5 (.alloc (.agg [.i 0,.i 0,.lst .u 1 [],.i 0,.i 0])),Zw (.store 5 (Zt 5) (Zt 16))] [.f false 500000322 5 2]) (.drw [Zo 17 (.fdv [] 2 (Zt 3)),Zo 18 (.ldv [] 1 false (Zt 17)),Za 19 0 5,Zl 20 19,Za 21 1 5,Zv 22 2 21,Zo 23 (.call 108 [(Zt 22)]),Za 24 3 5,Zv 25 2 24,Zo 26 (.build [.i 0,.i 0,.lst .u 1 [],.i 0,.i 0] [(0,1,(Zt 20)),(1,2,(Zt 23)),(3,2,(Zt 25))]),Zo 27 (.bsm 5 [(Zt 26)]),Zo 28 (.app 5 56 true (Zt 18) (Zt 27)),Za 29 2 3,Zw (.store 1 (Zt 29) (Zt 28))] [.f false 500000194 3 2]))) (.reg [Zd 30 .add 13 1,Zm 13 30] []))))
def SS:aw:=(.seq (.reg [Zv 31 3 3,Zw (.store 3 (Zt 2) (Zt 31))] [.f false 500000128 2 0,.f false 500000129 2 1,.f false 500000130 2 2]) .ret)
def A98:aw:=(Zs [Zo 1 (.box 3 (Zt 0)),Zo 2 (.alloc (.agg [.lst .u 1 [],.lst .u 4 [],.lst .u 5 []]))] (.seq (.reg [Za 6 0 1,Zv 7 2 6,Zo 8 (.call 157 [(Zt 7)]),Zo 9 (.build [.lst .u 1 [],.lst .u 4 [],.lst .u 5 []] [(0,2,(Zt 8))]),Zo 3 (.alloc (.agg [.lst .u 1 [],.lst .u 4 [],.lst .u 5 []])),Zw (.store 3 (Zt 3) (Zt 9))] [.f false 500000192 3 0,.f false 500000193 3 1,.f false 500000194 3 2]) (.seqa (.reg [Za 10 2 1,Zl 11 10,Zk 12 11,Zn 13 0] []) (.blk 0 (.loop NI)) [2,3] [2,3,500000192,500000193,500000194] SS)))
theorem m98:ba Tryz.prog 98 1 A98 V26=true:=by kernel_rfl
def A142:aw:=(.seq (.reg [Zo 2 (.mv (.c (.lst .u 1 [])))] [.s 2]) (.seq (.reg [Zo 3 (.bsl 1 false []),Zm 4 0,Zo 5 (.app 1 8 false (Zt 3) (Zt 4)),Zm 2 5] [.s 2]) .ret))
theorem m142:ba Tryz.prog 142 1 A142 V91=true:=by kernel_rfl
def A77:aw:=(Zs [Zo 1 (.box 5 (Zt 0)),Zo 2 (.alloc (.agg [.lst .u 1 [],.lst .u 4 [],.lst .u 5 [],.lst .u 5 [],.lst .u 1 []]))] (.seq (.drw [Za 3 0 1,Zv 4 3 3,Zo 5 (.call 98 [(Zt 4)]),Za 6 3 1,Zl 7 6,Zo 8 (.build [.lst .u 1 [],.lst .u 4 [],.lst .u 5 []] [(2,1,(Zt 7))]),Zo 9 (.call 98 [(Zt 8)]),Zo 10 (.fld 2 1 false (Zt 9)),Za 11 4 1,Zl 12 11,Zo 13 (.call 142 [(Zt 12)]),Zo 14 (.build [.lst .u 1 [],.lst .u 4 [],.lst .u 5 [],.lst .u 5 [],.lst .u 1 []] [(0,3,(Zt 5)),(3,1,(Zt 10)),(4,1,(Zt 13))]),Zw (.store 5 (Zt 2) (Zt 14))] []) .ret))
theorem m77:ba Tryz.prog 77 1 A77 me=true:=by kernel_rfl
def A168:aw:=(Zs [Zo 2 (.box 5 (Zt 0)),Zo 3 (.mv (Zy false))] (Zs [Za 4 0 2,Zl 5 4,Za 6 0 1,Zl 7 6,Zb 8 .neq 5 7,Zm 9 8,Zg 10 (.load 5 true (Zt 2)) 9 true,Zg 11 (.load 5 true (Zt 1)) 9 true,Zg 12 (.call 131 [(Zt 10),(Zt 11)]) 9 true,Zo 13 (.pick (Zt 9) (Zt 12) (Zy false)),Zm 3 13] .ret))
theorem m168:ba Tryz.prog 168 2 A168 lz=true:=by kernel_rfl
def A107:aw:=(Zs [Zo 2 (.box 5 (Zt 0)),Zo 3 (.box 5 (Zt 1)),Zo 4 (.mv (Zy false))] (Zs [Za 5 1 3,Za 6 1 5,Zl 7 6,Za 8 4 2,Zl 9 8,Zo 10 (.call 68 [(Zt 7),(Zt 9)]),Zk 11 10,Zd 12 .eql 11 0,Zm 13 12,Zg 14 (.fad 0 (Zt 2)) 13 true,Zg 15 (.fad 2 (Zt 14)) 13 true,Zg 16 (.load 1 false (Zt 15)) 13 true,Zg 17 (.mkf 168 [(Zt 3)]) 13 true,Zg 18 (.call 65 [(Zt 16),(Zt 17)]) 13 true,Zg 19 (.un .not (Zt 18)) 13 true,Zo 20 (.pick (Zt 13) (Zt 19) (Zy false)),Zm 4 20] .ret))
theorem m107:ba Tryz.prog 107 2 A107 V85=true:=by kernel_rfl
def yX:aw:=(.seq (.seq (.drw [Zm 9 6,Za 10 2 2,Zl 11 10,Zk 12 11,Zb 13 .lss 9 12,Zm 14 13,Zg 15 (.fad 2 (Zt 2)) 14 true,Zg 16 (.load 1 false (Zt 15)) 14 true,Zg 17 (.mv (Zt 6)) 14 true,Zg 18 (.idx 5 (Zt 16) (Zt 17)) 14 true,Zg 19 (.fad 0 (Zt 18)) 14 true,Zg 20 (.load 1 false (Zt 19)) 14 true,Zg 21 (.fad 0 (Zt 3)) 14 true,Zg 22 (.load 1 false (Zt 21)) 14 true,Zg 23 (.bin .lss (Zt 20) (Zt 22)) 14 true,Zo 24 (.pick (Zt 14) (Zt 23) (Zy false))] []) (.cond (Zt 24) .skip (.exit 0))) (.blk 1 (.reg [Zm 25 6,Zd 26 .add 25 1,Zm 6 26] [])))
def LC:aw:=(Zs [Za 27 1 3,Zv 28 2 27,Zo 29 (.call 108 [(Zt 28)]),Za 30 1 3,Zw (.store 2 (Zt 30) (Zt 29))] (Zs [Za 31 2 5,Zl 32 31,Zm 33 6,Zv 34 5 3,Zo 35 (.bsl 5 false [(Zt 34)]),Zo 36 (.callM 214 [(Zt 32),(Zt 33),(Zt 35)] [2008,35]),Za 37 2 5,Zw (.store 1 (Zt 37) (Zt 36))] (Zs [Zv 38 3 5,Zw (.store 3 (Zt 4) (Zt 38))] .ret)))
def A174:aw:=(Zs [Zo 2 (.box 3 (Zt 0)),Zo 3 (.box 5 (Zt 1)),Zo 4 (.alloc (.agg [.lst .u 1 [],.lst .u 4 [],.lst .u 5 []]))] (Zs [Zv 7 3 2,Zo 8 (.call 98 [(Zt 7)]),Zo 5 (.alloc (.agg [.lst .u 1 [],.lst .u 4 [],.lst .u 5 []])),Zw (.store 3 (Zt 5) (Zt 8)),Zn 6 0] (.seqr (.blk 0 (.loop yX)) [3,4,5,6] [3,4,5,8,1008,2008] LC)))
theorem m174:ba Tryz.prog 174 2 A174 sU=true:=by kernel_rfl
def A239:aw:=(Zs [Zo 3 (.mv (Zy false))] (Zs [Zm 4 0,Za 5 0 1,Zl 6 5,Zk 7 6,Zd 8 .sub 7 1,Zo 9 (.call 132 [(Zt 4),(.c (.i 0)),(Zt 8)]),Zo 10 (.un .not (Zt 9)),Zm 3 10] .ret))
theorem m239:ba Tryz.prog 239 2 A239 lz=true:=by kernel_rfl
def yf:aw:=(Zs [Zb 9 .lss 8 7] (.seq (.cond (Zt 9) .skip (.exit 0)) (.seq (.blk 1 (Zs [Zm 10 8,Zm 5 10] (Zs [Zm 11 1,Zm 12 0,Zm 13 5,Zx 14 1 12 13,Zl 15 14,Zo 16 (.dyn (Zt 11) [(Zt 15)])] (.cond (Zt 16) (Zs [Zm 17 5,Zm 4 17] .ret) .skip)))) (.reg [Zd 18 .add 8 1,Zm 8 18] []))))
def Nu:aw:=(Zs [Zn 4 (-1)] .ret)
def A145:aw:=(Zs [Zn 4 0] (.seqa (.reg [Zm 6 0,Zk 7 6,Zn 8 0] []) (.blk 0 (.loop yf)) [] [] Nu))
theorem m145:ba Tryz.prog 145 2 A145 V85=true:=by kernel_rfl
def A238:aw:=(Zs [Zo 4 (.mv (Zy false))] (Zs [Zm 5 0,Zm 6 1,Zo 7 (.call 145 [(Zt 5),(Zt 6)]),Zd 8 .geq 7 0,Zm 4 8] .ret))
theorem m238:ba Tryz.prog 238 2 A238 V85=true:=by kernel_rfl
def A215:aw:=(Zs [Zo 2 (.box 2 (Zt 0)),Zo 4 (.mv (Zy false))] (Zs [Zv 5 2 2,Zo 6 (.call 128 [(Zt 5)]),Zm 7 6,Zg 8 (.mv (Zt 1)) 7 true,Zg 9 (.mkf 239 [(Zt 2)]) 7 true,Zg 10 (.call 238 [(Zt 8),(Zt 9)]) 7 true,Zg 11 (.un .not (Zt 10)) 7 true,Zo 12 (.pick (Zt 7) (Zt 11) (Zy false)),Zm 4 12] .ret))
theorem m215:ba Tryz.prog 215 2 A215 V85=true:=by kernel_rfl
def A241:aw:=(.seq (.reg [Zo 2 (.mv (.c (.lst .u 1 [])))] [.s 2]) (.seq (Zs [Zm 3 0,Zo 4 (.isn false (Zt 3))] (.cond (Zt 4) (.seq (.reg [Zo 2 (.mv (.c (.lst .u 1 [])))] [.s 2]) .ret) .skip)) (.seq (.reg [Zo 5 (.bsl 1 false []),Zm 6 0,Zo 7 (.app 1 8 false (Zt 5) (Zt 6)),Zm 2 7] [.s 2]) .ret)))
theorem m241:ba Tryz.prog 241 1 A241 V91=true:=by kernel_rfl
def vV:aw:=(.cond (Zt 43) (.drw [Zo 44 (.ldv [] 1 false (Zt 7)),Zm 45 13,Zm 46 1,Zm 47 13,Zo 48 (.bin .shl (.c (.i 1)) (Zt 47)),Zb 49 .or 46 48,Zm 50 2,Zm 51 2,Zk 52 51,Zm 53 2,Zk 54 53,Zo 55 (.slc 1 (Zt 50) none (some (Zt 52)) (some (Zt 54))),Zm 56 11,Zo 57 (.bsl 1 true [(Zt 56)]),Zo 58 (.app 1 8 true (Zt 55) (Zt 57)),Zo 59 (.dynM (Zt 44) [(Zt 45),(Zt 49),(Zt 58)] [58,1000000001,1000000002,470000128,1000000004,1000000005,1000000006])] [.f true 470000128 1000000002 0]) .skip)
def ql:aw:=(Zs [Zb 28 .lss 27 26] (.seq (.cond (Zt 28) .skip (.exit 0)) (.seq (.blk 1 (Zs [Zm 29 27,Zx 30 4 25 27,Zv 31 4 30,Zo 12 (.alloc (.agg [.i 0,.i 0,.i 0,.i 0])),Zm 11 29,Zw (.store 4 (Zt 12) (Zt 31))] (Zs [Zv 32 4 12,Zm 33 0,Zo 34 (.call 185 [(Zt 32),(Zt 33)]),Zm 13 34] (.seqr (.reg [Zm 35 13,Zd 36 .geq 35 0,Zm 37 36,Zg 38 (.mv (Zt 1)) 37 true,Zg 39 (.mv (Zt 13)) 37 true,Zg 40 (.bin .shr (Zt 38) (Zt 39)) 37 true,Zg 41 (.bin .and (Zt 40) (.c (.i 1))) 37 true,Zg 42 (.bin .eql (Zt 41) (.c (.i 0))) 37 true,Zo 43 (.pick (Zt 37) (Zt 42) (Zy false))] []) [0,1,2,7,11,13,25,26,27,43] [470000128,1000000001,1000000002,1000000004,1000000005,1000000006] vV)))) (.reg [Zd 60 .add 27 1,Zm 27 60] []))))
def IB:aw:=(.seq (.seq (.reg [Zm 14 0,Zl 15 3,Zb 16 .eql 14 15] [.z 2,.f true 470000128 1000000002 0]) (.cond (Zt 16) (.seq (.drw [Zo 17 (.ldv [] 1 false (Zt 4)),Zl 18 5,Zm 19 2,Zo 20 (.call 241 [(Zt 19)]),Zo 21 (.build [.i 0,.lst .u 1 []] [(0,1,(Zt 18)),(1,1,(Zt 20))]),Zo 22 (.bsm 2 [(Zt 21)]),Zo 23 (.app 2 32 true (Zt 17) (Zt 22)),Zw (.store 1 (Zt 4) (Zt 23))] [.f true 470000128 1000000002 0]) .ret) .skip)) (Zs [Za 24 1 6,Zl 25 24,Zk 26 25,Zn 27 0] (.blk 0 (.loop ql))))
theorem Vu:ba Tryz.prog 240 8 IB co=true:=by kernel_rfl
def wo:aw:=(.cond (Zt 43) (.drw [Zo 44 (.ldv [] 1 false (Zt 7)),Zm 45 13,Zm 46 1,Zm 47 13,Zo 48 (.bin .shl (.c (.i 1)) (Zt 47)),Zb 49 .or 46 48,Zm 50 2,Zm 51 2,Zk 52 51,Zm 53 2,Zk 54 53,Zo 55 (.slc 1 (Zt 50) none (some (Zt 52)) (some (Zt 54))),Zm 56 11,Zo 57 (.bsl 1 true [(Zt 56)]),Zo 58 (.app 1 8 true (Zt 55) (Zt 57)),Zo 59 (.dynM (Zt 44) [(Zt 45),(Zt 49),(Zt 58)] [58,1000000000,1000000001,470000064,1000000003,1000000004,1000000005])] [.f true 470000064 1000000001 0]) .skip)
def pN:aw:=(Zs [Zb 28 .lss 27 26] (.seq (.cond (Zt 28) .skip (.exit 0)) (.seq (.blk 1 (Zs [Zm 29 27,Zx 30 4 25 27,Zv 31 4 30,Zo 12 (.alloc (.agg [.i 0,.i 0,.i 0,.i 0])),Zm 11 29,Zw (.store 4 (Zt 12) (Zt 31))] (Zs [Zv 32 4 12,Zm 33 0,Zo 34 (.call 185 [(Zt 32),(Zt 33)]),Zm 13 34] (.seqr (.reg [Zm 35 13,Zd 36 .geq 35 0,Zm 37 36,Zg 38 (.mv (Zt 1)) 37 true,Zg 39 (.mv (Zt 13)) 37 true,Zg 40 (.bin .shr (Zt 38) (Zt 39)) 37 true,Zg 41 (.bin .and (Zt 40) (.c (.i 1))) 37 true,Zg 42 (.bin .eql (Zt 41) (.c (.i 0))) 37 true,Zo 43 (.pick (Zt 37) (Zt 42) (Zy false))] []) [0,1,2,7,11,13,25,26,27,43] [470000064,1000000000,1000000001,1000000003,1000000004,1000000005] wo)))) (.reg [Zd 60 .add 27 1,Zm 27 60] []))))
def Ha:aw:=(.seq (.seq (.reg [Zm 14 0,Zl 15 3,Zb 16 .eql 14 15] [.z 2,.f true 470000064 1000000001 0]) (.cond (Zt 16) (.seq (.drw [Zo 17 (.ldv [] 1 false (Zt 4)),Zl 18 5,Zm 19 2,Zo 20 (.call 241 [(Zt 19)]),Zo 21 (.build [.i 0,.lst .u 1 []] [(0,1,(Zt 18)),(1,1,(Zt 20))]),Zo 22 (.bsm 2 [(Zt 21)]),Zo 23 (.app 2 32 true (Zt 17) (Zt 22)),Zw (.store 1 (Zt 4) (Zt 23))] [.f true 470000064 1000000001 0]) .ret) .skip)) (Zs [Za 24 1 6,Zl 25 24,Zk 26 25,Zn 27 0] (.blk 0 (.loop pN))))
theorem VC:ba Tryz.prog 240 8 Ha co=true:=by kernel_rfl
def Ad:aw:=(Zs [Zb 12 .lss 11 10] (.seq (.cond (Zt 12) .skip (.exit 0)) (.seq (.blk 1 (Zs [Zx 13 1 9 11,Zl 14 13,Zm 7 14] (.reg [Zm 15 5,Za 16 1 2,Zl 17 16,Zm 18 7,Zx 19 4 17 18,Za 20 2 19,Zl 21 20,Zb 22 .add 15 21,Zm 5 22] []))) (.reg [Zd 23 .add 11 1,Zm 11 23] []))))
def Kg:aw:=(Zs [Zm 24 5,Zm 4 24] .ret)
def A252:aw:=(Zs [Zo 2 (.box 2 (Zt 0)),Zo 3 (.box 2 (Zt 1)),Zn 4 0] (Zs [Zn 5 0] (.seqa (.reg [Za 8 1 3,Zl 9 8,Zk 10 9,Zn 11 0] []) (.blk 0 (.loop Ad)) [5] [] Kg)))
theorem m252:ba Tryz.prog 252 2 A252 V85=true:=by kernel_rfl
def zp:aw:=(Zs [Zb 12 .lss 11 10] (.seq (.cond (Zt 12) .skip (.exit 0)) (.seq (.blk 1 (Zs [Zm 13 11,Zx 14 1 9 11,Zl 15 14,Zm 5 13,Zm 6 15] (.seq (Zs [Zm 16 5,Zm 17 1,Zk 18 17,Zb 19 .geq 16 18] (.cond (Zt 19) (Zs [Zn 4 1] .ret) .skip)) (Zs [Zm 20 1,Zm 21 5,Zx 22 1 20 21,Zl 23 22,Zm 7 23] (Zs [Zm 24 6,Zm 25 7,Zo 26 (.call 223 [(Zt 24),(Zt 25)]),Zm 8 26] (Zs [Zm 27 8,Zd 28 .neq 27 0] (.cond (Zt 28) (Zs [Zm 29 8,Zm 4 29] .ret) .skip))))))) (.reg [Zd 30 .add 11 1,Zm 11 30] []))))
def KB:aw:=(.seq (Zs [Zm 31 0,Zk 32 31,Zm 33 1,Zk 34 33,Zb 35 .lss 32 34] (.cond (Zt 35) (Zs [Zn 4 (-1)] .ret) .skip)) (Zs [Zn 4 0] .ret))
def A253:aw:=(Zs [Zn 4 0] (.seqa (.reg [Zm 9 0,Zk 10 9,Zn 11 0] []) (.blk 0 (.loop zp)) [0,1] [] KB))
theorem m253:ba Tryz.prog 253 2 A253 V85=true:=by kernel_rfl
def A244:aw:=(Zs [Zo 3 (.box 2 (Zt 0)),Zo 4 (.box 2 (Zt 1)),Zo 5 (.box 2 (Zt 2)),Zn 6 0] (.seq (.drw [Zv 7 2 3,Zv 8 2 4,Zo 9 (.call 252 [(Zt 7),(Zt 8)]),Zv 10 2 3,Zv 11 2 5,Zo 12 (.call 252 [(Zt 10),(Zt 11)]),Zo 13 (.call 223 [(Zt 9),(Zt 12)]),Za 14 1 4,Zl 15 14,Zk 16 15,Za 17 1 5,Zl 18 17,Zk 19 18,Zo 20 (.call 223 [(Zt 16),(Zt 19)]),Za 21 1 4,Zl 22 21,Za 23 1 5,Zl 24 23,Zo 25 (.call 253 [(Zt 22),(Zt 24)]),Za 26 0 4,Zl 27 26,Za 28 0 5,Zl 29 28,Zo 30 (.call 223 [(Zt 27),(Zt 29)]),Zo 31 (.bsl 1 true [(Zt 13),(Zt 20),(Zt 25),(Zt 30)]),Zo 32 (.call 222 [(Zt 31)]),Zm 6 32] []) .ret))
theorem m244:ba Tryz.prog 244 3 A244 eI=true:=by kernel_rfl
def A243:aw:=(Zs [Zo 3 (.box 2 (Zt 0)),Zo 4 (.box 2 (Zt 1)),Zn 5 0] (Zs [Zv 6 2 2,Zv 7 2 3,Zv 8 2 4,Zo 9 (.call 244 [(Zt 6),(Zt 7),(Zt 8)]),Zm 5 9] .ret))
def Wm:List RV:=[.t 5]
theorem m243:ba Tryz.prog 243 3 A243 Wm=true:=by kernel_rfl
def MS:aw:=(Zs [Zl 19 7,Zo 20 (.mkf 243 [(Zt 3)]),Zo 21 (.callM 242 [(Zt 19),(Zt 20)] [500000448,3])] (.seq (.reg [Zl 22 7,Zm 6 22] [.s 6]) .ret))
def A216:aw:=(.seq (.reg [Zo 3 (.box 2 (Zt 0)),Zo 4 (.box 1 (Zt 1)),Zo 5 (.box 1 (Zt 2)),Zo 6 (.mv (.c (.lst .u 2 [])))] [.s 6]) (.seq (.reg [Zo 9 (.bsl 2 false []),Zo 7 (.alloc (.lst .u 2 [])),Zw (.store 1 (Zt 7) (Zt 9))] [.f false 500000448 7 0]) (Zs [Zo 8 (.alloc (.sc .nilFunc))] (Zs [Zo 10 (.mkf 240 [(Zt 5),(Zt 7),(Zt 4),(Zt 3),(Zt 8)]),Zw (.store 1 (Zt 8) (Zt 10))] (.seqr (Zs [Zl 11 4,Zl 12 5,Zb 13 .neq 11 12] (.cond (Zt 13) (.drw [Zl 14 8,Zl 15 4,Zl 16 4,Zo 17 (.bin .shl (.c (.i 1)) (Zt 16)),Zo 18 (.dynM (Zt 14) [(Zt 15),(Zt 17),(.c (.lst .u 1 []))] [5,7,500000448,4,3,8])] [.f false 500000448 7 0]) .skip)) [3,7] [3,7,500000448] MS)))))
theorem m216:ba Tryz.prog 216 3 A216 eI=true:=by kernel_rfl
def II:aw:=(.cond (Zt 19) (.seq (.reg [Zo 6 (.mv (.c (.lst .u 2 []))),Zo 7 (.mv (Zy false))] [.s 6]) .ret) .skip)
def A175:aw:=(.seq (.reg [Zo 3 (.box 2 (Zt 0)),Zo 6 (.mv (.c (.lst .u 2 []))),Zo 7 (.mv (Zy false))] [.s 6]) (.seq (.seqr (.reg [Zv 9 2 3,Zm 10 1,Zm 11 2,Zo 12 (.bsl 1 false [(Zt 10),(Zt 11)]),Zo 13 (.call 215 [(Zt 9),(Zt 12)]),Zo 14 (.un .not (Zt 13)),Zm 15 14,Zg 16 (.mv (Zt 1)) 15 false,Zg 17 (.mv (Zt 2)) 15 false,Zg 18 (.bin .eql (Zt 16) (Zt 17)) 15 false,Zo 19 (.pick (Zt 15) (Zy true) (Zt 18))] []) [1,2,3,19] [3] II) (.seq (.reg [Zv 20 2 3,Zm 21 1,Zm 22 2,Zo 23 (.call 216 [(Zt 20),(Zt 21),(Zt 22)]),Zm 8 23] [.s 8]) (.seq (Zs [Zm 24 8,Zk 25 24,Zd 26 .gtr 25 200] (.cond (Zt 26) (.seq (.reg [Zo 6 (.mv (.c (.lst .u 2 []))),Zo 7 (.mv (Zy false))] [.s 6]) .ret) .skip)) (.seq (.reg [Zm 27 8,Zm 6 27,Zo 7 (.mv (Zy true))] [.s 6]) .ret)))))
theorem m175:ba Tryz.prog 175 3 A175 fP=true:=by kernel_rfl
def zQ:aw:=(Zs [Zb 25 .lss 24 23] (.seq (.cond (Zt 25) .skip (.exit 2)) (.seq (.blk 3 (Zs [Zx 26 1 22 24,Zl 27 26,Zm 7 27] (.drw [Zm 28 3,Zm 29 7,Zx 30 1 28 29,Zl 31 30,Za 32 3 5,Zv 33 2 32,Zo 34 (.call 184 [(Zt 33)]),Zb 35 .or 31 34,Zx 36 1 28 29,Zw (.store 1 (Zt 36) (Zt 35))] []))) (.reg [Zd 37 .add 24 1,Zm 24 37] []))))
def GH:aw:=(.reg [Zd 38 .add 16 1,Zm 16 38] [])
def yt:aw:=(Zs [Zb 17 .lss 16 15] (.seq (.cond (Zt 17) .skip (.exit 0)) (.seqr (.blk 1 (Zs [Zx 18 5 14 16,Zv 19 5 18,Zo 5 (.alloc (.agg [.i 0,.i 0,.lst .u 1 [],.i 0,.i 0])),Zw (.store 5 (Zt 5) (Zt 19))] (Zs [Za 20 1 5,Za 21 1 20,Zl 22 21,Zk 23 22,Zn 24 0] (.blk 2 (.loop zQ))))) [3,14,15,16] [3] GH)))
def Od:aw:=(.seq (.reg [Zm 39 3,Zm 2 39] [.s 2]) .ret)
def A219:aw:=(.seq (.reg [Zo 1 (.box 3 (Zt 0)),Zo 2 (.mv (.c (.lst .u 1 [])))] [.s 2]) (.seq (.reg [Za 8 0 1,Za 9 1 8,Zl 10 9,Zk 11 10,Zo 12 (.mks 1 (.i 0) 8 (Zt 11) (Zt 11)),Zm 3 12] [.s 3]) (.seqa (.reg [Za 13 2 1,Zl 14 13,Zk 15 14,Zn 16 0] []) (.blk 0 (.loop yt)) [3] [3] Od)))
theorem m219:ba Tryz.prog 219 1 A219 V91=true:=by kernel_rfl
def zc:aw:=(Zs [Zb 15 .lss 14 13] (.seq (.cond (Zt 15) .skip (.exit 0)) (.seq (.blk 1 (Zs [Zx 16 1 12 14,Zl 17 16,Zm 8 17] (.reg [Zm 18 6,Zm 19 5,Zm 20 8,Zx 21 1 19 20,Zl 22 21,Zb 23 .or 18 22,Zm 6 23] []))) (.reg [Zd 24 .add 14 1,Zm 14 24] []))))
def MJ:aw:=(Zs [Zm 25 6,Zm 4 25] .ret)
def A177:aw:=(Zs [Zo 2 (.box 3 (Zt 0)),Zo 3 (.box 2 (Zt 1)),Zn 4 0] (.seq (.reg [Zv 9 3 2,Zo 10 (.call 219 [(Zt 9)]),Zm 5 10,Zn 6 0] [.s 5]) (.seqa (.reg [Za 11 1 3,Zl 12 11,Zk 13 12,Zn 14 0] []) (.blk 0 (.loop zc)) [6] [] MJ)))
theorem m177:ba Tryz.prog 177 2 A177 V85=true:=by kernel_rfl
def A245:aw:=(Zs [Zo 2 (.mv (Zy false))] (Zs [Zm 3 0,Zo 4 (.call 132 [(Zt 3),(.c (.i 0)),(.c (.i 16777215))]),Zm 2 4] .ret))
theorem m245:ba Tryz.prog 245 1 A245 V91=true:=by kernel_rfl
def A217:aw:=(Zs [Zo 4 (.mv (Zy false))] (Zs [Zm 5 0,Zo 6 (.call 245 [(Zt 5)]),Zm 7 6,Zg 8 (.mv (Zt 1)) 7 true,Zg 9 (.call 132 [(Zt 8),(.c (.i 1)),(.c (.i 24))]) 7 true,Zo 10 (.pick (Zt 7) (Zt 9) (Zy false)),Zm 4 10] .ret))
theorem m217:ba Tryz.prog 217 2 A217 V85=true:=by kernel_rfl
def Ae:aw:=(.seq (Zs [Zm 8 6,Zm 9 1,Zb 10 .add 8 9,Zd 11 .leq 10 24] (.cond (Zt 11) .skip (.exit 0))) (.seq (.blk 1 (Zs [Zm 14 0,Zm 15 6,Zm 16 1,Zo 17 (.build [.i 0,.i 0] [(0,1,(Zt 15)),(1,1,(Zt 16))]),Zo 18 (.call 184 [(Zt 17)]),Zb 19 .and 14 18,Zd 20 .eql 19 0] (.cond (Zt 20) (.reg [Zm 21 5,Zm 22 6,Zo 23 (.bsl 1 false [(Zt 22)]),Zo 24 (.app 1 8 true (Zt 21) (Zt 23)),Zm 5 24] [.s 5]) .skip))) (.reg [Zm 12 6,Zd 13 .add 12 1,Zm 6 13] [])))
def GU:aw:=(.seq (.reg [Zm 25 5,Zm 4 25] [.s 4]) .ret)
def A218:aw:=(.seq (.reg [Zo 4 (.mv (.c (.lst .u 1 [])))] [.s 4]) (.seq (.reg [Zo 7 (.bsl 1 false []),Zm 5 7] [.s 5]) (.seqa (.reg [Zn 6 0] []) (.blk 0 (.loop Ae)) [5] [5] GU)))
theorem m218:ba Tryz.prog 218 2 A218 V85=true:=by kernel_rfl
def A176:aw:=(Zs [Zo 4 (.alloc (.agg [.i 0,.i 0])),Zo 5 (.mv (Zy false))] (.seq (Zs [Zm 7 0,Zm 8 1,Zo 9 (.call 217 [(Zt 7),(Zt 8)]),Zo 10 (.un .not (Zt 9))] (.cond (Zt 10) (Zs [Zo 11 (.build [.i 0,.i 0] []),Zw (.store 2 (Zt 4) (Zt 11)),Zo 5 (.mv (Zy false))] .ret) .skip)) (.seq (.reg [Zm 12 0,Zm 13 1,Zo 14 (.call 218 [(Zt 12),(Zt 13)]),Zm 6 14] [.s 6]) (.seq (Zs [Zm 15 6,Zk 16 15,Zd 17 .eql 16 0] (.cond (Zt 17) (Zs [Zo 18 (.build [.i 0,.i 0] []),Zw (.store 2 (Zt 4) (Zt 18)),Zo 5 (.mv (Zy false))] .ret) .skip)) (Zs [Zm 19 6,Zo 20 (.idx 1 (Zt 19) (.c (.i 0))),Zl 21 20,Zm 22 1,Zo 23 (.build [.i 0,.i 0] [(0,1,(Zt 21)),(1,1,(Zt 22))]),Zw (.store 2 (Zt 4) (Zt 23)),Zo 5 (.mv (Zy true))] .ret)))))
def Nm:List RV:=[.c 4 2 true,.t 5]
theorem m176:ba Tryz.prog 176 2 A176 Nm=true:=by kernel_rfl
def yM:aw:=(Zs [Zb 54 .lss 53 52] (.seq (.cond (Zt 54) .skip (.exit 0)) (.seq (.blk 1 (Zs [Zx 55 2 51 53,Zv 56 2 55,Zo 12 (.alloc (.agg [.i 0,.lst .u 1 []])),Zw (.store 2 (Zt 12) (Zt 56))] (.seq (Zs [Za 57 1 12,Zl 58 57,Za 59 4 2,Zl 60 59,Zo 61 (.call 68 [(Zt 58),(Zt 60)]),Zk 62 61,Zd 63 .gtr 62 0] (.cond (Zt 63) (.exit 1) .skip)) (.seq (.drw [Za 65 0 2,Zv 66 3 65,Zv 67 2 12,Zo 68 (.call 177 [(Zt 66),(Zt 67)]),Za 69 3 7,Za 70 1 69,Zl 71 70,Zo 72 (.call 176 [(Zt 68),(Zt 71)]),Zm 64 72,Ze 73 64 0,Ze 74 64 1,Zo 13 (.alloc (.agg [.i 0,.i 0])),Zw (.store 2 (Zt 13) (Zt 73)),Zm 14 74] []) (Zs [Zm 75 14] (.cond (Zt 75) (Zs [Za 76 0 2,Zv 77 3 76,Zm 78 1,Zv 79 2 12,Zv 80 2 13,Zo 81 (.build [.i 0,.i 0,.lst .u 1 [],.i 0,.i 0] [(0,1,(Zt 78)),(1,2,(Zt 79)),(3,2,(Zt 80))]),Zo 82 (.call 174 [(Zt 77),(Zt 81)]),Za 83 0 6,Zw (.store 3 (Zt 83) (Zt 82))] (Zs [Zv 84 5 6,Zw (.store 5 (Zt 4) (Zt 84)),Zo 5 (.mv (Zy true))] .ret)) .skip)))))) (.reg [Zd 85 .add 53 1,Zm 53 85] []))))
def MI:aw:=(Zs [Zv 86 5 6,Zw (.store 5 (Zt 4) (Zt 86)),Zo 5 (.mv (Zy false))] .ret)
def A118:aw:=(Zs [Zo 2 (.box 5 (Zt 0)),Zo 4 (.alloc (.agg [.lst .u 1 [],.lst .u 4 [],.lst .u 5 [],.lst .u 5 [],.lst .u 1 []])),Zo 5 (.mv (Zy false))] (.seq (.drw [Zv 15 5 2,Zo 16 (.call 77 [(Zt 15)]),Zo 17 (.fdv [6,7] 3 (Zt 2)),Zo 18 (.ldv [6,7] 1 false (Zt 17)),Zv 19 5 2,Zm 20 1,Zo 21 (.call 67 [(Zt 19),(Zt 20)]),Zo 22 (.idv [6,7] 5 (Zt 18) (Zt 21)),Zo 23 (.lde [6,7] 5 true (Zt 22)),Zo 24 (.fdv [6,7] 0 (Zt 2)),Zo 25 (.fdv [6,7] 0 (Zt 24)),Zo 26 (.ldv [6,7] 2 true (Zt 25)),Zo 6 (.alloc (.agg [.lst .u 1 [],.lst .u 4 [],.lst .u 5 [],.lst .u 5 [],.lst .u 1 []])),Zo 7 (.alloc (.agg [.i 0,.i 0,.lst .u 1 [],.i 0,.i 0])),Zo 8 (.alloc (.agg [.lst .u 1 [],.lst .u 4 []])),Zw (.stw 6 5 (Zt 6) (Zt 16)),Zw (.stw 7 5 (Zt 7) (Zt 23)),Zw (.store 2 (Zt 8) (Zt 26))] []) (.seq (Zs [Zv 27 5 2,Zv 28 5 7,Zo 29 (.call 107 [(Zt 27),(Zt 28)])] (.cond (Zt 29) (Zs [Za 30 0 2,Zv 31 3 30,Zv 32 5 7,Zo 33 (.call 174 [(Zt 31),(Zt 32)]),Za 34 0 6,Zw (.store 3 (Zt 34) (Zt 33))] (Zs [Zv 35 5 6,Zw (.store 5 (Zt 4) (Zt 35)),Zo 5 (.mv (Zy true))] .ret)) .skip)) (.seq (.drw [Zv 37 2 8,Za 38 1 7,Za 39 0 38,Zl 40 39,Zv 41 2 8,Za 42 1 7,Zv 43 2 42,Zo 44 (.call 69 [(Zt 41),(Zt 43)]),Zo 45 (.call 175 [(Zt 37),(Zt 40),(Zt 44)]),Zm 36 45,Ze 46 36 0,Ze 47 36 1,Zm 9 46,Zm 10 47] [.s 9]) (.seq (Zs [Zm 48 10,Zo 49 (.un .not (Zt 48))] (.cond (Zt 49) (Zs [Zv 50 5 6,Zw (.store 5 (Zt 4) (Zt 50)),Zo 5 (.mv (Zy false))] .ret) .skip)) (.seqa (.reg [Zm 51 9,Zk 52 51,Zn 53 0] []) (.blk 0 (.loop yM)) [4,6] [4,6,16,1016,2016,3016,4016] MI))))))
theorem m118:ba Tryz.prog 118 2 A118 kP=true:=by kernel_rfl
def ST:aw:=(.cond (Zt 18) (Zs [Zo 19 (.build [.lst .u 1 [],.lst .u 4 [],.lst .u 5 [],.lst .u 5 [],.lst .u 1 []] []),Zw (.store 5 (Zt 4) (Zt 19)),Zo 5 (.mv (Zy false)),Zo 6 (.mv (Zy false))] .ret) .skip)
def A50:aw:=(Zs [Zo 2 (.box 5 (Zt 0)),Zo 4 (.alloc (.agg [.lst .u 1 [],.lst .u 4 [],.lst .u 5 [],.lst .u 5 [],.lst .u 1 []])),Zo 5 (.mv (Zy false)),Zo 6 (.mv (Zy false))] (.seq (.seqr (.reg [Zv 9 5 2,Zo 10 (.call 16 [(Zt 9)]),Zo 11 (.un .not (Zt 10)),Zm 12 11,Zg 13 (.load 5 true (Zt 2)) 12 false,Zg 14 (.call 72 [(Zt 13)]) 12 false,Zg 15 (.mv (Zt 1)) 12 false,Zg 16 (.call 84 [(Zt 14),(Zt 15)]) 12 false,Zg 17 (.un .not (Zt 16)) 12 false,Zo 18 (.pick (Zt 12) (Zy true) (Zt 17))] []) [1,2,4,18] [2,4] ST) (Zs [Zv 21 5 2,Zm 22 1,Zo 23 (.call 118 [(Zt 21),(Zt 22)]),Zm 20 23,Ze 24 20 0,Ze 25 20 1,Zo 7 (.alloc (.agg [.lst .u 1 [],.lst .u 4 [],.lst .u 5 [],.lst .u 5 [],.lst .u 1 []])),Zw (.store 5 (Zt 7) (Zt 24)),Zm 8 25] (Zs [Zv 26 5 7,Zm 27 8,Zw (.store 5 (Zt 4) (Zt 26)),Zm 5 27,Zo 6 (.mv (Zy true))] .ret))))
theorem m50:ba Tryz.prog 50 2 A50 nX=true:=by kernel_rfl
def NT:aw:=(.seq (Zs [Zm 11 5,Zm 12 0,Zk 13 12,Zb 14 .lss 11 13] (.cond (Zt 14) .skip (.exit 0))) (.seq (.blk 1 (.seq (.drw [Zm 17 0,Zm 18 5,Zx 19 1 17 18,Zl 20 19,Zm 21 1,Zm 22 5,Zx 23 1 21 22,Zl 24 23,Zb 25 .neq 20 24] []) (.cond (Zt 25) (Zs [Zo 4 (.mv (Zy false))] .ret) .skip))) (.reg [Zm 15 5,Zd 16 .add 15 1,Zm 5 16] [])))
def TF:aw:=(Zs [Zo 4 (.mv (Zy true))] .ret)
def A99:aw:=(Zs [Zo 4 (.mv (Zy false))] (.seq (Zs [Zm 6 0,Zk 7 6,Zm 8 1,Zk 9 8,Zb 10 .neq 7 9] (.cond (Zt 10) (Zs [Zo 4 (.mv (Zy false))] .ret) .skip)) (.seqa (.reg [Zn 5 0] []) (.blk 0 (.loop NT)) [] [] TF)))
theorem m99:ba Tryz.prog 99 2 A99 V85=true:=by kernel_rfl
def A158:aw:=(Zs [Zo 2 (.box 4 (Zt 0)),Zo 3 (.box 4 (Zt 1)),Zo 4 (.mv (Zy false))] (.seq (Zs [Za 5 0 2,Zl 6 5,Za 7 0 3,Zl 8 7,Zb 9 .neq 6 8] (.cond (Zt 9) (Zs [Zo 4 (.mv (Zy false))] .ret) .skip)) (.seq (Zs [Za 10 1 2,Zl 11 10,Za 12 1 3,Zl 13 12,Zb 14 .neq 11 13] (.cond (Zt 14) (Zs [Zo 4 (.mv (Zy false))] .ret) .skip)) (.seq (Zs [Za 15 2 2,Zl 16 15,Za 17 2 3,Zl 18 17,Zb 19 .neq 16 18] (.cond (Zt 19) (Zs [Zo 4 (.mv (Zy false))] .ret) .skip)) (.seq (Zs [Za 20 3 2,Zl 21 20,Za 22 3 3,Zl 23 22,Zb 24 .neq 21 23] (.cond (Zt 24) (Zs [Zo 4 (.mv (Zy false))] .ret) .skip)) (Zs [Zo 4 (.mv (Zy true))] .ret))))))
theorem m158:ba Tryz.prog 158 2 A158 V85=true:=by kernel_rfl
def xR:aw:=(.seq (Zs [Zm 11 5,Zm 12 0,Zk 13 12,Zb 14 .lss 11 13] (.cond (Zt 14) .skip (.exit 0))) (.seq (.blk 1 (.seq (.drw [Zm 17 0,Zm 18 5,Zx 19 4 17 18,Zv 20 4 19,Zm 21 1,Zm 22 5,Zx 23 4 21 22,Zv 24 4 23,Zo 25 (.call 158 [(Zt 20),(Zt 24)]),Zo 26 (.un .not (Zt 25))] []) (.cond (Zt 26) (Zs [Zo 4 (.mv (Zy false))] .ret) .skip))) (.reg [Zm 15 5,Zd 16 .add 15 1,Zm 5 16] [])))
def Ix:aw:=(Zs [Zo 4 (.mv (Zy true))] .ret)
def A100:aw:=(Zs [Zo 4 (.mv (Zy false))] (.seq (Zs [Zm 6 0,Zk 7 6,Zm 8 1,Zk 9 8,Zb 10 .neq 7 9] (.cond (Zt 10) (Zs [Zo 4 (.mv (Zy false))] .ret) .skip)) (.seqa (.reg [Zn 5 0] []) (.blk 0 (.loop xR)) [] [] Ix)))
theorem m100:ba Tryz.prog 100 2 A100 V85=true:=by kernel_rfl
def A40:aw:=(Zs [Zo 2 (.box 2 (Zt 0)),Zo 3 (.box 2 (Zt 1)),Zo 4 (.mv (Zy false))] (.seq (Zs [Za 5 0 2,Zl 6 5,Za 7 0 3,Zl 8 7,Zo 9 (.call 99 [(Zt 6),(Zt 8)]),Zo 10 (.un .not (Zt 9))] (.cond (Zt 10) (Zs [Zo 4 (.mv (Zy false))] .ret) .skip)) (.seq (Zs [Za 11 1 2,Zl 12 11,Za 13 1 3,Zl 14 13,Zo 15 (.call 100 [(Zt 12),(Zt 14)]),Zo 16 (.un .not (Zt 15))] (.cond (Zt 16) (Zs [Zo 4 (.mv (Zy false))] .ret) .skip)) (Zs [Zo 4 (.mv (Zy true))] .ret))))
theorem m40:ba Tryz.prog 40 2 A40 V85=true:=by kernel_rfl
def FU:aw:=(.seq (Zs [Zm 11 5,Zm 12 0,Zk 13 12,Zb 14 .lss 11 13] (.cond (Zt 14) .skip (.exit 0))) (.seq (.blk 1 (.seq (.drw [Zm 17 0,Zm 18 5,Zx 19 1 17 18,Zl 20 19,Zm 21 1,Zm 22 5,Zx 23 1 21 22,Zl 24 23,Zb 25 .neq 20 24] []) (.cond (Zt 25) (Zs [Zo 4 (.mv (Zy false))] .ret) .skip))) (.reg [Zm 15 5,Zd 16 .add 15 1,Zm 5 16] [])))
def TB:aw:=(Zs [Zo 4 (.mv (Zy true))] .ret)
def A20:aw:=(Zs [Zo 4 (.mv (Zy false))] (.seq (Zs [Zm 6 0,Zk 7 6,Zm 8 1,Zk 9 8,Zb 10 .neq 7 9] (.cond (Zt 10) (Zs [Zo 4 (.mv (Zy false))] .ret) .skip)) (.seqa (.reg [Zn 5 0] []) (.blk 0 (.loop FU)) [] [] TB)))
theorem m20:ba Tryz.prog 20 2 A20 V85=true:=by kernel_rfl
def A159:aw:=(Zs [Zo 2 (.box 2 (Zt 0)),Zo 3 (.box 2 (Zt 1)),Zo 4 (.mv (Zy false))] (.seq (Zs [Za 5 0 2,Zl 6 5,Za 7 0 3,Zl 8 7,Zb 9 .neq 6 8] (.cond (Zt 9) (Zs [Zo 4 (.mv (Zy false))] .ret) .skip)) (.seq (Zs [Za 10 1 2,Zl 11 10,Za 12 1 3,Zl 13 12,Zo 14 (.call 20 [(Zt 11),(Zt 13)]),Zo 15 (.un .not (Zt 14))] (.cond (Zt 15) (Zs [Zo 4 (.mv (Zy false))] .ret) .skip)) (Zs [Zo 4 (.mv (Zy true))] .ret))))
theorem m159:ba Tryz.prog 159 2 A159 V85=true:=by kernel_rfl
def A160:aw:=(Zs [Zo 2 (.box 2 (Zt 0)),Zo 3 (.box 2 (Zt 1)),Zo 4 (.mv (Zy false))] (.seq (Zs [Za 5 0 2,Zl 6 5,Za 7 0 3,Zl 8 7,Zb 9 .neq 6 8] (.cond (Zt 9) (Zs [Zo 4 (.mv (Zy false))] .ret) .skip)) (.seq (Zs [Za 10 1 2,Zl 11 10,Za 12 1 3,Zl 13 12,Zb 14 .neq 11 13] (.cond (Zt 14) (Zs [Zo 4 (.mv (Zy false))] .ret) .skip)) (Zs [Zo 4 (.mv (Zy true))] .ret))))
theorem m160:ba Tryz.prog 160 2 A160 V85=true:=by kernel_rfl
def A136:aw:=(Zs [Zo 2 (.box 5 (Zt 0)),Zo 3 (.box 5 (Zt 1)),Zo 4 (.mv (Zy false))] (.seq (Zs [Za 5 0 2,Zl 6 5,Za 7 0 3,Zl 8 7,Zb 9 .neq 6 8] (.cond (Zt 9) (Zs [Zo 4 (.mv (Zy false))] .ret) .skip)) (.seq (Zs [Za 10 1 2,Zv 11 2 10,Za 12 1 3,Zv 13 2 12,Zo 14 (.call 159 [(Zt 11),(Zt 13)]),Zo 15 (.un .not (Zt 14))] (.cond (Zt 15) (Zs [Zo 4 (.mv (Zy false))] .ret) .skip)) (.seq (Zs [Za 16 3 2,Zv 17 2 16,Za 18 3 3,Zv 19 2 18,Zo 20 (.call 160 [(Zt 17),(Zt 19)]),Zo 21 (.un .not (Zt 20))] (.cond (Zt 21) (Zs [Zo 4 (.mv (Zy false))] .ret) .skip)) (Zs [Zo 4 (.mv (Zy true))] .ret)))))
theorem m136:ba Tryz.prog 136 2 A136 V85=true:=by kernel_rfl
def IW:aw:=(.seq (Zs [Zm 11 5,Zm 12 0,Zk 13 12,Zb 14 .lss 11 13] (.cond (Zt 14) .skip (.exit 0))) (.seq (.blk 1 (.seq (.drw [Zm 17 0,Zm 18 5,Zx 19 5 17 18,Zv 20 5 19,Zm 21 1,Zm 22 5,Zx 23 5 21 22,Zv 24 5 23,Zo 25 (.call 136 [(Zt 20),(Zt 24)]),Zo 26 (.un .not (Zt 25))] []) (.cond (Zt 26) (Zs [Zo 4 (.mv (Zy false))] .ret) .skip))) (.reg [Zm 15 5,Zd 16 .add 15 1,Zm 5 16] [])))
def SX:aw:=(Zs [Zo 4 (.mv (Zy true))] .ret)
def A70:aw:=(Zs [Zo 4 (.mv (Zy false))] (.seq (Zs [Zm 6 0,Zk 7 6,Zm 8 1,Zk 9 8,Zb 10 .neq 7 9] (.cond (Zt 10) (Zs [Zo 4 (.mv (Zy false))] .ret) .skip)) (.seqa (.reg [Zn 5 0] []) (.blk 0 (.loop IW)) [] [] SX)))
theorem m70:ba Tryz.prog 70 2 A70 V85=true:=by kernel_rfl
def A28:aw:=(Zs [Zo 2 (.box 3 (Zt 0)),Zo 3 (.box 3 (Zt 1)),Zo 4 (.mv (Zy false))] (.seq (Zs [Za 5 0 2,Zv 6 2 5,Za 7 0 3,Zv 8 2 7,Zo 9 (.call 40 [(Zt 6),(Zt 8)]),Zo 10 (.un .not (Zt 9))] (.cond (Zt 10) (Zs [Zo 4 (.mv (Zy false))] .ret) .skip)) (.seq (Zs [Za 11 2 2,Zl 12 11,Za 13 2 3,Zl 14 13,Zo 15 (.call 70 [(Zt 12),(Zt 14)]),Zo 16 (.un .not (Zt 15))] (.cond (Zt 16) (Zs [Zo 4 (.mv (Zy false))] .ret) .skip)) (Zs [Zo 4 (.mv (Zy true))] .ret))))
theorem m28:ba Tryz.prog 28 2 A28 V85=true:=by kernel_rfl
def A17:aw:=(Zs [Zo 2 (.box 5 (Zt 0)),Zo 3 (.box 5 (Zt 1)),Zo 4 (.mv (Zy false))] (.seq (Zs [Za 5 0 2,Zv 6 3 5,Za 7 0 3,Zv 8 3 7,Zo 9 (.call 28 [(Zt 6),(Zt 8)]),Zo 10 (.un .not (Zt 9))] (.cond (Zt 10) (Zs [Zo 4 (.mv (Zy false))] .ret) .skip)) (.seq (Zs [Za 11 3 2,Zl 12 11,Za 13 3 3,Zl 14 13,Zo 15 (.call 70 [(Zt 12),(Zt 14)]),Zo 16 (.un .not (Zt 15))] (.cond (Zt 16) (Zs [Zo 4 (.mv (Zy false))] .ret) .skip)) (.seq (Zs [Za 17 4 2,Zl 18 17,Za 19 4 3,Zl 20 19,Zo 21 (.call 20 [(Zt 18),(Zt 20)]),Zo 22 (.un .not (Zt 21))] (.cond (Zt 22) (Zs [Zo 4 (.mv (Zy false))] .ret) .skip)) (Zs [Zo 4 (.mv (Zy true))] .ret)))))
theorem m17:ba Tryz.prog 17 2 A17 V85=true:=by kernel_rfl
def zl:aw:=(.seq (Zs [Zm 6 0,Zd 7 .gtr 6 0] (.cond (Zt 7) .skip (.exit 0))) (.blk 1 (Zs [Zm 8 0,Zd 9 .rem 8 10,Zo 10 (.bin .add (.c (.i 48)) (Zt 9)),Zo 11 (.conv .u8 (Zt 10)),Zo 12 (.bsl 1 false [(Zt 11)]),Zo 13 (.b2s (Zt 12)),Zm 14 3,Zb 15 .add 13 14,Zm 3 15] (.reg [Zm 16 0,Zd 17 .quo 16 10,Zm 0 17] []))))
def Mr:aw:=(Zs [Zm 18 3,Zo 19 (.bin .add (.c (.z ⟨#[109]⟩)) (Zt 18)),Zm 2 19] .ret)
def A161:aw:=(Zs [Zo 2 (.mv (.c (.z ⟨#[]⟩)))] (.seq (Zs [Zm 4 0,Zd 5 .leq 4 0] (.cond (Zt 5) (Zs [Zo 2 (.mv (.c (.z ⟨#[109,48]⟩)))] .ret) .skip)) (Zs [Zo 3 (.mv (.c (.z ⟨#[]⟩)))] (.seqr (.blk 0 (.loop zl)) [3] [] Mr))))
theorem m161:ba Tryz.prog 161 1 A161 V91=true:=by kernel_rfl
def qj:aw:=(.seq (Zs [Zm 6 5,Zm 7 0,Zk 8 7,Zb 9 .lss 6 8] (.cond (Zt 9) .skip (.exit 0))) (.seq (.blk 1 (Zs [Zm 12 0,Zm 13 5,Zm 14 1,Zo 15 (.call 161 [(Zt 14)]),Zx 16 1 12 13,Zw (.store 1 (Zt 16) (Zt 15))] (.reg [Zm 17 1,Zd 18 .add 17 1,Zm 1 18] []))) (.reg [Zm 10 5,Zd 11 .add 10 1,Zm 5 11] [])))
def wN:aw:=(Zs [Zm 19 1,Zm 4 19] .ret)
def Mz:aw:=(Zs [Zn 4 0] (.seqa (.reg [Zn 5 0] []) (.blk 0 (.loop qj)) [1] [1000000000] wN))
theorem Ws:ba Tryz.prog 102 2 Mz V85=true:=by kernel_rfl
def rv:aw:=(.seq (Zs [Zm 6 5,Zm 7 0,Zk 8 7,Zb 9 .lss 6 8] (.cond (Zt 9) .skip (.exit 0))) (.seq (.blk 1 (Zs [Zm 12 0,Zm 13 5,Zm 14 1,Zx 15 4 12 13,Za 16 0 15,Zw (.store 1 (Zt 16) (Zt 14))] (Zs [Zm 17 1,Zd 18 .add 17 1,Zm 1 18] (Zs [Zm 19 0,Zm 20 5,Zm 21 1,Zx 22 4 19 20,Za 23 1 22,Zw (.store 1 (Zt 23) (Zt 21))] (Zs [Zm 24 1,Zd 25 .add 24 1,Zm 1 25] (Zs [Zm 26 0,Zm 27 5,Zm 28 1,Zx 29 4 26 27,Za 30 2 29,Zw (.store 1 (Zt 30) (Zt 28))] (Zs [Zm 31 1,Zd 32 .add 31 1,Zm 1 32] (Zs [Zm 33 0,Zm 34 5,Zm 35 1,Zx 36 4 33 34,Za 37 3 36,Zw (.store 1 (Zt 37) (Zt 35))] (.reg [Zm 38 1,Zd 39 .add 38 1,Zm 1 39] []))))))))) (.reg [Zm 10 5,Zd 11 .add 10 1,Zm 5 11] [])))
def xm:aw:=(Zs [Zm 40 1,Zm 4 40] .ret)
def Np:aw:=(Zs [Zn 4 0] (.seqa (.reg [Zn 5 0] []) (.blk 0 (.loop rv)) [1] [1000000000] xm))
theorem UY:ba Tryz.prog 103 2 Np V85=true:=by kernel_rfl
def SU:aw:=(Zs [Zo 2 (.box 2 (Zt 0)),Zn 4 0] (Zs [Za 5 0 2,Zl 6 5,Zm 7 1,Zo 8 (.callM 102 [(Zt 6),(Zt 7)] [1000000000]),Zm 1 8] (Zs [Za 9 1 2,Zl 10 9,Zm 11 1,Zo 12 (.callM 103 [(Zt 10),(Zt 11)] [1000000001]),Zm 1 12] (Zs [Zm 13 1,Zm 4 13] .ret))))
theorem Xg:ba Tryz.prog 42 2 SU V85=true:=by kernel_rfl
def tR:aw:=(.seq (Zs [Zm 6 5,Zm 7 0,Zk 8 7,Zb 9 .lss 6 8] (.cond (Zt 9) .skip (.exit 0))) (.seq (.blk 1 (Zs [Zm 12 0,Zm 13 5,Zm 14 1,Zx 15 1 12 13,Zw (.store 1 (Zt 15) (Zt 14))] (.reg [Zm 16 1,Zd 17 .add 16 1,Zm 1 17] []))) (.reg [Zm 10 5,Zd 11 .add 10 1,Zm 5 11] [])))
def AR:aw:=(Zs [Zm 18 1,Zm 4 18] .ret)
def TP:aw:=(Zs [Zn 4 0] (.seqa (.reg [Zn 5 0] []) (.blk 0 (.loop tR)) [1] [1000000000] AR))
theorem WY:ba Tryz.prog 22 2 TP V85=true:=by kernel_rfl
def um:aw:=(.seq (Zs [Zm 6 5,Zm 7 0,Zk 8 7,Zb 9 .lss 6 8] (.cond (Zt 9) .skip (.exit 0))) (.seq (.blk 1 (Zs [Zm 12 0,Zm 13 5,Zm 14 1,Zx 15 5 12 13,Za 16 0 15,Zw (.store 1 (Zt 16) (Zt 14))] (Zs [Zm 17 1,Zd 18 .add 17 1,Zm 1 18] (Zs [Zm 19 0,Zm 20 5,Zm 21 1,Zx 22 5 19 20,Za 23 1 22,Za 24 0 23,Zw (.store 1 (Zt 24) (Zt 21))] (Zs [Zm 25 1,Zd 26 .add 25 1,Zm 1 26] (.seq (.regh [Zm 27 0,Zm 28 5,Zx 29 5 27 28,Za 30 1 29,Za 31 1 30] (.inn 32 5 1 (Zt 31) [(33,(Zt 1))] 34 22 [(Zt 32),(Zt 33)]) [Zm 1 34] []) (Zs [Zm 35 0,Zm 36 5,Zm 37 1,Zx 38 5 35 36,Za 39 3 38,Za 40 0 39,Zw (.store 1 (Zt 40) (Zt 37))] (Zs [Zm 41 1,Zd 42 .add 41 1,Zm 1 42] (Zs [Zm 43 0,Zm 44 5,Zm 45 1,Zx 46 5 43 44,Za 47 3 46,Za 48 1 47,Zw (.store 1 (Zt 48) (Zt 45))] (.reg [Zm 49 1,Zd 50 .add 49 1,Zm 1 50] [])))))))))) (.reg [Zm 10 5,Zd 11 .add 10 1,Zm 5 11] [])))
def BN:aw:=(Zs [Zm 51 1,Zm 4 51] .ret)
def Te:aw:=(Zs [Zn 4 0] (.seqa (.reg [Zn 5 0] []) (.blk 0 (.loop um)) [1] [1000000000] BN))
theorem Xe:ba Tryz.prog 73 2 Te V85=true:=by kernel_rfl
def SG:aw:=(Zs [Zo 2 (.box 3 (Zt 0)),Zn 4 0] (Zs [Za 5 0 2,Zv 6 2 5,Zm 7 1,Zo 8 (.callM 42 [(Zt 6),(Zt 7)] [1000000000,1000000001]),Zm 1 8] (.seq (.regh [Za 9 2 2,Zl 10 9,Zm 11 1] (.har 12 73 [(Zt 10),(Zt 11)] [1000000002]) [Zm 1 12] []) (Zs [Zm 13 1,Zm 4 13] .ret))))
theorem Xi:ba Tryz.prog 29 2 SG V85=true:=by kernel_rfl
def SH:aw:=(Zs [Zo 2 (.box 5 (Zt 0)),Zn 4 0] (.seq (.regh [Za 5 0 2,Zv 6 3 5,Zm 7 1] (.har 8 29 [(Zt 6),(Zt 7)] [1000000000,1000000001,1000000002]) [Zm 1 8] []) (.seq (.regh [Za 9 3 2,Zl 10 9,Zm 11 1] (.har 12 73 [(Zt 10),(Zt 11)] [1000000003]) [Zm 1 12] []) (Zs [Za 13 4 2,Zl 14 13,Zm 15 1,Zo 16 (.callM 22 [(Zt 14),(Zt 15)] [1000000004]),Zm 1 16] (Zs [Zm 17 1,Zm 4 17] .ret)))))
theorem Xq:ba Tryz.prog 21 2 SH V85=true:=by kernel_rfl
def yF:aw:=(.seq (Zs [Zm 6 5,Zm 7 0,Zk 8 7,Zb 9 .lss 6 8] (.cond (Zt 9) .skip (.exit 0))) (.seq (.blk 1 (.seq (.seq (.drw [Zm 12 0,Zm 13 5,Zx 14 1 12 13,Zl 15 14,Zm 16 1,Zo 17 (.call 161 [(Zt 16)]),Zb 18 .neq 15 17] []) (.cond (Zt 18) (Zs [Zn 4 (-1)] .ret) .skip)) (.reg [Zm 19 1,Zd 20 .add 19 1,Zm 1 20] []))) (.reg [Zm 10 5,Zd 11 .add 10 1,Zm 5 11] [])))
def Hv:aw:=(Zs [Zm 21 1,Zm 4 21] .ret)
def A162:aw:=(Zs [Zn 4 0] (.seqa (.reg [Zn 5 0] []) (.blk 0 (.loop yF)) [1] [] Hv))
theorem m162:ba Tryz.prog 162 2 A162 V85=true:=by kernel_rfl
def zg:aw:=(.seq (Zs [Zm 6 5,Zm 7 0,Zk 8 7,Zb 9 .lss 6 8] (.cond (Zt 9) .skip (.exit 0))) (.seq (.blk 1 (.seq (Zs [Zm 12 0,Zm 13 5,Zx 14 4 12 13,Za 15 0 14,Zl 16 15,Zm 17 1,Zb 18 .neq 16 17] (.cond (Zt 18) (Zs [Zn 4 (-1)] .ret) .skip)) (Zs [Zm 19 1,Zd 20 .add 19 1,Zm 1 20] (.seq (Zs [Zm 21 0,Zm 22 5,Zx 23 4 21 22,Za 24 1 23,Zl 25 24,Zm 26 1,Zb 27 .neq 25 26] (.cond (Zt 27) (Zs [Zn 4 (-1)] .ret) .skip)) (Zs [Zm 28 1,Zd 29 .add 28 1,Zm 1 29] (.seq (Zs [Zm 30 0,Zm 31 5,Zx 32 4 30 31,Za 33 2 32,Zl 34 33,Zm 35 1,Zb 36 .neq 34 35] (.cond (Zt 36) (Zs [Zn 4 (-1)] .ret) .skip)) (Zs [Zm 37 1,Zd 38 .add 37 1,Zm 1 38] (.seq (Zs [Zm 39 0,Zm 40 5,Zx 41 4 39 40,Za 42 3 41,Zl 43 42,Zm 44 1,Zb 45 .neq 43 44] (.cond (Zt 45) (Zs [Zn 4 (-1)] .ret) .skip)) (.reg [Zm 46 1,Zd 47 .add 46 1,Zm 1 47] []))))))))) (.reg [Zm 10 5,Zd 11 .add 10 1,Zm 5 11] [])))
def Lg:aw:=(Zs [Zm 48 1,Zm 4 48] .ret)
def A163:aw:=(Zs [Zn 4 0] (.seqa (.reg [Zn 5 0] []) (.blk 0 (.loop zg)) [1] [] Lg))
theorem m163:ba Tryz.prog 163 2 A163 V85=true:=by kernel_rfl
def A104:aw:=(Zs [Zo 2 (.box 2 (Zt 0)),Zn 4 0] (Zs [Za 5 0 2,Zl 6 5,Zm 7 1,Zo 8 (.call 162 [(Zt 6),(Zt 7)]),Zm 1 8] (.seq (Zs [Zm 9 1,Zd 10 .lss 9 0] (.cond (Zt 10) (Zs [Zn 4 (-1)] .ret) .skip)) (Zs [Za 11 1 2,Zl 12 11,Zm 13 1,Zo 14 (.call 163 [(Zt 12),(Zt 13)]),Zm 1 14] (.seq (Zs [Zm 15 1,Zd 16 .lss 15 0] (.cond (Zt 16) (Zs [Zn 4 (-1)] .ret) .skip)) (Zs [Zm 17 1,Zm 4 17] .ret))))))
theorem m104:ba Tryz.prog 104 2 A104 V85=true:=by kernel_rfl
def Oi:aw:=(.seq (Zs [Zm 6 5,Zm 7 0,Zk 8 7,Zb 9 .lss 6 8] (.cond (Zt 9) .skip (.exit 0))) (.seq (.blk 1 (.seq (Zs [Zm 12 0,Zm 13 5,Zx 14 1 12 13,Zl 15 14,Zm 16 1,Zb 17 .neq 15 16] (.cond (Zt 17) (Zs [Zn 4 (-1)] .ret) .skip)) (.reg [Zm 18 1,Zd 19 .add 18 1,Zm 1 19] []))) (.reg [Zm 10 5,Zd 11 .add 10 1,Zm 5 11] [])))
def Tw:aw:=(Zs [Zm 20 1,Zm 4 20] .ret)
def A23:aw:=(Zs [Zn 4 0] (.seqa (.reg [Zn 5 0] []) (.blk 0 (.loop Oi)) [1] [] Tw))
theorem m23:ba Tryz.prog 23 2 A23 V85=true:=by kernel_rfl
def ME:aw:=(.seq (Zs [Zm 6 5,Zm 7 0,Zk 8 7,Zb 9 .lss 6 8] (.cond (Zt 9) .skip (.exit 0))) (.seq (.blk 1 (.seq (Zs [Zm 12 0,Zm 13 5,Zx 14 5 12 13,Za 15 0 14,Zl 16 15,Zm 17 1,Zb 18 .neq 16 17] (.cond (Zt 18) (Zs [Zn 4 (-1)] .ret) .skip)) (Zs [Zm 19 1,Zd 20 .add 19 1,Zm 1 20] (.seq (Zs [Zm 21 0,Zm 22 5,Zx 23 5 21 22,Za 24 1 23,Za 25 0 24,Zl 26 25,Zm 27 1,Zb 28 .neq 26 27] (.cond (Zt 28) (Zs [Zn 4 (-1)] .ret) .skip)) (Zs [Zm 29 1,Zd 30 .add 29 1,Zm 1 30] (Zs [Zm 31 0,Zm 32 5,Zx 33 5 31 32,Za 34 1 33,Za 35 1 34,Zl 36 35,Zm 37 1,Zo 38 (.call 23 [(Zt 36),(Zt 37)]),Zm 1 38] (.seq (Zs [Zm 39 1,Zd 40 .lss 39 0] (.cond (Zt 40) (Zs [Zn 4 (-1)] .ret) .skip)) (.seq (Zs [Zm 41 0,Zm 42 5,Zx 43 5 41 42,Za 44 3 43,Za 45 0 44,Zl 46 45,Zm 47 1,Zb 48 .neq 46 47] (.cond (Zt 48) (Zs [Zn 4 (-1)] .ret) .skip)) (Zs [Zm 49 1,Zd 50 .add 49 1,Zm 1 50] (.seq (Zs [Zm 51 0,Zm 52 5,Zx 53 5 51 52,Za 54 3 53,Za 55 1 54,Zl 56 55,Zm 57 1,Zb 58 .neq 56 57] (.cond (Zt 58) (Zs [Zn 4 (-1)] .ret) .skip)) (.reg [Zm 59 1,Zd 60 .add 59 1,Zm 1 60] []))))))))))) (.reg [Zm 10 5,Zd 11 .add 10 1,Zm 5 11] [])))
def SL:aw:=(Zs [Zm 61 1,Zm 4 61] .ret)
def A78:aw:=(Zs [Zn 4 0] (.seqa (.reg [Zn 5 0] []) (.blk 0 (.loop ME)) [1] [] SL))
theorem m78:ba Tryz.prog 78 2 A78 V85=true:=by kernel_rfl
def A44:aw:=(Zs [Zo 2 (.box 3 (Zt 0)),Zn 4 0] (Zs [Za 5 0 2,Zv 6 2 5,Zm 7 1,Zo 8 (.call 104 [(Zt 6),(Zt 7)]),Zm 1 8] (.seq (Zs [Zm 9 1,Zd 10 .lss 9 0] (.cond (Zt 10) (Zs [Zn 4 (-1)] .ret) .skip)) (Zs [Za 11 2 2,Zl 12 11,Zm 13 1,Zo 14 (.call 78 [(Zt 12),(Zt 13)]),Zm 1 14] (.seq (Zs [Zm 15 1,Zd 16 .lss 15 0] (.cond (Zt 16) (Zs [Zn 4 (-1)] .ret) .skip)) (Zs [Zm 17 1,Zm 4 17] .ret))))))
theorem m44:ba Tryz.prog 44 2 A44 V85=true:=by kernel_rfl
def A30:aw:=(Zs [Zo 2 (.box 5 (Zt 0)),Zn 4 0] (Zs [Za 5 0 2,Zv 6 3 5,Zm 7 1,Zo 8 (.call 44 [(Zt 6),(Zt 7)]),Zm 1 8] (.seq (Zs [Zm 9 1,Zd 10 .lss 9 0] (.cond (Zt 10) (Zs [Zn 4 (-1)] .ret) .skip)) (Zs [Za 11 3 2,Zl 12 11,Zm 13 1,Zo 14 (.call 78 [(Zt 12),(Zt 13)]),Zm 1 14] (.seq (Zs [Zm 15 1,Zd 16 .lss 15 0] (.cond (Zt 16) (Zs [Zn 4 (-1)] .ret) .skip)) (Zs [Za 17 4 2,Zl 18 17,Zm 19 1,Zo 20 (.call 23 [(Zt 18),(Zt 19)]),Zm 1 20] (.seq (Zs [Zm 21 1,Zd 22 .lss 21 0] (.cond (Zt 22) (Zs [Zn 4 (-1)] .ret) .skip)) (Zs [Zm 23 1,Zm 4 23] .ret))))))))
theorem m30:ba Tryz.prog 30 2 A30 V85=true:=by kernel_rfl
def SY:aw:=(.cond (Zt 54) (Zs [Zo 4 (.mv (Zy false))] .ret) .skip)
def TG:aw:=(.cond (Zt 80) (Zs [Zo 4 (.mv (Zy false))] .ret) .skip)
def TN:aw:=(.cond (Zt 113) (Zs [Zo 4 (.mv (Zy false))] .ret) .skip)
def A10:aw:=(Zs [Zo 2 (.box 5 (Zt 0)),Zo 4 (.mv (Zy false))] (Zs [Zn 5 1048576] (Zs [Zv 19 5 2,Zm 20 5,Zo 21 (.call 13 [(Zt 19),(Zt 20)]),Zm 5 21] (.seq (Zs [Zm 22 5,Zd 23 .lss 22 0] (.cond (Zt 23) (Zs [Zo 4 (.mv (Zy true))] .ret) .skip)) (.seqb (.reg [Zv 25 5 2,Zo 26 (.call 15 [(Zt 25)]),Zm 27 1,Zo 28 (.callM 49 [(Zt 26),(Zt 27)] [26,1026,2026,3026,4026]),Zm 24 28,Ze 29 24 0,Ze 30 24 1,Ze 31 24 2,Zo 6 (.alloc (.agg [.lst .u 1 [],.lst .u 4 [],.lst .u 5 [],.lst .u 5 [],.lst .u 1 []])),Zw (.store 5 (Zt 6) (Zt 29)),Zm 7 30,Zm 8 31] []) [1,2,6,7,8] (Zs [Zv 32 5 2,Zo 33 (.call 15 [(Zt 32)]),Zo 9 (.alloc (.agg [.lst .u 1 [],.lst .u 4 [],.lst .u 5 [],.lst .u 5 [],.lst .u 1 []])),Zw (.store 5 (Zt 9) (Zt 33))] (Zs [Zv 35 5 9,Zm 36 1,Zo 37 (.call 50 [(Zt 35),(Zt 36)]),Zm 34 37,Ze 38 34 0,Ze 39 34 1,Ze 40 34 2,Zo 10 (.alloc (.agg [.lst .u 1 [],.lst .u 4 [],.lst .u 5 [],.lst .u 5 [],.lst .u 1 []])),Zw (.store 5 (Zt 10) (Zt 38)),Zm 11 39,Zm 12 40] (.seq (.seqr (.reg [Zv 41 5 10,Zv 42 5 6,Zo 43 (.call 17 [(Zt 41),(Zt 42)]),Zo 44 (.un .not (Zt 43)),Zm 45 44,Zg 46 (.mv (Zt 11)) 45 false,Zg 47 (.mv (Zt 7)) 45 false,Zg 48 (.beq true (Zt 46) (Zt 47)) 45 false,Zo 49 (.pick (Zt 45) (Zy true) (Zt 48)),Zm 50 49,Zg 51 (.mv (Zt 12)) 50 false,Zg 52 (.mv (Zt 8)) 50 false,Zg 53 (.beq true (Zt 51) (Zt 52)) 50 false,Zo 54 (.pick (Zt 50) (Zy true) (Zt 53))] []) [1,2,6,7,8,9,10,11,12,54] [9,10,33,37,1033,1037,2033,2037,3033,3037,4033,4037] SY) (.seq (.seq (.drw [Zv 55 5 9,Zv 56 5 2,Zo 57 (.call 15 [(Zt 56)]),Zo 58 (.call 17 [(Zt 55),(Zt 57)]),Zo 59 (.un .not (Zt 58))] []) (.cond (Zt 59) (Zs [Zo 4 (.mv (Zy false))] .ret) .skip)) (Zs [Zn 13 1] (.seq (.regh [Zv 60 5 9,Zm 61 13] (.har 62 21 [(Zt 60),(Zt 61)] [33,1033,2033,3033,4033]) [Zm 13 62] []) (.seq (.seqr (.reg [Zm 63 13,Zd 64 .lss 63 0,Zm 65 64,Zg 66 (.load 5 true (Zt 10)) 65 false,Zg 67 (.load 5 true (Zt 6)) 65 false,Zg 68 (.call 17 [(Zt 66),(Zt 67)]) 65 false,Zg 69 (.un .not (Zt 68)) 65 false,Zo 70 (.pick (Zt 65) (Zy true) (Zt 69)),Zm 71 70,Zg 72 (.mv (Zt 11)) 71 false,Zg 73 (.mv (Zt 7)) 71 false,Zg 74 (.beq true (Zt 72) (Zt 73)) 71 false,Zo 75 (.pick (Zt 71) (Zy true) (Zt 74)),Zm 76 75,Zg 77 (.mv (Zt 12)) 76 false,Zg 78 (.mv (Zt 8)) 76 false,Zg 79 (.beq true (Zt 77) (Zt 78)) 76 false,Zo 80 (.pick (Zt 76) (Zy true) (Zt 79))] []) [1,2,6,7,8,10,80] [10,37,1037,2037,3037,4037] TG) (Zs [Zn 14 1] (.seq (.regh [Zv 81 5 10,Zm 82 14] (.har 83 21 [(Zt 81),(Zt 82)] [37,1037,2037,3037,4037]) [Zm 14 83] []) (Zs [Zn 15 1] (Zs [Zv 84 5 10,Zm 85 15,Zo 86 (.call 30 [(Zt 84),(Zt 85)]),Zm 15 86] (.seq (Zs [Zm 87 15,Zd 88 .lss 87 0] (.cond (Zt 88) (Zs [Zo 4 (.mv (Zy false))] .ret) .skip)) (.seq (Zs [Zm 89 15,Zm 90 14,Zb 91 .neq 89 90] (.cond (Zt 91) (Zs [Zo 4 (.mv (Zy false))] .ret) .skip)) (Zs [Zv 93 5 2,Zo 94 (.call 15 [(Zt 93)]),Zm 95 1,Zo 96 (.call 50 [(Zt 94),(Zt 95)]),Zm 92 96,Ze 97 92 0,Ze 98 92 1,Ze 99 92 2,Zo 16 (.alloc (.agg [.lst .u 1 [],.lst .u 4 [],.lst .u 5 [],.lst .u 5 [],.lst .u 1 []])),Zw (.store 5 (Zt 16) (Zt 97)),Zm 17 98,Zm 18 99] (.seq (.seqr (.reg [Zv 100 5 16,Zv 101 5 6,Zo 102 (.call 17 [(Zt 100),(Zt 101)]),Zo 103 (.un .not (Zt 102)),Zm 104 103,Zg 105 (.mv (Zt 17)) 104 false,Zg 106 (.mv (Zt 7)) 104 false,Zg 107 (.beq true (Zt 105) (Zt 106)) 104 false,Zo 108 (.pick (Zt 104) (Zy true) (Zt 107)),Zm 109 108,Zg 110 (.mv (Zt 18)) 109 false,Zg 111 (.mv (Zt 8)) 109 false,Zg 112 (.beq true (Zt 110) (Zt 111)) 109 false,Zo 113 (.pick (Zt 109) (Zy true) (Zt 112))] []) [10,14,113] [10,37,1037,2037,3037,4037] TN) (Zs [Zn 15 1] (Zs [Zv 114 5 10,Zm 115 15,Zo 116 (.call 30 [(Zt 114),(Zt 115)]),Zm 15 116] (.seq (Zs [Zm 117 15,Zd 118 .lss 117 0] (.cond (Zt 118) (Zs [Zo 4 (.mv (Zy false))] .ret) .skip)) (.seq (Zs [Zm 119 15,Zm 120 14,Zb 121 .neq 119 120] (.cond (Zt 121) (Zs [Zo 4 (.mv (Zy false))] .ret) .skip)) (Zs [Zo 4 (.mv (Zy true))] .ret)))))))))))))))))))))))))
theorem m10:ba Tryz.prog 10 2 A10 V85=true:=by kernel_rfl
end Vs

