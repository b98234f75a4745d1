/-
  Part of the proof that the law FnRings returns true at every input; no condition beside the row's own.
-/
import Derived.Test.YteilpiddonoikaaGreatXe
import Derived.Test.YteilpiddonoikaaGreatChecked
import Derived.KernelRfl
import Derived.Shelf.SlSortCmp.NoneTotal
set_option linter.defProp false
set_option linter.unusedSimpArgs false
set_option linter.unusedVariables false
namespace Vs
open Go
structure ar where
 A:Int
 B:Int
 Length:Int
 Risk:Int
 deriving DecidableEq
def ah (f:Fl) (x:ar):AV:=.agg [.i x.A,.i x.B,.i x.Length,.i x.Risk]
theorem fB (f:Fl) (x:ar):(ah f x).nrm=ah .o x:=by simp [ah,dQ,hY,gV,dQ]
theorem pe (f:Fl) (xs:List ar):(xs.map (ah f)).map AV.nrm=xs.map (ah .o):=by simp [fB]
theorem ea (f:Fl) (x:ar):(ah f x).als=ah f.als x:=by simp [ah,dX,hG,iq,dQ]
theorem px (f:Fl) (xs:List ar):(xs.map (ah f)).map AV.als=xs.map (ah f.als):=by simp [ea]
theorem pi (f:Fl):AV.als ∘ ah f=ah f.als:=by funext x; simp [ea]
theorem dZ (f:Fl) (x:ar):(ah f x).fix=ah f.fix x:=by simp [ah,eX,gm,gp,dQ]
theorem jP (f:Fl) (xs:List ar):(xs.map (ah f)).map AV.fix=xs.map (ah f.fix):=by simp [dZ]
theorem ma (x:ar):(ah .o x).fz=true:=by simp [ah,AV.i,AV.b,AV.z,ix,dw,fh,dA,cU,fd,fm,fg,fq,du,fe,dB,iw,dz,fj,dv,da,fl,eZ,fk]
theorem dY (xs:List ar):fzL (xs.map (ah .o))=true:=lD ma xs
theorem mi (x:ar):(ah .u x).ouB=true:=by simp [ah,AV.i,AV.b,AV.z,ix,dw,fh,dA,cU,fd,fm,fg,fq,du,fe,dB,iw,dz,fj,dv,da,fl,eZ,fk]
theorem dV (xs:List ar):db (xs.map (ah .u))=true:=lF mi xs
structure ae where
 Nodes:List ByteArray
 Fibers:List ar
def aH (f:Fl) (x:ae):AV:=.agg [.lst f 1 (x.Nodes.map AV.z),.lst f 4 (x.Fibers.map (ah f))]
theorem jf (f:Fl) (x:ae):(aH f x).nrm=aH .o x:=by simp [aH,dQ,hY,gV,fB,fJ,ln]
theorem mq (f:Fl) (xs:List ae):(xs.map (aH f)).map AV.nrm=xs.map (aH .o):=by simp [jf]
theorem fZ (f:Fl) (x:ae):(aH f x).als=aH f.als x:=by simp [aH,dX,hG,iq,ea,fK,lx]
theorem mw (f:Fl) (xs:List ae):(xs.map (aH f)).map AV.als=xs.map (aH f.als):=by simp [fZ]
theorem my (f:Fl):AV.als ∘ aH f=aH f.als:=by funext x; simp [fZ]
theorem fW (f:Fl) (x:ae):(aH f x).fix=aH f.fix x:=by simp [aH,eX,gm,gp,dZ,eH,jw]
theorem iy (f:Fl) (xs:List ae):(xs.map (aH f)).map AV.fix=xs.map (aH f.fix):=by simp [fW]
theorem jV (x:ae):(aH .o x).fz=true:=by simp [aH,AV.i,AV.b,AV.z,ix,dw,fh,dA,cU,fd,fm,fg,fq,du,fe,dB,iw,dz,fj,dv,da,fl,eZ,fk,dY,dV]
theorem nW (xs:List ae):fzL (xs.map (aH .o))=true:=lD jV xs
theorem jU (x:ae):(aH .u x).ouB=true:=by simp [aH,AV.i,AV.b,AV.z,ix,dw,fh,dA,cU,fd,fm,fg,fq,du,fe,dB,iw,dz,fj,dv,da,fl,eZ,fk,dY,dV]
theorem oM (xs:List ae):db (xs.map (aH .u))=true:=lF jU xs
structure ax where
 code:List Int
 atF:Int
 seed:Int
 deriving DecidableEq
def aO (f:Fl) (x:ax):AV:=.agg [.lst f 1 (x.code.map AV.u8),.i x.atF,.sc (.int .u64 x.seed)]
theorem kY (f:Fl) (x:ax):(aO f x).nrm=aO .o x:=by simp [aO,dQ,hY,gV,fJ]
theorem pr (f:Fl) (xs:List ax):(xs.map (aO f)).map AV.nrm=xs.map (aO .o):=by simp [kY]
theorem gZ (f:Fl) (x:ax):(aO f x).als=aO f.als x:=by simp [aO,dX,hG,iq,fK]
theorem pC (f:Fl) (xs:List ax):(xs.map (aO f)).map AV.als=xs.map (aO f.als):=by simp [gZ]
theorem pq (f:Fl):AV.als ∘ aO f=aO f.als:=by funext x; simp [gZ]
theorem hJ (f:Fl) (x:ax):(aO f x).fix=aO f.fix x:=by simp [aO,eX,gm,gp,eH]
theorem jN (f:Fl) (xs:List ax):(xs.map (aO f)).map AV.fix=xs.map (aO f.fix):=by simp [hJ]
theorem mh (x:ax):(aO .o x).fz=true:=by simp [aO,AV.i,AV.b,AV.z,ix,dw,fh,dA,cU,fd,fm,fg,fq,du,fe,dB,iw,dz,fj,dv,da,fl,eZ,fk]
theorem rT (xs:List ax):fzL (xs.map (aO .o))=true:=lD mh xs
theorem mg (x:ax):(aO .u x).ouB=true:=by simp [aO,AV.i,AV.b,AV.z,ix,dw,fh,dA,cU,fd,fm,fg,fq,du,fe,dB,iw,dz,fj,dv,da,fl,eZ,fk]
theorem rG (xs:List ax):db (xs.map (aO .u))=true:=lF mg xs
def aV (f:Fl) (xs:List Int):AV:=.lst f 1 (xs.map AV.i)
theorem ky (f:Fl) (x:List Int):(aV f x).nrm=aV .o x:=by simp [aV,dQ,hY,gV,fJ]
theorem AJ (f:Fl) (xs:List (List Int)):(xs.map (aV f)).map AV.nrm=xs.map (aV .o):=by simp [ky]
theorem kv (f:Fl) (x:List Int):(aV f x).als=aV f.als x:=by simp [aV,dX,hG,iq,fK]
theorem Cr (f:Fl) (xs:List (List Int)):(xs.map (aV f)).map AV.als=xs.map (aV f.als):=by simp [kv]
theorem BD (f:Fl):AV.als ∘ aV f=aV f.als:=by funext x; simp [kv]
theorem lg (f:Fl) (x:List Int):(aV f x).fix=aV f.fix x:=by simp [aV,eX,gm,gp,eH]
theorem pO (f:Fl) (xs:List (List Int)):(xs.map (aV f)).map AV.fix=xs.map (aV f.fix):=by simp [lg]
theorem xF (x:List Int):(aV .o x).fz=true:=by simp [aV,AV.i,AV.b,AV.z,ix,dw,fh,dA,cU,fd,fm,fg,fq,du,fe,dB,iw,dz,fj,dv,da,fl,eZ,fk]
theorem mW (xs:List (List Int)):fzL (xs.map (aV .o))=true:=lD xF xs
theorem yJ (x:List Int):(aV .u x).ouB=true:=by simp [aV,AV.i,AV.b,AV.z,ix,dw,fh,dA,cU,fd,fm,fg,fq,du,fe,dB,iw,dz,fj,dv,da,fl,eZ,fk]
theorem ol (xs:List (List Int)):db (xs.map (aV .u))=true:=lF yJ xs
structure bd where
 n:ae
 list:List (List Int)
def aB (f:Fl) (x:bd):AV:=.agg [.lst f 1 (x.n.Nodes.map AV.z),.lst f 4 (x.n.Fibers.map (ah f)),.lst f 1 (x.list.map (aV f))]
theorem gy (f:Fl) (x:bd):(aB f x).nrm=aB .o x:=by simp [aB,dQ,hY,gV,ky,fB,fJ,ln]
theorem kw (f:Fl) (xs:List bd):(xs.map (aB f)).map AV.nrm=xs.map (aB .o):=by simp [gy]
theorem eD (f:Fl) (x:bd):(aB f x).als=aB f.als x:=by simp [aB,dX,hG,iq,kv,ea,fK,lx]
theorem kH (f:Fl) (xs:List bd):(xs.map (aB f)).map AV.als=xs.map (aB f.als):=by simp [eD]
theorem kC (f:Fl):AV.als ∘ aB f=aB f.als:=by funext x; simp [eD]
theorem eC (f:Fl) (x:bd):(aB f x).fix=aB f.fix x:=by simp [aB,eX,gm,gp,lg,dZ,eH,jw]
theorem gn (f:Fl) (xs:List bd):(xs.map (aB f)).map AV.fix=xs.map (aB f.fix):=by simp [eC]
theorem iB (x:bd):(aB .o x).fz=true:=by simp [aB,AV.i,AV.b,AV.z,ix,dw,fh,dA,cU,fd,fm,fg,fq,du,fe,dB,iw,dz,fj,dv,da,fl,eZ,fk,dY,dV,mW,ol]
theorem lB (xs:List bd):fzL (xs.map (aB .o))=true:=lD iB xs
theorem iz (x:bd):(aB .u x).ouB=true:=by simp [aB,AV.i,AV.b,AV.z,ix,dw,fh,dA,cU,fd,fm,fg,fq,du,fe,dB,iw,dz,fj,dv,da,fl,eZ,fk,dY,dV,mW,ol]
theorem lJ (xs:List bd):db (xs.map (aB .u))=true:=lF iz xs
structure au where
 Start:Int
 Fibers:List Int
 deriving DecidableEq
def aw (f:Fl) (x:au):AV:=.agg [.i x.Start,.lst f 1 (x.Fibers.map AV.i)]
theorem hU (f:Fl) (x:au):(aw f x).nrm=aw .o x:=by simp [aw,dQ,hY,gV,fJ]
theorem pp (f:Fl) (xs:List au):(xs.map (aw f)).map AV.nrm=xs.map (aw .o):=by simp [hU]
theorem gX (f:Fl) (x:au):(aw f x).als=aw f.als x:=by simp [aw,dX,hG,iq,fK]
theorem pA (f:Fl) (xs:List au):(xs.map (aw f)).map AV.als=xs.map (aw f.als):=by simp [gX]
theorem oZ (f:Fl):AV.als ∘ aw f=aw f.als:=by funext x; simp [gX]
theorem ik (f:Fl) (x:au):(aw f x).fix=aw f.fix x:=by simp [aw,eX,gm,gp,eH]
theorem jL (f:Fl) (xs:List au):(xs.map (aw f)).map AV.fix=xs.map (aw f.fix):=by simp [ik]
theorem lR (x:au):(aw .o x).fz=true:=by simp [aw,AV.i,AV.b,AV.z,ix,dw,fh,dA,cU,fd,fm,fg,fq,du,fe,dB,iw,dz,fj,dv,da,fl,eZ,fk]
theorem qD (xs:List au):fzL (xs.map (aw .o))=true:=lD lR xs
theorem mb (x:au):(aw .u x).ouB=true:=by simp [aw,AV.i,AV.b,AV.z,ix,dw,fh,dA,cU,fd,fm,fg,fq,du,fe,dB,iw,dz,fj,dv,da,fl,eZ,fk]
theorem qW (xs:List au):db (xs.map (aw .u))=true:=lF mb xs
def eJ {H:World→Prop}:Tok H aw 2:=⟨(⟨0,[]⟩:au),#[.int .i64 0,.slice none 0 0],rfl,by simp [Value.oneCell'],fun W S B _=>(cN (v:=.agg #[.int .i64 0,.slice none 0 0]) (a:=aw .s (⟨0,[]⟩:au)) rfl W S B).1⟩
theorem tr {H:World→Prop}:bb (eJ (H:=H))=.agg [.i 0,.sc (.slice none 0 0)]:=rfl
theorem uC {H:World→Prop}:(eJ (H:=H)).Free:=fun W S B=>(cN (v:=.agg #[.int .i64 0,.slice none 0 0]) (a:=aw .u (⟨0,[]⟩:au)) rfl W S B).1
theorem Bl (x:au):(aw .u x).shs=aw .s x:=by simp [aw,AV.shs,kJ,sZ AV.i AV.i fun _=>rfl]
def LC (codeZ0:List Int):Option Bool :=
 some (decide (65536 < (codeZ0.length:Int)))
def zW (aaZ0:ax):Option (Int×ax) :=
 (cond (decide (((aaZ0).atF) < (((aaZ0).code).length:Int))) ((bJ ((aaZ0).code) ((aaZ0).atF)).bind fun yZ2=>some (IntKind.wrap .i64 yZ2)) (some 0):Option Int).bind fun oZ3=>cond (decide ((IntKind.wrap .i64 (((aaZ0).atF)+1))≤(((aaZ0).code).length:Int))) (some (oZ3,(⟨(aaZ0).code,IntKind.wrap .i64 (((aaZ0).atF)+1),IntKind.wrap .u64 ((IntKind.wrap .u64 ((IntKind.wrap .u64 (((aaZ0).seed) * 6364136223846793005))+(IntKind.wrap .u64 oZ3)))+897897)⟩:ax))) (some (IntKind.wrap .i64 (bits .and .u64 (Int.fdiv (IntKind.wrap .u64 ((IntKind.wrap .u64 ((IntKind.wrap .u64 (((aaZ0).seed) * 6364136223846793005))+(IntKind.wrap .u64 oZ3)))+897897)) (2 ^ (min (Int.toNat 40) (IntKind.bits .u64)))) 255),(⟨(aaZ0).code,IntKind.wrap .i64 (((aaZ0).atF)+1),IntKind.wrap .u64 ((IntKind.wrap .u64 ((IntKind.wrap .u64 (((aaZ0).seed) * 6364136223846793005))+(IntKind.wrap .u64 oZ3)))+897897)⟩:ax)))
def M_a (aaZ0:Int) (abZ0:ax):Option (Int×ax) :=
 cond (decide (aaZ0≤1)) (some (0,abZ0)) ((zW abZ0).bind fun rZ2=>cond (decide (200 < aaZ0)) ((zW rZ2.2).bind fun rZ4=>(grd (aaZ0 ≠ 0)).bind fun uZ5=>some (Int.tmod (IntKind.wrap .i64 ((IntKind.wrap .i64 (rZ2.1 * 256))+rZ4.1)) aaZ0,rZ4.2)) ((grd (aaZ0 ≠ 0)).bind fun uZ6=>some (Int.tmod rZ2.1 aaZ0,rZ2.2)))
def CI (aaZ0:Int) (abZ0:ax):Option (Bool×ax) :=
 (M_a aaZ0 abZ0).bind fun rZ1=>some (rZ1.1==0,rZ1.2)
def BX (aZ0:Int) (bZ0:Int):Option Int :=
 cond (decide (aZ0 < bZ0)) (some aZ0) (some bZ0)
def rQ (aZ0:Int) (bZ0:Int):Option Int :=
 cond (decide (bZ0 < aZ0)) (some aZ0) (some bZ0)
def sF (aaZ0:ax) (abZ0:List Int):Option (Int×ax×List Int) :=
 (M_a (abZ0.length:Int) aaZ0).bind fun rZ1=>(grd (0≤rZ1.1∧rZ1.1 < (abZ0.length:Int))).bind fun kZ2=>(abZ0[(Int.toNat rZ1.1)]?).bind fun yZ3=>some (yZ3,rZ1.2,abZ0)
def uf (fZ0:ar) (gZ0:ar):Option Int :=
 cond (fZ0.A != gZ0.A) (some (IntKind.wrap .i64 (fZ0.A - gZ0.A))) (cond (fZ0.B != gZ0.B) (some (IntKind.wrap .i64 (fZ0.B - gZ0.B))) (cond (fZ0.Length != gZ0.Length) (some (IntKind.wrap .i64 (fZ0.Length - gZ0.Length))) (some (IntKind.wrap .i64 (fZ0.Risk - gZ0.Risk)))))
def M_p (listZ0:List ar) (fZ0:ar) (sZ1:Int):Option (Int ⊕ Int) :=
 cond (decide (sZ1 < (listZ0.length:Int))) ((bJ listZ0 sZ1).bind fun yZ3=>(uf yZ3 fZ0).bind fun rZ4=>cond (decide (rZ4≤0)) (some (.inl (IntKind.wrap .i64 (sZ1+1)))) (some (.inr sZ1))) (some (.inr sZ1))
def CG (listZ0:List ar) (fZ0:ar):Option (List ar) :=
 (aZ (M_p listZ0 fZ0) N0 0).bind fun oZ6=>(slT listZ0 oZ6).bind fun lZ7=>(grd (lZ7.length * 32≤140737488355328)).bind fun uZ8=>bnd ([fZ0]) fun lZ9=>(grd ((lZ7.length+1) * 32≤140737488355328)).bind fun uZ12=>bnd (lZ7++lZ9) fun lZ13=>(slF listZ0 oZ6).bind fun lZ16=>(grd ((lZ13.length+lZ16.length) * 32≤140737488355328)).bind fun uZ17=>bnd (lZ13++lZ16) fun lZ18=>some lZ18
def M_j (rZ1:Int×ax) (sZ6:Int×List ar×ax):Option ((Int×List ar×ax) ⊕ (List ar×ax)) :=
 cond (decide (sZ6.1 < (IntKind.wrap .i64 (2+rZ1.1)))) ((grd ((IntKind.wrap .i64 (2+rZ1.1)) ≠ 0)).bind fun uZ8=>(cond (sZ6.1==(Int.tmod (IntKind.wrap .i64 (sZ6.1+1)) (IntKind.wrap .i64 (2+rZ1.1)))) (some (true,sZ6.2.2)) ((CI 10 sZ6.2.2).bind fun rZ10=>some (rZ10.1,rZ10.2)):Option (Bool×ax)).bind fun oZ11=>cond (oZ11.1) (some (.inl (IntKind.wrap .i64 (sZ6.1+1),sZ6.2.1,oZ11.2))) ((BX sZ6.1 (Int.tmod (IntKind.wrap .i64 (sZ6.1+1)) (IntKind.wrap .i64 (2+rZ1.1)))).bind fun rZ13=>(rQ sZ6.1 (Int.tmod (IntKind.wrap .i64 (sZ6.1+1)) (IntKind.wrap .i64 (2+rZ1.1)))).bind fun rZ14=>(M_a 8 oZ11.2).bind fun rZ15=>bnd ([0,0,0,1,2]) fun lZ16=>(sF rZ15.2 lZ16).bind fun rZ19=>(CG sZ6.2.1 (⟨rZ13,rZ14,IntKind.wrap .i64 (100 * (IntKind.wrap .i64 (1+rZ15.1))),rZ19.1⟩:ar)).bind fun rZ20=>some (.inl (IntKind.wrap .i64 (sZ6.1+1),rZ20,rZ19.2.1)))) (some (.inr (sZ6.2.1,sZ6.2.2)))
def M_k (rZ1:Int×ax) (sZ23:Int×List ar×ax):Option ((Int×List ar×ax) ⊕ (List ar×ax)) :=
 cond (decide (0 < sZ23.1)) ((M_a (IntKind.wrap .i64 (2+rZ1.1)) sZ23.2.2).bind fun rZ25=>(M_a (IntKind.wrap .i64 (2+rZ1.1)) rZ25.2).bind fun rZ26=>cond (rZ25.1 != rZ26.1) ((BX rZ25.1 rZ26.1).bind fun rZ28=>(rQ rZ25.1 rZ26.1).bind fun rZ29=>(M_a 8 rZ26.2).bind fun rZ30=>bnd ([0,0,0,1,2]) fun lZ31=>(sF rZ30.2 lZ31).bind fun rZ34=>(CG sZ23.2.1 (⟨rZ28,rZ29,IntKind.wrap .i64 (100 * (IntKind.wrap .i64 (1+rZ30.1))),rZ34.1⟩:ar)).bind fun rZ35=>some (.inl (IntKind.wrap .i64 (sZ23.1 - 1),rZ35,rZ34.2.1))) (some (.inl (IntKind.wrap .i64 (sZ23.1 - 1),sZ23.2.1,rZ26.2)))) (some (.inr (sZ23.2.1,sZ23.2.2)))
def CN (aaZ0:ax):Option (Nat×Nat×List ByteArray×List ar×ax) :=
 (M_a 5 aaZ0).bind fun rZ1=>bnd ([(⟨#[97]⟩:ByteArray),(⟨#[98]⟩:ByteArray),(⟨#[99]⟩:ByteArray),(⟨#[100]⟩:ByteArray),(⟨#[101]⟩:ByteArray),(⟨#[102]⟩:ByteArray)]) fun lZ2=>(grd (True∧0≤(IntKind.wrap .i64 (2+rZ1.1))∧True∧Int.toNat (IntKind.wrap .i64 (2+rZ1.1))≤6)).bind fun uZ5=>(aZ (M_j rZ1) N0 (0,[],rZ1.2)).bind fun oZ21=>(M_a 4 oZ21.2).bind fun rZ22=>(aZ (M_k rZ1) N0 (rZ22.1,oZ21.1,rZ22.2)).bind fun oZ36=>some (0,(Int.toNat (IntKind.wrap .i64 (2+rZ1.1))),lZ2,oZ36.1,oZ36.2)
def M_h (xZ0:Int) (aZ0:Int) (bZ0:Int):Option Bool :=
 cond (decide (aZ0≤xZ0)) (some (decide (xZ0≤bZ0))) (some false)
def Gs (bZ0:Int):Option Bool :=
 cond (decide (97≤bZ0)) (cond (decide (bZ0≤122)) (some true) (cond (decide (48≤bZ0)) (some (decide (bZ0≤57))) (some false))) (cond (decide (48≤bZ0)) (some (decide (bZ0≤57))) (some false))
def Ce (sZ0:ByteArray) (sZ7:Int):Option (Int ⊕ (Unit ⊕ Bool)) :=
 cond (decide (sZ7 < (sZ0.size:Int))) ((ru sZ0 sZ7).bind fun yZ9=>(Gs (yZ9.toNat:Int)).bind fun rZ10=>cond (!rZ10) (some (.inr (.inr false))) (some (.inl (IntKind.wrap .i64 (sZ7+1))))) (some (.inr (.inl ())))
def IL (sZ0:ByteArray):Option Bool :=
 ((M_h (sZ0.size:Int) 1 8).bind fun rZ1=>cond (!rZ1) (some true) ((ru sZ0 0).bind fun yZ3=>cond (decide ((yZ3.toNat:Int) < 97)) (some true) (some (decide (122 < (yZ3.toNat:Int))))):Option Bool).bind fun oZ5=>cond (oZ5) (some false) ((aZ (Ce sZ0) N0 0).bind fun oZ12=>(match oZ12 with | .inl vZ13=>some true | .inr xZ14=>some xZ14))
def CX (listZ0:List ByteArray) (nameZ0:ByteArray) (sZ1:Int):Option (Int ⊕ (Unit ⊕ Int)) :=
 cond (decide (sZ1 < (listZ0.length:Int))) ((bJ listZ0 sZ1).bind fun yZ3=>cond (yZ3.toList==nameZ0.toList) (some (.inr (.inr sZ1))) (some (.inl (IntKind.wrap .i64 (sZ1+1))))) (some (.inr (.inl ())))
def Hu (listZ0:List ByteArray) (nameZ0:ByteArray):Option Int :=
 (aZ (CX listZ0 nameZ0) N0 0).bind fun oZ5=>(match oZ5 with | .inl vZ6=>some (-1) | .inr xZ7=>some xZ7)
def Eh (fZ0:ar) (nodesZ0:Int):Option Bool :=
 (M_h fZ0.A 0 (IntKind.wrap .i64 (nodesZ0 - 1))).bind fun rZ1=>cond (rZ1) ((M_h fZ0.B (IntKind.wrap .i64 (fZ0.A+1)) (IntKind.wrap .i64 (nodesZ0 - 1))).bind fun rZ3=>cond (rZ3) ((M_h fZ0.Length 1 5000).bind fun rZ5=>cond (rZ5) ((M_h fZ0.Risk 0 9).bind fun rZ7=>some rZ7) (some false)) (some false)) (some false)
def Ar (nZ0:ae) (sZ5:Int):Option (Int ⊕ (Unit ⊕ Bool)) :=
 cond (decide (sZ5 < (nZ0.Nodes.length:Int))) (((bJ nZ0.Nodes sZ5).bind fun yZ7=>(IL yZ7).bind fun rZ8=>cond (!rZ8) (some true) ((Hu nZ0.Nodes yZ7).bind fun rZ10=>some (rZ10 != sZ5)):Option Bool).bind fun oZ11=>cond (oZ11) (some (.inr (.inr false))) (some (.inl (IntKind.wrap .i64 (sZ5+1))))) (some (.inr (.inl ())))
def Ae (nZ0:ae) (sZ16:Int):Option (Int ⊕ (Unit ⊕ Bool)) :=
 cond (decide (sZ16 < (nZ0.Fibers.length:Int))) (((bJ nZ0.Fibers sZ16).bind fun yZ18=>(Eh yZ18 (nZ0.Nodes.length:Int)).bind fun rZ19=>cond (!rZ19) (some true) (cond (decide (0 < sZ16)) ((bJ nZ0.Fibers (IntKind.wrap .i64 (sZ16 - 1))).bind fun yZ22=>(uf yZ22 yZ18).bind fun rZ23=>some (decide (0 < rZ23))) (some false)):Option Bool).bind fun oZ24=>cond (oZ24) (some (.inr (.inr false))) (some (.inl (IntKind.wrap .i64 (sZ16+1))))) (some (.inr (.inl ())))
def vF (nZ0:ae):Option Bool :=
 ((M_h (nZ0.Nodes.length:Int) 2 8).bind fun rZ1=>cond (!rZ1) (some true) (some (decide (14 < (nZ0.Fibers.length:Int)))):Option Bool).bind fun oZ3=>cond (oZ3) (some false) ((aZ (Ar nZ0) N0 0).bind fun oZ13=>(match oZ13 with | .inl vZ14=>(aZ (Ae nZ0) N0 0).bind fun oZ26=>(match oZ26 with | .inl vZ27=>some true | .inr xZ28=>some xZ28) | .inr xZ15=>some xZ15))
def qO (nZ0:ae) (fiberZ0:Int) (nodeZ0:Int):Option Int :=
 (bJ nZ0.Fibers fiberZ0).bind fun yZ1=>cond (nodeZ0==yZ1.A) (some yZ1.B) (cond (nodeZ0==yZ1.B) (some yZ1.A) (some (-1)))
def Cw (lZ0:List Int) (nZ0:Int) (sZ1:Int):Option (Int ⊕ (Unit ⊕ Bool)) :=
 cond (decide (sZ1 < (lZ0.length:Int))) ((bJ lZ0 sZ1).bind fun yZ3=>cond (yZ3==nZ0) (some (.inr (.inr true))) (some (.inl (IntKind.wrap .i64 (sZ1+1))))) (some (.inr (.inl ())))
def M_b (lZ0:List Int) (nZ0:Int):Option Bool :=
 (aZ (Cw lZ0 nZ0) N0 0).bind fun oZ5=>(match oZ5 with | .inl vZ6=>some false | .inr xZ7=>some xZ7)
def rE (lZ0:List Int):Option (List Int) :=
 (grd (lZ0.length * 8≤140737488355328)).bind fun uZ1=>some lZ0
def M_x (ringZ0:List Int) (sZ1:Int×List Int):Option ((Int×List Int) ⊕ (List Int)) :=
 cond (decide (0≤sZ1.1)) ((bJ ringZ0 sZ1.1).bind fun yZ3=>bnd ([yZ3]) fun lZ4=>(grd ((sZ1.2.length+1) * 8≤140737488355328)).bind fun uZ7=>bnd (sZ1.2++lZ4) fun lZ8=>some (.inl (IntKind.wrap .i64 (sZ1.1 - 1),lZ8))) (some (.inr sZ1.2))
def sG (ringZ0:List Int):Option (List Int) :=
 (aZ (M_x ringZ0) N0 (IntKind.wrap .i64 ((ringZ0.length:Int) - 1),[])).bind fun oZ11=>some oZ11
def Bz (aZ0:List Int) (bZ0:List Int) (sZ2:Int):Option (Int ⊕ (Unit ⊕ Bool)) :=
 cond (decide (sZ2 < (aZ0.length:Int))) ((bJ aZ0 sZ2).bind fun yZ4=>(bJ bZ0 sZ2).bind fun yZ5=>cond (yZ4 != yZ5) (some (.inr (.inr (decide (yZ4 < yZ5))))) (some (.inl (IntKind.wrap .i64 (sZ2+1))))) (some (.inr (.inl ())))
def pu (aZ0:List Int) (bZ0:List Int):Option Bool :=
 cond ((aZ0.length:Int) != (bZ0.length:Int)) (some (decide ((aZ0.length:Int) < (bZ0.length:Int)))) ((aZ (Bz aZ0 bZ0) N0 0).bind fun oZ7=>(match oZ7 with | .inl vZ8=>some false | .inr xZ9=>some xZ9))
def M_y (aaZ0:List (List Int)) (abZ0:List Int) (sZ1:Int):Option (Int ⊕ Int) :=
 cond (decide (sZ1 < (aaZ0.length:Int))) ((grd (0≤sZ1∧sZ1 < (aaZ0.length:Int))).bind fun kZ3=>(aaZ0[(Int.toNat sZ1)]?).bind fun yZ4=>(pu yZ4 abZ0).bind fun rZ5=>cond (rZ5) (some (.inl (IntKind.wrap .i64 (sZ1+1)))) (some (.inr sZ1))) (some (.inr sZ1))
def Gq (aaZ0:List (List Int)) (abZ0:List Int):Option (List (List Int)×List (List Int)) :=
 (aZ (M_y aaZ0 abZ0) N0 0).bind fun oZ7=>(grd (True∧0≤oZ7∧True∧Int.toNat oZ7≤aaZ0.length)).bind fun uZ8=>bnd (dP aaZ0 0 (Int.toNat oZ7)) fun lZ9=>(grd (lZ9.length * 24≤140737488355328)).bind fun uZ11=>bnd ([abZ0]) fun lZ12=>(grd ((lZ9.length+1) * 24≤140737488355328)).bind fun uZ15=>bnd (lZ9++lZ12) fun lZ16=>(grd (0≤oZ7∧True∧Int.toNat oZ7≤aaZ0.length∧True)).bind fun uZ19=>bnd (dP aaZ0 (Int.toNat oZ7) (aaZ0.length - (Int.toNat oZ7))) fun lZ20=>(grd ((lZ16.length+lZ20.length) * 24≤140737488355328)).bind fun uZ22=>bnd (lZ16++lZ20) fun lZ23=>some (lZ23,aaZ0)
def M_d (aaZ0:Int) (abZ0:Int) (afZ0:List Int) (agZ0:List Int) (rcZ0:Int→Int→List ByteArray→List ar→List (List Int)→List Int→List Int→Option (List ByteArray×List ar×List (List Int)×List Int×List Int)) (sZ1:Int×List ByteArray×List ar×List (List Int)):Option ((Int×List ByteArray×List ar×List (List Int)) ⊕ (List ByteArray×List ar×List (List Int))) :=
 (cond (decide (sZ1.1 < (sZ1.2.2.1.length:Int))) (some (decide ((sZ1.2.2.2.length:Int)≤60))) (some false):Option Bool).bind fun oZ3=>cond (oZ3) ((qO (⟨sZ1.2.1,sZ1.2.2.1⟩:ae) sZ1.1 abZ0).bind fun rZ5=>(cond (decide (rZ5 < aaZ0)) (some true) ((M_b afZ0 sZ1.1).bind fun rZ7=>some rZ7):Option Bool).bind fun oZ8=>cond (oZ8) (some (.inl (IntKind.wrap .i64 (sZ1.1+1),sZ1.2.1,sZ1.2.2.1,sZ1.2.2.2))) ((rE afZ0).bind fun rZ10=>bnd ([sZ1.1]) fun lZ11=>(grd ((rZ10.length+1) * 8≤140737488355328)).bind fun uZ14=>bnd (rZ10++lZ11) fun lZ15=>cond (rZ5==aaZ0) (((cond (decide (1 < (lZ15.length:Int))) ((sG lZ15).bind fun rZ20=>(pu rZ20 lZ15).bind fun rZ21=>some (!rZ21)) (some false):Option Bool).bind fun oZ22=>cond (oZ22) ((Gq sZ1.2.2.2 lZ15).bind fun rZ24=>some rZ24.1) (some sZ1.2.2.2):Option (List (List Int))).bind fun oZ25=>some (.inl (IntKind.wrap .i64 (sZ1.1+1),sZ1.2.1,sZ1.2.2.1,oZ25))) ((M_b agZ0 rZ5).bind fun rZ26=>cond (!rZ26) ((rE agZ0).bind fun rZ28=>bnd ([rZ5]) fun lZ29=>(grd ((rZ28.length+1) * 8≤140737488355328)).bind fun uZ32=>bnd (rZ28++lZ29) fun lZ33=>(rcZ0 aaZ0 rZ5 sZ1.2.1 sZ1.2.2.1 sZ1.2.2.2 lZ15 lZ33).bind fun rZ36=>some (.inl (IntKind.wrap .i64 (sZ1.1+1),rZ36.1,rZ36.2.1,rZ36.2.2.1))) (some (.inl (IntKind.wrap .i64 (sZ1.1+1),sZ1.2.1,sZ1.2.2.1,sZ1.2.2.2)))))) (some (.inr (sZ1.2.1,sZ1.2.2.1,sZ1.2.2.2)))
def vR (rcZ0:Int→Int→List ByteArray→List ar→List (List Int)→List Int→List Int→Option (List ByteArray×List ar×List (List Int)×List Int×List Int)) (aaZ0:Int) (abZ0:Int) (acZ0:List ByteArray) (adZ0:List ar) (aeZ0:List (List Int)) (afZ0:List Int) (agZ0:List Int):Option (List ByteArray×List ar×List (List Int)×List Int×List Int) :=
 (aZ (M_d aaZ0 abZ0 afZ0 agZ0 rcZ0) N0 (0,acZ0,adZ0,aeZ0)).bind fun oZ37=>some (oZ37.1,oZ37.2.1,oZ37.2.2,afZ0,agZ0)
def GX:Nat→Int→Int→List ByteArray→List ar→List (List Int)→List Int→List Int→Option (List ByteArray×List ar×List (List Int)×List Int×List Int)
 | 0,_,_,_,_,_,_,_=>none
 | n+1,aaZ0,abZ0,acZ0,adZ0,aeZ0,afZ0,agZ0=>vR (GX n) aaZ0 abZ0 acZ0 adZ0 aeZ0 afZ0 agZ0
def Es (aaZ0:ax) (abZ0:List ByteArray):Option (ByteArray×ax×List ByteArray) :=
 (M_a (abZ0.length:Int) aaZ0).bind fun rZ1=>(grd (0≤rZ1.1∧rZ1.1 < (abZ0.length:Int))).bind fun kZ2=>(abZ0[(Int.toNat rZ1.1)]?).bind fun yZ3=>some (yZ3,rZ1.2,abZ0)
def yX (sZ41:List ar×ax):Option ((List ar×ax) ⊕ (List ar×ax)) :=
 (M_a 2 sZ41.2).bind fun rZ42=>cond (decide ((sZ41.1.length:Int) < (IntKind.wrap .i64 (14+rZ42.1)))) ((grd (0≤(IntKind.wrap .i64 ((sZ41.1.length:Int) - 1))∧(IntKind.wrap .i64 ((sZ41.1.length:Int) - 1)) < (sZ41.1.length:Int))).bind fun kZ44=>(sZ41.1[(Int.toNat (IntKind.wrap .i64 ((sZ41.1.length:Int) - 1)))]?).bind fun yZ45=>bnd ([yZ45]) fun lZ46=>(grd ((sZ41.1.length+1) * 32≤140737488355328)).bind fun uZ49=>bnd (sZ41.1++lZ46) fun lZ50=>some (.inl (lZ50,rZ42.2))) (some (.inr (sZ41.1,rZ42.2)))
def Fo (aaZ0:ax):Option (Nat×Nat×List ByteArray×List ar×ax) :=
 (CN aaZ0).bind fun rZ1=>cond ((rZ1.2.2.2.1.length:Int)==0) (some (rZ1.1,rZ1.2.1,rZ1.2.2.1,rZ1.2.2.2.1,rZ1.2.2.2.2)) ((M_a (rZ1.2.2.2.1.length:Int) rZ1.2.2.2.2).bind fun rZ3=>(grd (0≤rZ3.1∧rZ3.1 < (rZ1.2.2.2.1.length:Int))).bind fun kZ4=>(rZ1.2.2.2.1[(Int.toNat rZ3.1)]?).bind fun yZ5=>((M_a 24 rZ3.2).bind fun rZ6=>cond (rZ6.1==0) (bnd ([(⟨#[98]⟩:ByteArray),(⟨#[]⟩:ByteArray),(⟨#[65]⟩:ByteArray),(⟨#[97,98,99,100,101,102,103,104]⟩:ByteArray),(⟨#[97,98,99,100,101,102,103,104,105]⟩:ByteArray),(⟨#[120,49]⟩:ByteArray)]) fun lZ8=>(Es rZ6.2 lZ8).bind fun rZ11=>(grd (0≤0∧0 < (rZ1.2.1:Int))).bind fun kZ12=>(rZ1.2.2.1[(rZ1.1+(Int.toNat 0))]?).bind fun yZ13=>bnd (rZ1.2.2.1.set (rZ1.1+(Int.toNat 0)) rZ11.1) fun lZ14=>some (.inl (rZ1.1,rZ1.2.1,yZ5,lZ14,rZ1.2.2.2.1,rZ11.2.1))) (cond (rZ6.1==1) ((M_a 8 rZ6.2).bind fun rZ17=>some (.inl (rZ1.1,rZ1.2.1,(⟨IntKind.wrap .i64 (rZ17.1 - 1),yZ5.B,yZ5.Length,yZ5.Risk⟩:ar),rZ1.2.2.1,rZ1.2.2.2.1,rZ17.2))) (cond (rZ6.1==2) ((M_a 10 rZ6.2).bind fun rZ19=>some (.inl (rZ1.1,rZ1.2.1,(⟨yZ5.A,IntKind.wrap .i64 (rZ19.1 - 1),yZ5.Length,yZ5.Risk⟩:ar),rZ1.2.2.1,rZ1.2.2.2.1,rZ19.2))) (cond (rZ6.1==3) (bnd ([0,1,5000,5001]) fun lZ21=>(sF rZ6.2 lZ21).bind fun rZ24=>some (.inl (rZ1.1,rZ1.2.1,(⟨yZ5.A,yZ5.B,rZ24.1,yZ5.Risk⟩:ar),rZ1.2.2.1,rZ1.2.2.2.1,rZ24.2.1))) (cond (rZ6.1==4) (bnd ([(-1),9,10]) fun lZ26=>(sF rZ6.2 lZ26).bind fun rZ29=>some (.inl (rZ1.1,rZ1.2.1,(⟨yZ5.A,yZ5.B,yZ5.Length,rZ29.1⟩:ar),rZ1.2.2.1,rZ1.2.2.2.1,rZ29.2.1))) (cond (rZ6.1==5) ((grd (0≤0∧0 < (rZ1.2.2.2.1.length:Int))).bind fun kZ31=>(rZ1.2.2.2.1[(Int.toNat 0)]?).bind fun yZ32=>bnd ([yZ32]) fun lZ33=>(grd ((rZ1.2.2.2.1.length+1) * 32≤140737488355328)).bind fun uZ36=>bnd (rZ1.2.2.2.1++lZ33) fun lZ37=>some (.inl (rZ1.1,rZ1.2.1,yZ5,rZ1.2.2.1,lZ37,rZ6.2))) (cond (rZ6.1==6) ((aZ (yX) N0 (rZ1.2.2.2.1,rZ6.2)).bind fun oZ53=>some (.inr (rZ1.1,rZ1.2.1,rZ1.2.2.1,oZ53.1,oZ53.2))) (cond (rZ6.1==7) (bnd ([(⟨#[112]⟩:ByteArray),(⟨#[113]⟩:ByteArray),(⟨#[114]⟩:ByteArray),(⟨#[115]⟩:ByteArray)]) fun lZ55=>bnd (dP rZ1.2.2.1 rZ1.1 rZ1.2.1) fun lZ58=>(grd ((rZ1.2.1+4) * 16≤140737488355328)).bind fun uZ60=>bnd (lZ58++lZ55) fun lZ61=>some (.inl (0,(rZ1.2.1+4),yZ5,lZ61,rZ1.2.2.2.1,rZ6.2))) (some (.inl (rZ1.1,rZ1.2.1,yZ5,rZ1.2.2.1,rZ1.2.2.2.1,rZ6.2)))))))))):Option ((Nat×Nat×ar×List ByteArray×List ar×ax) ⊕ (Nat×Nat×List ByteArray×List ar×ax))).bind fun oZ63=>(match oZ63 with | .inl vZ64=>(grd (0≤rZ3.1∧rZ3.1 < (vZ64.2.2.2.2.1.length:Int))).bind fun kZ66=>(vZ64.2.2.2.2.1[(Int.toNat rZ3.1)]?).bind fun yZ67=>bnd (vZ64.2.2.2.2.1.set (Int.toNat rZ3.1) vZ64.2.2.1) fun lZ68=>some (vZ64.1,vZ64.2.1,vZ64.2.2.2.1,lZ68,vZ64.2.2.2.2.2) | .inr xZ65=>some xZ65))
def GD (aaZ0:ae) (sZ1:Int×List ByteArray×List ar×List (List Int)):Option ((Int×List ByteArray×List ar×List (List Int)) ⊕ (List ByteArray×List ar×List (List Int))) :=
 cond (decide (sZ1.1 < (((aaZ0).Nodes).length:Int))) (bnd ([sZ1.1]) fun lZ3=>(GX N0 sZ1.1 sZ1.1 sZ1.2.1 sZ1.2.2.1 sZ1.2.2.2 ([]) lZ3).bind fun rZ6=>some (.inl (IntKind.wrap .i64 (sZ1.1+1),rZ6.1,rZ6.2.1,rZ6.2.2.1))) (some (.inr (sZ1.2.1,sZ1.2.2.1,sZ1.2.2.2)))
def GF (aaZ0:ae):Option (List (List Int)) :=
 (aZ (GD aaZ0) N0 (0,(aaZ0).Nodes,(aaZ0).Fibers,[])).bind fun oZ7=>some oZ7.2.2
def zF (aaZ0:ae):Option (Bool×List (List Int)) :=
 (vF aaZ0).bind fun rZ1=>cond (!rZ1) (some (false,[])) ((GF aaZ0).bind fun rZ3=>cond (decide (60 < (rZ3.length:Int))) (some (false,[])) (some (true,rZ3)))
def Iy (aaZ0:ax):Option (ae×List Int×ax) :=
 (CN aaZ0).bind fun rZ1=>bnd (dP rZ1.2.2.1 rZ1.1 rZ1.2.1) fun lZ2=>(zF (⟨lZ2,rZ1.2.2.2.1⟩:ae)).bind fun rZ4=>((cond (rZ4.1) (some (decide (0 < (rZ4.2.length:Int)))) (some false):Option Bool).bind fun oZ6=>cond (oZ6) ((M_a (rZ4.2.length:Int) rZ1.2.2.2.2).bind fun rZ8=>(grd (0≤rZ8.1∧rZ8.1 < (rZ4.2.length:Int))).bind fun kZ9=>(rZ4.2[(Int.toNat rZ8.1)]?).bind fun yZ10=>(rE yZ10).bind fun rZ11=>some (rZ11,rZ8.2)) (some ([],rZ1.2.2.2.2)):Option (List Int×ax)).bind fun oZ12=>(M_a 20 oZ12.2).bind fun rZ13=>cond (rZ13.1==0) ((sG oZ12.1).bind fun rZ15=>some ((⟨lZ2,rZ1.2.2.2.1⟩:ae),rZ15,rZ13.2)) (cond (rZ13.1==1) (cond (decide (0 < (oZ12.1.length:Int))) ((grd (0≤1∧True∧Int.toNat 1≤oZ12.1.length∧True)).bind fun uZ18=>bnd (dP oZ12.1 (Int.toNat 1) (oZ12.1.length - (Int.toNat 1))) fun lZ19=>(rE lZ19).bind fun rZ21=>(grd (0≤0∧0 < (oZ12.1.length:Int))).bind fun kZ22=>(oZ12.1[(Int.toNat 0)]?).bind fun yZ23=>bnd ([yZ23]) fun lZ24=>(grd ((rZ21.length+1) * 8≤140737488355328)).bind fun uZ27=>bnd (rZ21++lZ24) fun lZ28=>some ((⟨lZ2,rZ1.2.2.2.1⟩:ae),lZ28,rZ13.2)) (some ((⟨lZ2,rZ1.2.2.2.1⟩:ae),oZ12.1,rZ13.2))) (cond (rZ13.1==2) ((M_a 16 rZ13.2).bind fun rZ32=>bnd ([IntKind.wrap .i64 (rZ32.1 - 1)]) fun lZ33=>(grd ((oZ12.1.length+1) * 8≤140737488355328)).bind fun uZ36=>bnd (oZ12.1++lZ33) fun lZ37=>some ((⟨lZ2,rZ1.2.2.2.1⟩:ae),lZ37,rZ32.2)) (cond (rZ13.1==3) ((Fo rZ13.2).bind fun rZ41=>bnd (dP rZ41.2.2.1 rZ41.1 rZ41.2.1) fun lZ42=>some ((⟨lZ42,rZ41.2.2.2.1⟩:ae),oZ12.1,rZ41.2.2.2.2)) (some ((⟨lZ2,rZ1.2.2.2.1⟩:ae),oZ12.1,rZ13.2)))))
def Dk (aaZ0:List Int):Option (ae×Int×List Int) :=
 (Iy (⟨aaZ0,0,0⟩:ax)).bind fun rZ1=>(rQ (((rZ1.1).Fibers).length:Int) 1).bind fun rZ2=>(M_a (IntKind.wrap .i64 (rZ2+1)) rZ1.2.2).bind fun rZ3=>(M_a 12 rZ3.2).bind fun rZ4=>(grd (11 ≠ 0)).bind fun uZ5=>some (rZ1.1,IntKind.wrap .i64 (rZ3.1 - (IntKind.wrap .i64 (Int.tdiv rZ4.1 11))),rZ1.2.1)
def M_q (nZ0:Int) (lowZ0:Int) (highZ0:Int):Option Bool :=
 cond (decide (lowZ0≤nZ0)) (some (decide (nZ0≤highZ0))) (some false)
def M_r (sZ0:ByteArray) (sZ1:Int):Option (Int ⊕ (Unit ⊕ Bool)) :=
 cond (decide (sZ1 < (sZ0.size:Int))) (((ru sZ0 sZ1).bind fun yZ3=>cond (decide (97≤(yZ3.toNat:Int))) (cond (decide (48≤(yZ3.toNat:Int))) (some (decide ((yZ3.toNat:Int)≤122),decide ((yZ3.toNat:Int)≤57))) (some (decide ((yZ3.toNat:Int)≤122),false))) (cond (decide (48≤(yZ3.toNat:Int))) (some (false,decide ((yZ3.toNat:Int)≤57))) (some (false,false))):Option (Bool×Bool)).bind fun oZ7=>cond (!oZ7.1) (cond (!oZ7.2) (some (.inr (.inr false))) (cond (sZ1==0) (some (.inr (.inr false))) (some (.inl (IntKind.wrap .i64 (sZ1+1)))))) (some (.inl (IntKind.wrap .i64 (sZ1+1))))) (some (.inr (.inl ())))
def Hl (sZ0:ByteArray):Option Bool :=
 (aZ (M_r sZ0) N0 0).bind fun oZ11=>(match oZ11 with | .inl vZ12=>(M_q (sZ0.size:Int) 1 8).bind fun rZ14=>some rZ14 | .inr xZ13=>some xZ13)
def zy (sZ0:List ByteArray) (vZ0:ByteArray) (sZ1:Int):Option (Int ⊕ (Unit ⊕ Int)) :=
 cond (decide (sZ1 < (sZ0.length:Int))) ((bJ sZ0 sZ1).bind fun yZ3=>cond (vZ0.toList==yZ3.toList) (some (.inr (.inr sZ1))) (some (.inl (IntKind.wrap .i64 (sZ1+1))))) (some (.inr (.inl ())))
def LK (sZ0:List ByteArray) (vZ0:ByteArray):Option Int :=
 (aZ (zy sZ0 vZ0) N0 0).bind fun oZ5=>(match oZ5 with | .inl vZ6=>some (-1) | .inr xZ7=>some xZ7)
def HN (sZ0:List ByteArray) (vZ0:ByteArray):Option Bool :=
 (LK sZ0 vZ0).bind fun rZ1=>some (decide (0≤rZ1))
def sM (xZ0:Int):Option Bool :=
 some (xZ0 != xZ0)
def M_s (xZ0:Int) (yZ0:Int):Option Int :=
 (sM xZ0).bind fun rZ1=>(sM yZ0).bind fun rZ2=>cond (rZ1) (cond (rZ2) (some 0) (some (-1))) (cond (rZ2) (some 1) (cond (decide (xZ0 < yZ0)) (some (-1)) (cond (decide (yZ0 < xZ0)) (some 1) (some 0))))
def M_e (valsZ0:List Int) (sZ1:Int):Option (Int ⊕ (Unit ⊕ Int)) :=
 cond (decide (sZ1 < (valsZ0.length:Int))) ((bJ valsZ0 sZ1).bind fun yZ3=>cond (yZ3 != 0) (some (.inr (.inr yZ3))) (some (.inl (IntKind.wrap .i64 (sZ1+1))))) (some (.inr (.inl ())))
def pn (valsZ0:List Int):Option Int :=
 (aZ (M_e valsZ0) N0 0).bind fun oZ5=>(match oZ5 with | .inl vZ6=>some 0 | .inr xZ7=>some xZ7)
def Gf (aZ0:ar) (bZ0:ar):Option Int :=
 (M_s aZ0.A bZ0.A).bind fun rZ1=>(M_s aZ0.B bZ0.B).bind fun rZ2=>(M_s aZ0.Length bZ0.Length).bind fun rZ3=>(M_s aZ0.Risk bZ0.Risk).bind fun rZ4=>bnd ([rZ1,rZ2,rZ3,rZ4]) fun lZ5=>(pn lZ5).bind fun rZ9=>some rZ9
def CW (nZ0:ae) (sZ1:Int):Option (Int ⊕ (Unit ⊕ Bool)) :=
 cond (decide (sZ1 < (nZ0.Nodes.length:Int))) ((bJ nZ0.Nodes sZ1).bind fun yZ3=>(Hl yZ3).bind fun rZ4=>cond (!rZ4) (some (.inr (.inr false))) ((slT nZ0.Nodes sZ1).bind fun lZ6=>(HN lZ6 yZ3).bind fun rZ7=>cond (rZ7) (some (.inr (.inr false))) (some (.inl (IntKind.wrap .i64 (sZ1+1)))))) (some (.inr (.inl ())))
def M_t (nZ0:ae) (sZ12:Int):Option (Int ⊕ (Unit ⊕ Bool)) :=
 cond (decide (sZ12 < (nZ0.Fibers.length:Int))) ((bJ nZ0.Fibers sZ12).bind fun yZ14=>cond (decide (yZ14.A < 0)) (some (.inr (.inr false))) (cond (decide (yZ14.B≤yZ14.A)) (some (.inr (.inr false))) (cond (decide ((nZ0.Nodes.length:Int)≤yZ14.B)) (some (.inr (.inr false))) ((M_q yZ14.Length 1 5000).bind fun rZ18=>cond (!rZ18) (some (.inr (.inr false))) ((M_q yZ14.Risk 0 9).bind fun rZ20=>cond (!rZ20) (some (.inr (.inr false))) (cond (decide (0 < sZ12)) ((bJ nZ0.Fibers (IntKind.wrap .i64 (sZ12 - 1))).bind fun yZ23=>(Gf yZ23 yZ14).bind fun rZ24=>cond (decide (0 < rZ24)) (some (.inr (.inr false))) (some (.inl (IntKind.wrap .i64 (sZ12+1))))) (some (.inl (IntKind.wrap .i64 (sZ12+1)))))))))) (some (.inr (.inl ())))
def vD (nZ0:ae):Option Bool :=
 (aZ (CW nZ0) N0 0).bind fun oZ9=>(match oZ9 with | .inl vZ10=>(aZ (M_t nZ0) N0 0).bind fun oZ26=>(match oZ26 with | .inl vZ27=>(M_q (nZ0.Nodes.length:Int) 2 8).bind fun rZ29=>cond (rZ29) (some (decide ((nZ0.Fibers.length:Int)≤14))) (some false) | .inr xZ28=>some xZ28) | .inr xZ11=>some xZ11)
def M_l (sZ0:List Int) (vZ0:Int) (sZ1:Int):Option (Int ⊕ (Unit ⊕ Int)) :=
 cond (decide (sZ1 < (sZ0.length:Int))) ((bJ sZ0 sZ1).bind fun yZ3=>cond (vZ0==yZ3) (some (.inr (.inr sZ1))) (some (.inl (IntKind.wrap .i64 (sZ1+1))))) (some (.inr (.inl ())))
def tD (sZ0:List Int) (vZ0:Int):Option Int :=
 (aZ (M_l sZ0 vZ0) N0 0).bind fun oZ5=>(match oZ5 with | .inl vZ6=>some (-1) | .inr xZ7=>some xZ7)
def M_m (sZ0:List Int) (vZ0:Int):Option Bool :=
 (tD sZ0 vZ0).bind fun rZ1=>some (decide (0≤rZ1))
def pg (fZ0:ar) (nodeZ0:Int):Option Int :=
 cond (nodeZ0==fZ0.A) (some fZ0.B) (cond (nodeZ0==fZ0.B) (some fZ0.A) (some (-1)))
def M_u (nZ0:ae) (ringZ0:List Int) (sZ1:Int×Int×List Int):Option ((Int×Int×List Int) ⊕ ((Int×List Int) ⊕ (List Int×Int×Bool))) :=
 cond (decide (sZ1.2.1 < (ringZ0.length:Int))) ((bJ ringZ0 sZ1.2.1).bind fun yZ3=>((M_q yZ3 0 (IntKind.wrap .i64 ((nZ0.Fibers.length:Int) - 1))).bind fun rZ4=>cond (!rZ4) (some true) ((slT ringZ0 sZ1.2.1).bind fun lZ6=>(M_m lZ6 yZ3).bind fun rZ7=>some rZ7):Option Bool).bind fun oZ8=>cond (oZ8) (some (.inr (.inr (([]),0,false)))) (bnd ([sZ1.1]) fun lZ10=>(grd ((sZ1.2.2.length+1) * 8≤140737488355328)).bind fun uZ13=>bnd (sZ1.2.2++lZ10) fun lZ14=>(bJ nZ0.Fibers yZ3).bind fun yZ17=>(pg yZ17 sZ1.1).bind fun rZ18=>cond (decide (rZ18 < 0)) (some (.inr (.inr (([]),0,false)))) (some (.inl (rZ18,IntKind.wrap .i64 (sZ1.2.1+1),lZ14))))) (some (.inr (.inl (sZ1.1,sZ1.2.2))))
def Ja (nZ0:ae) (startZ0:Int) (ringZ0:List Int):Option (List Int×Int×Bool) :=
 (aZ (M_u nZ0 ringZ0) N0 (startZ0,0,[])).bind fun oZ20=>(match oZ20 with | .inl vZ21=>some (vZ21.2,vZ21.1,true) | .inr xZ22=>some xZ22)
def AH (xZ0:List Int) (sZ3:Int×Int):Option ((Int×Int) ⊕ Int) :=
 cond (decide (sZ3.2 < (xZ0.length:Int))) ((bJ xZ0 sZ3.2).bind fun yZ5=>some (.inl ((if yZ5 < sZ3.1 then yZ5 else sZ3.1),IntKind.wrap .i64 (sZ3.2+1)))) (some (.inr sZ3.1))
def JE (xZ0:List Int):Option Int :=
 cond (decide ((xZ0.length:Int) < 1)) (none) ((bJ xZ0 0).bind fun yZ2=>(aZ (AH xZ0) N0 (yZ2,1)).bind fun oZ6=>some oZ6)
def Az (sZ0:List Int):Option (List Int) :=
 cond (sZ0.isEmpty) (amb (some ([])) ((grd (sZ0.length * 8≤140737488355328)).bind fun uZ2=>some sZ0)) ((grd (sZ0.length * 8≤140737488355328)).bind fun uZ3=>some sZ0)
def M_z (sZ1:Int×Int×List Int):Option ((Int×Int×List Int) ⊕ (List Int)) :=
 cond (decide (sZ1.1 < sZ1.2.1)) ((grd (0≤sZ1.2.1∧sZ1.2.1 < (sZ1.2.2.length:Int))).bind fun kZ3=>(sZ1.2.2[(Int.toNat sZ1.2.1)]?).bind fun yZ4=>(grd (0≤sZ1.1∧sZ1.1 < (sZ1.2.2.length:Int))).bind fun kZ5=>(sZ1.2.2[(Int.toNat sZ1.1)]?).bind fun yZ6=>bnd (sZ1.2.2.set (Int.toNat sZ1.1) yZ4) fun lZ7=>(lZ7[(Int.toNat sZ1.2.1)]?).bind fun yZ9=>bnd (lZ7.set (Int.toNat sZ1.2.1) yZ6) fun lZ10=>some (.inl (IntKind.wrap .i64 (sZ1.1+1),IntKind.wrap .i64 (sZ1.2.1 - 1),lZ10))) (some (.inr sZ1.2.2))
def Hh (aaZ0:List Int):Option (List Int) :=
 (aZ (M_z) N0 (0,IntKind.wrap .i64 ((aaZ0.length:Int) - 1),aaZ0)).bind fun oZ12=>some oZ12
def M_g (s1Z0:List Int) (s2Z0:List Int) (sZ1:Int):Option (Int ⊕ (Unit ⊕ Int)) :=
 cond (decide (sZ1 < (s1Z0.length:Int))) ((bJ s1Z0 sZ1).bind fun yZ3=>cond (decide ((s2Z0.length:Int)≤sZ1)) (some (.inr (.inr 1))) ((bJ s2Z0 sZ1).bind fun yZ5=>(M_s yZ3 yZ5).bind fun rZ6=>cond (rZ6 != 0) (some (.inr (.inr rZ6))) (some (.inl (IntKind.wrap .i64 (sZ1+1)))))) (some (.inr (.inl ())))
def oy (s1Z0:List Int) (s2Z0:List Int):Option Int :=
 (aZ (M_g s1Z0 s2Z0) N0 0).bind fun oZ8=>(match oZ8 with | .inl vZ9=>cond (decide ((s1Z0.length:Int) < (s2Z0.length:Int))) (some (-1)) (some 0) | .inr xZ10=>some xZ10)
def vN (rZ8:List Int×Int×Bool) (sZ14:Int):Option (Int ⊕ (Unit ⊕ (List Int×Bool))) :=
 cond (decide (sZ14 < (rZ8.1.length:Int))) ((grd (0≤sZ14∧sZ14 < (rZ8.1.length:Int))).bind fun kZ16=>(rZ8.1[(Int.toNat sZ14)]?).bind fun yZ17=>(grd (True∧0≤sZ14∧True∧Int.toNat sZ14≤rZ8.1.length)).bind fun uZ18=>bnd (dP rZ8.1 0 (Int.toNat sZ14)) fun lZ19=>(M_m lZ19 yZ17).bind fun rZ21=>cond (rZ21) (some (.inr (.inr (([]),false)))) (some (.inl (IntKind.wrap .i64 (sZ14+1))))) (some (.inr (.inl ())))
def qF (nZ0:ae) (ringZ0:List Int):Option (List Int×Bool) :=
 (cond (decide ((ringZ0.length:Int) < 2)) (some true) ((bJ ringZ0 0).bind fun yZ2=>(M_q yZ2 0 (IntKind.wrap .i64 ((nZ0.Fibers.length:Int) - 1))).bind fun rZ3=>some (!rZ3)):Option Bool).bind fun oZ4=>cond (oZ4) (some (([]),false)) ((bJ ringZ0 0).bind fun yZ6=>(bJ nZ0.Fibers yZ6).bind fun yZ7=>(Ja nZ0 yZ7.A ringZ0).bind fun rZ8=>(cond (!rZ8.2.2) (some true) (cond (rZ8.2.1 != yZ7.A) (some true) ((JE rZ8.1).bind fun rZ11=>some (rZ11 != yZ7.A))):Option Bool).bind fun oZ12=>cond (oZ12) (some (([]),false)) ((aZ (vN rZ8) N0 0).bind fun oZ23=>(match oZ23 with | .inl vZ24=>(Az ringZ0).bind fun rZ26=>(Hh rZ26).bind fun rZ27=>bnd (dP rZ27 0 rZ26.length) fun lZ28=>(oy ringZ0 lZ28).bind fun rZ30=>some (rZ8.1,(decide (rZ30 < 0))) | .inr xZ25=>some xZ25)))
def Df (nZ0:ae) (ringZ0:List Int):Option (List Int×Bool) :=
 (vD nZ0).bind fun rZ1=>cond (!rZ1) (some (([]),false)) ((qF nZ0 ringZ0).bind fun rZ3=>cond (!rZ3.2) (some (([]),false)) (some (rZ3.1,true)))
def uG (nZ0:ae) (ringZ0:List Int):Option Bool :=
 (Df nZ0 ringZ0).bind fun rZ1=>some rZ1.2
def jH (aaZ0:au) (abZ0:Int):Option (Bool×Int) :=
 (M_m ((aaZ0).Fibers) abZ0).bind fun rZ1=>some (rZ1,abZ0)
def Ee {τq:Type} (vwZ0:τq→au) (tzZ0:τq) (aaZ0:List τq) (sZ1:Int×Int):Option ((Int×Int) ⊕ (Int ⊕ (Int×List τq×Int))) :=
 cond (decide (sZ1.1 < (aaZ0.length:Int))) ((grd (0≤sZ1.1∧sZ1.1 < (aaZ0.length:Int))).bind fun kZ3=>(aaZ0[(Int.toNat sZ1.1)]?).bind fun yZ4=>(jH (vwZ0 yZ4) sZ1.2).bind fun rZ5=>cond (rZ5.1) (some (.inr (.inr (sZ1.1,aaZ0,rZ5.2)))) (some (.inl (IntKind.wrap .i64 (sZ1.1+1),rZ5.2)))) (some (.inr (.inl sZ1.2)))
def vd {τq:Type} (vwZ0:τq→au) (tzZ0:τq) (aaZ0:List τq) (abZ0:Int):Option (Int×List τq×Int) :=
 (aZ (Ee vwZ0 tzZ0 aaZ0) N0 (0,abZ0)).bind fun oZ7=>(match oZ7 with | .inl vZ8=>some ((-1),aaZ0,vZ8) | .inr xZ9=>some xZ9)
def ET {τq:Type} (vwZ0:τq→au) (tzZ0:τq) (aaZ0:List τq) (sZ3:Int×Int×List τq×Int):Option ((Int×Int×List τq×Int) ⊕ (Int×List τq×Int)) :=
 cond (decide (sZ3.2.1 < (aaZ0.length:Int))) ((grd (0≤sZ3.2.1∧sZ3.2.1 < (aaZ0.length:Int))).bind fun kZ5=>(sZ3.2.2.1[(Int.toNat sZ3.2.1)]?).bind fun yZ6=>(jH (vwZ0 yZ6) sZ3.2.2.2).bind fun rZ7=>cond (!rZ7.1) ((grd (0≤sZ3.1∧sZ3.1 < (aaZ0.length:Int))).bind fun kZ9=>(sZ3.2.2.1[(Int.toNat sZ3.1)]?).bind fun yZ10=>bnd (sZ3.2.2.1.set (Int.toNat sZ3.1) yZ6) fun lZ11=>some (.inl (IntKind.wrap .i64 (sZ3.1+1),IntKind.wrap .i64 (sZ3.2.1+1),lZ11,rZ7.2))) (some (.inl (sZ3.1,IntKind.wrap .i64 (sZ3.2.1+1),sZ3.2.2.1,rZ7.2)))) (some (.inr (sZ3.1,sZ3.2.2.1,sZ3.2.2.2)))
def pc {τq:Type} (vwZ0:τq→au) (tzZ0:τq) (aaZ0:List τq) (abZ0:Int):Option (Nat×Nat×List τq×Int) :=
 (vd vwZ0 tzZ0 aaZ0 abZ0).bind fun rZ1=>cond (rZ1.1==(-1)) (some (0,aaZ0.length,rZ1.2.1,rZ1.2.2)) ((aZ (ET vwZ0 tzZ0 aaZ0) N0 (rZ1.1,IntKind.wrap .i64 (rZ1.1+1),rZ1.2.1,rZ1.2.2)).bind fun oZ13=>(grd (0≤oZ13.1∧True∧Int.toNat oZ13.1≤aaZ0.length∧True)).bind fun uZ14=>bnd (cG oZ13.2.1 (Int.toNat oZ13.1) (List.replicate (aaZ0.length - (Int.toNat oZ13.1)) tzZ0)) fun lZ15=>(grd (True∧0≤oZ13.1∧True∧Int.toNat oZ13.1≤aaZ0.length)).bind fun uZ18=>some (0,(Int.toNat oZ13.1),lZ15,oZ13.2.2))
def zc (nZ0:ae) (rZ0:au) (sZ1:Int×Int):Option ((Int×Int) ⊕ Int) :=
 cond (decide (sZ1.2 < (rZ0.Fibers.length:Int))) ((bJ rZ0.Fibers sZ1.2).bind fun yZ3=>(bJ nZ0.Fibers yZ3).bind fun yZ4=>some (.inl (IntKind.wrap .i64 (sZ1.1+yZ4.Length),IntKind.wrap .i64 (sZ1.2+1)))) (some (.inr sZ1.1))
def xe (nZ0:ae) (rZ0:au):Option Int :=
 (aZ (zc nZ0 rZ0) N0 (0,0)).bind fun oZ5=>some oZ5
def HE (nZ0:ae) (aZ0:au) (bZ0:au):Option Int :=
 (xe nZ0 aZ0).bind fun rZ1=>(xe nZ0 bZ0).bind fun rZ2=>(M_s rZ1 rZ2).bind fun rZ3=>(M_s (aZ0.Fibers.length:Int) (bZ0.Fibers.length:Int)).bind fun rZ4=>(oy aZ0.Fibers bZ0.Fibers).bind fun rZ5=>(M_s aZ0.Start bZ0.Start).bind fun rZ6=>bnd ([rZ3,rZ4,rZ5,rZ6]) fun lZ7=>(pn lZ7).bind fun rZ11=>some rZ11
def ws (aZ0:au) (bZ0:au) (p2Z0:ae):Option Int :=
 (HE p2Z0 aZ0 bZ0).bind fun rZ1=>some rZ1
def vz (ringZ0:List Int) (rZ9:Int) (sZ13:Int×List Int):Option ((Int×List Int) ⊕ (List Int)) :=
 cond (sZ13.1 != rZ9) ((bJ ringZ0 sZ13.1).bind fun yZ15=>bnd ([yZ15]) fun lZ16=>(grd ((sZ13.2.length+1) * 8≤140737488355328)).bind fun uZ19=>bnd (sZ13.2++lZ16) fun lZ20=>(grd ((ringZ0.length:Int) ≠ 0)).bind fun uZ23=>some (.inl (Int.tmod (IntKind.wrap .i64 (sZ13.1+1)) (ringZ0.length:Int),lZ20))) (some (.inr sZ13.2))
def vT (ringZ0:List Int) (rZ9:Int) (sZ25:Int×List Int):Option ((Int×List Int) ⊕ (List Int)) :=
 cond (sZ25.1 != rZ9) ((grd ((ringZ0.length:Int) ≠ 0)).bind fun uZ27=>(bJ ringZ0 (Int.tmod (IntKind.wrap .i64 ((IntKind.wrap .i64 (sZ25.1+(ringZ0.length:Int))) - 1)) (ringZ0.length:Int))).bind fun yZ28=>bnd ([yZ28]) fun lZ29=>(grd ((sZ25.2.length+1) * 8≤140737488355328)).bind fun uZ32=>bnd (sZ25.2++lZ29) fun lZ33=>(grd ((ringZ0.length:Int) ≠ 0)).bind fun uZ36=>some (.inl (Int.tmod (IntKind.wrap .i64 ((IntKind.wrap .i64 (sZ25.1+(ringZ0.length:Int))) - 1)) (ringZ0.length:Int),lZ33))) (some (.inr sZ25.2))
def EP (nZ0:ae) (ringZ0:List Int) (fiberZ0:Int):Option (List au×Bool) :=
 ((uG nZ0 ringZ0).bind fun rZ1=>cond (!rZ1) (some true) ((M_q fiberZ0 0 (IntKind.wrap .i64 ((nZ0.Fibers.length:Int) - 1))).bind fun rZ3=>some (!rZ3)):Option Bool).bind fun oZ4=>cond (oZ4) (some (([]),false)) ((qF nZ0 ringZ0).bind fun rZ6=>(bJ nZ0.Fibers fiberZ0).bind fun yZ7=>(tD rZ6.1 yZ7.A).bind fun rZ8=>(tD rZ6.1 yZ7.B).bind fun rZ9=>(cond (decide (rZ8 < 0)) (some true) (some (decide (rZ9 < 0))):Option Bool).bind fun oZ11=>cond (oZ11) (some (([]),false)) ((aZ (vz ringZ0 rZ9) N0 (rZ8,[])).bind fun oZ24=>(aZ (vT ringZ0 rZ9) N0 (rZ8,[])).bind fun oZ37=>bnd ([(⟨yZ7.A,oZ24⟩:au),(⟨yZ7.A,oZ37⟩:au)]) fun lZ38=>(pc id (⟨0,[]⟩:au) lZ38 fiberZ0).bind fun rZ41=>bnd (dP rZ41.2.2.1 rZ41.1 rZ41.2.1) fun lZ42=>(jO (fun x0 x1=>ws x0 x1 nZ0) lZ42).bind fun lZ44=>bnd (cG rZ41.2.2.1 rZ41.1 lZ44) fun lZ45=>bnd (dP lZ45 rZ41.1 rZ41.2.1) fun lZ47=>some (lZ47,true)))
def M_v (nZ0:ae) (ringZ0:List Int) (sZ1:Int×Int×List Int):Option ((Int×Int×List Int) ⊕ ((Int×List Int) ⊕ (List Int×Bool))) :=
 cond (decide (sZ1.2.1 < (ringZ0.length:Int))) (((bJ ringZ0 sZ1.2.1).bind fun yZ3=>(M_h yZ3 0 (IntKind.wrap .i64 ((nZ0.Fibers.length:Int) - 1))).bind fun rZ4=>cond (!rZ4) (some true) ((slT ringZ0 sZ1.2.1).bind fun lZ6=>(M_b lZ6 yZ3).bind fun rZ7=>cond (rZ7) (some true) ((M_b sZ1.2.2 sZ1.1).bind fun rZ9=>some rZ9)):Option Bool).bind fun oZ10=>cond (oZ10) (some (.inr (.inr (sZ1.2.2,false)))) (bnd ([sZ1.1]) fun lZ12=>(grd ((sZ1.2.2.length+1) * 8≤140737488355328)).bind fun uZ15=>bnd (sZ1.2.2++lZ12) fun lZ16=>(bJ ringZ0 sZ1.2.1).bind fun yZ19=>(qO nZ0 yZ19 sZ1.1).bind fun rZ20=>cond (decide (rZ20 < 0)) (some (.inr (.inr (lZ16,false)))) (some (.inl (rZ20,IntKind.wrap .i64 (sZ1.2.1+1),lZ16))))) (some (.inr (.inl (sZ1.1,sZ1.2.2))))
def yW (nZ0:ae) (ringZ0:List Int) (fromZ0:Int):Option (List Int×Bool) :=
 (aZ (M_v nZ0 ringZ0) N0 (fromZ0,0,[])).bind fun oZ22=>(match oZ22 with | .inl vZ23=>cond (vZ23.1==fromZ0) (some (vZ23.2,(decide (1 < (ringZ0.length:Int))))) (some (vZ23.2,false)) | .inr xZ24=>some xZ24)
def M_n (sZ1:Int) (rZ3:List Int×Bool) (sZ5:Bool×Int):Option ((Bool×Int) ⊕ Bool) :=
 cond (decide (sZ5.2 < (rZ3.1.length:Int))) (cond (sZ5.1) ((grd (0≤sZ5.2∧sZ5.2 < (rZ3.1.length:Int))).bind fun kZ8=>(rZ3.1[(Int.toNat sZ5.2)]?).bind fun yZ9=>some (.inl (decide (sZ1≤yZ9),IntKind.wrap .i64 (sZ5.2+1)))) (some (.inl (false,IntKind.wrap .i64 (sZ5.2+1))))) (some (.inr sZ5.1))
def Ci (nZ0:ae) (ringZ0:List Int) (sZ1:Int):Option (Int ⊕ (Unit ⊕ Bool)) :=
 cond (decide (sZ1 < (nZ0.Nodes.length:Int))) ((yW nZ0 ringZ0 sZ1).bind fun rZ3=>cond (!rZ3.2) (some (.inl (IntKind.wrap .i64 (sZ1+1)))) ((aZ (M_n sZ1 rZ3) N0 (true,0)).bind fun oZ10=>cond (oZ10) ((sG ringZ0).bind fun rZ12=>(pu rZ12 ringZ0).bind fun rZ13=>some (.inr (.inr (!rZ13)))) (some (.inr (.inr false))))) (some (.inr (.inl ())))
def Iu (nZ0:ae) (ringZ0:List Int):Option Bool :=
 (aZ (Ci nZ0 ringZ0) N0 0).bind fun oZ14=>(match oZ14 with | .inl vZ15=>some false | .inr xZ16=>some xZ16)
def Dy (nZ0:ae) (ringZ0:List Int):Option Bool :=
 (vF nZ0).bind fun rZ1=>cond (rZ1) ((Iu nZ0 ringZ0).bind fun rZ3=>some rZ3) (some false)
def ze (nZ0:ae) (ringZ0:List Int) (sZ1:Int):Option (Int ⊕ (Unit ⊕ (List Int))) :=
 cond (decide (sZ1 < (nZ0.Nodes.length:Int))) ((yW nZ0 ringZ0 sZ1).bind fun rZ3=>cond (rZ3.2) (some (.inr (.inr rZ3.1))) (some (.inl (IntKind.wrap .i64 (sZ1+1))))) (some (.inr (.inl ())))
def Ax (nZ0:ae) (ringZ0:List Int):Option (List Int) :=
 (aZ (ze nZ0 ringZ0) N0 0).bind fun oZ5=>(match oZ5 with | .inl vZ6=>some ([]) | .inr xZ7=>some xZ7)
def M_i (nZ0:ae) (ringZ0:List Int) (rZ1:List Int) (sZ2:Int×List Int×List Int):Option ((Int×List Int×List Int) ⊕ (List Int×List Int)) :=
 cond (decide (sZ2.1 < (nZ0.Fibers.length:Int))) ((M_b ringZ0 sZ2.1).bind fun rZ4=>cond (rZ4) (bnd ([sZ2.1]) fun lZ6=>(grd ((sZ2.2.1.length+1) * 8≤140737488355328)).bind fun uZ9=>bnd (sZ2.2.1++lZ6) fun lZ10=>some (.inl (IntKind.wrap .i64 (sZ2.1+1),lZ10,sZ2.2.2))) (((bJ nZ0.Fibers sZ2.1).bind fun yZ13=>(M_b rZ1 yZ13.A).bind fun rZ14=>cond (rZ14) ((M_b rZ1 yZ13.B).bind fun rZ16=>some rZ16) (some false):Option Bool).bind fun oZ17=>cond (oZ17) (bnd ([sZ2.1]) fun lZ19=>(grd ((sZ2.2.2.length+1) * 8≤140737488355328)).bind fun uZ22=>bnd (sZ2.2.2++lZ19) fun lZ23=>some (.inl (IntKind.wrap .i64 (sZ2.1+1),sZ2.2.1,lZ23))) (some (.inl (IntKind.wrap .i64 (sZ2.1+1),sZ2.2.1,sZ2.2.2))))) (some (.inr (sZ2.2.1,sZ2.2.2)))
def Iv (nZ0:ae) (ringZ0:List Int):Option (List Int×List Int) :=
 (Ax nZ0 ringZ0).bind fun rZ1=>(aZ (M_i nZ0 ringZ0 rZ1) N0 (0,[],[])).bind fun oZ26=>some (oZ26.1,oZ26.2)
def xp (fromZ0:Int) (rZ1:List Int) (sZ2:Int):Option (Int ⊕ Int) :=
 (grd (0≤sZ2∧sZ2 < (rZ1.length:Int))).bind fun kZ3=>(rZ1[(Int.toNat sZ2)]?).bind fun yZ4=>cond (yZ4 != fromZ0) (some (.inl (IntKind.wrap .i64 (sZ2+1)))) (some (.inr sZ2))
def vX (nZ0:ae) (ringZ0:List Int) (toZ0:Int) (sZ7:Int×Int×List Int):Option ((Int×Int×List Int) ⊕ (List Int)) :=
 cond (sZ7.2.1 != toZ0) ((bJ ringZ0 sZ7.1).bind fun yZ9=>bnd ([yZ9]) fun lZ10=>(grd ((sZ7.2.2.length+1) * 8≤140737488355328)).bind fun uZ13=>bnd (sZ7.2.2++lZ10) fun lZ14=>(qO nZ0 yZ9 sZ7.2.1).bind fun rZ17=>(grd ((ringZ0.length:Int) ≠ 0)).bind fun uZ18=>some (.inl (Int.tmod (IntKind.wrap .i64 (sZ7.1+1)) (ringZ0.length:Int),rZ17,lZ14))) (some (.inr sZ7.2.2))
def Aa (nZ0:ae) (ringZ0:List Int) (fromZ0:Int) (toZ0:Int):Option au :=
 (Ax nZ0 ringZ0).bind fun rZ1=>(aZ (xp fromZ0 rZ1) N0 0).bind fun oZ6=>(aZ (vX nZ0 ringZ0 toZ0) N0 (oZ6,fromZ0,[])).bind fun oZ19=>some (⟨fromZ0,oZ19⟩:au)
def wM (nZ0:ae) (rZ0:au) (sZ8:Int×List Int):Option ((Int×List Int) ⊕ ((List Int) ⊕ (List Int×Bool))) :=
 cond (decide (sZ8.1 < (rZ0.Fibers.length:Int))) ((bJ rZ0.Fibers sZ8.1).bind fun yZ10=>(M_h yZ10 0 (IntKind.wrap .i64 ((nZ0.Fibers.length:Int) - 1))).bind fun rZ11=>cond (!rZ11) (some (.inr (.inr (sZ8.2,false)))) ((grd (0≤(IntKind.wrap .i64 ((sZ8.2.length:Int) - 1))∧(IntKind.wrap .i64 ((sZ8.2.length:Int) - 1)) < (sZ8.2.length:Int))).bind fun kZ13=>(sZ8.2[(Int.toNat (IntKind.wrap .i64 ((sZ8.2.length:Int) - 1)))]?).bind fun yZ14=>(qO nZ0 yZ10 yZ14).bind fun rZ15=>(cond (decide (rZ15 < 0)) (some true) ((M_b sZ8.2 rZ15).bind fun rZ17=>some rZ17):Option Bool).bind fun oZ18=>cond (oZ18) (some (.inr (.inr (sZ8.2,false)))) (bnd ([rZ15]) fun lZ20=>(grd ((sZ8.2.length+1) * 8≤140737488355328)).bind fun uZ23=>bnd (sZ8.2++lZ20) fun lZ24=>some (.inl (IntKind.wrap .i64 (sZ8.1+1),lZ24))))) (some (.inr (.inl sZ8.2)))
def CE (nZ0:ae) (rZ0:au):Option (List Int×Bool) :=
 bnd ([rZ0.Start]) fun lZ1=>((M_h rZ0.Start 0 (IntKind.wrap .i64 ((nZ0.Nodes.length:Int) - 1))).bind fun rZ4=>cond (!rZ4) (some true) (some ((rZ0.Fibers.length:Int)==0)):Option Bool).bind fun oZ6=>cond (oZ6) (some (lZ1,false)) ((aZ (wM nZ0 rZ0) N0 (0,lZ1)).bind fun oZ27=>(match oZ27 with | .inl vZ28=>some (vZ28,true) | .inr xZ29=>some xZ29))
def Ml (nZ0:ae) (rZ0:au):Option Bool :=
 (vF nZ0).bind fun rZ1=>cond (!rZ1) (some false) ((CE nZ0 rZ0).bind fun rZ3=>some rZ3.2)
def KI (nZ0:ae) (rZ0:au):Option (List Int) :=
 (CE nZ0 rZ0).bind fun rZ1=>some rZ1.1
def Mr (nZ0:ae) (rZ0:au):Option Int :=
 (KI nZ0 rZ0).bind fun rZ1=>(grd (0≤(IntKind.wrap .i64 ((rZ1.length:Int) - 1))∧(IntKind.wrap .i64 ((rZ1.length:Int) - 1)) < (rZ1.length:Int))).bind fun kZ2=>(rZ1[(Int.toNat (IntKind.wrap .i64 ((rZ1.length:Int) - 1)))]?).bind fun yZ3=>some yZ3
def Fg (rZ0:au) (sZ4:Int×List Int):Option ((Int×List Int) ⊕ (List Int)) :=
 cond (decide (0≤sZ4.1)) ((bJ rZ0.Fibers sZ4.1).bind fun yZ6=>bnd ([yZ6]) fun lZ7=>(grd ((sZ4.2.length+1) * 8≤140737488355328)).bind fun uZ10=>bnd (sZ4.2++lZ7) fun lZ11=>some (.inl (IntKind.wrap .i64 (sZ4.1 - 1),lZ11))) (some (.inr sZ4.2))
def Fv (nZ0:ae) (rZ0:au):Option (au×Bool) :=
 (Ml nZ0 rZ0).bind fun rZ1=>cond (!rZ1) (some ((⟨0,[]⟩:au),false)) ((Mr nZ0 rZ0).bind fun rZ3=>(aZ (Fg rZ0) N0 (IntKind.wrap .i64 ((rZ0.Fibers.length:Int) - 1),[])).bind fun oZ14=>some ((⟨rZ3,oZ14⟩:au),true))
def PA (nZ0:ae) (rZ0:au) (sZ1:Int×Int):Option ((Int×Int) ⊕ Int) :=
 cond (decide (sZ1.2 < (rZ0.Fibers.length:Int))) ((bJ rZ0.Fibers sZ1.2).bind fun yZ3=>(bJ nZ0.Fibers yZ3).bind fun yZ4=>some (.inl (IntKind.wrap .i64 (sZ1.1+yZ4.Length),IntKind.wrap .i64 (sZ1.2+1)))) (some (.inr sZ1.1))
def GV (nZ0:ae) (rZ0:au):Option Int :=
 (aZ (PA nZ0 rZ0) N0 (0,0)).bind fun oZ5=>some oZ5
def uK (xZ0:Int):Option Int :=
 cond (decide (xZ0 < 0)) (some (-1)) (cond (decide (0 < xZ0)) (some 1) (some 0))
def zl (aZ0:au) (bZ0:au) (sZ7:Int):Option (Int ⊕ (Unit ⊕ Int)) :=
 cond (decide (sZ7 < (aZ0.Fibers.length:Int))) ((bJ aZ0.Fibers sZ7).bind fun yZ9=>(bJ bZ0.Fibers sZ7).bind fun yZ10=>cond (yZ9 != yZ10) ((uK (IntKind.wrap .i64 (yZ9 - yZ10))).bind fun rZ12=>some (.inr (.inr rZ12))) (some (.inl (IntKind.wrap .i64 (sZ7+1))))) (some (.inr (.inl ())))
def Ho (nZ0:ae) (aZ0:au) (bZ0:au):Option Int :=
 (GV nZ0 aZ0).bind fun rZ1=>(GV nZ0 bZ0).bind fun rZ2=>cond ((IntKind.wrap .i64 (rZ1 - rZ2)) != 0) ((uK (IntKind.wrap .i64 (rZ1 - rZ2))).bind fun rZ4=>some rZ4) (cond ((IntKind.wrap .i64 ((aZ0.Fibers.length:Int) - (bZ0.Fibers.length:Int))) != 0) ((uK (IntKind.wrap .i64 ((aZ0.Fibers.length:Int) - (bZ0.Fibers.length:Int)))).bind fun rZ6=>some rZ6) ((aZ (zl aZ0 bZ0) N0 0).bind fun oZ13=>(match oZ13 with | .inl vZ14=>(uK (IntKind.wrap .i64 (aZ0.Start - bZ0.Start))).bind fun rZ16=>some rZ16 | .inr xZ15=>some xZ15)))
def IB (nZ0:ae) (ringZ0:List Int) (fiberZ0:Int):Option (List au×Bool) :=
 ((Dy nZ0 ringZ0).bind fun rZ1=>cond (!rZ1) (some true) ((M_h fiberZ0 0 (IntKind.wrap .i64 ((nZ0.Fibers.length:Int) - 1))).bind fun rZ3=>some (!rZ3)):Option Bool).bind fun oZ4=>cond (oZ4) (some (([]),false)) ((Iv nZ0 ringZ0).bind fun rZ6=>((M_b rZ6.1 fiberZ0).bind fun rZ7=>cond (!rZ7) ((M_b rZ6.2 fiberZ0).bind fun rZ9=>some (!rZ9)) (some false):Option Bool).bind fun oZ10=>cond (oZ10) (some (([]),false)) ((bJ nZ0.Fibers fiberZ0).bind fun yZ12=>(Aa nZ0 ringZ0 yZ12.A yZ12.B).bind fun rZ13=>(Aa nZ0 ringZ0 yZ12.B yZ12.A).bind fun rZ14=>(Fv nZ0 (⟨rZ14.Start,rZ14.Fibers⟩:au)).bind fun rZ15=>((Ho nZ0 (⟨rZ15.1.Start,rZ15.1.Fibers⟩:au) (⟨rZ13.Start,rZ13.Fibers⟩:au)).bind fun rZ16=>cond (decide (rZ16 < 0)) (some (rZ15.1.Start,rZ13.Start,rZ15.1.Fibers,rZ13.Fibers)) (some (rZ13.Start,rZ15.1.Start,rZ13.Fibers,rZ15.1.Fibers)):Option (Int×Int×List Int×List Int)).bind fun oZ18=>((M_b oZ18.2.2.1 fiberZ0).bind fun rZ19=>cond (!rZ19) (bnd ([(⟨oZ18.1,oZ18.2.2.1⟩:au)]) fun lZ21=>(grd (1 * 32≤140737488355328)).bind fun uZ24=>some lZ21) (some ([])):Option (List au)).bind fun oZ25=>(M_b oZ18.2.2.2 fiberZ0).bind fun rZ26=>cond (!rZ26) (bnd ([(⟨oZ18.2.1,oZ18.2.2.2⟩:au)]) fun lZ28=>(grd ((oZ25.length+1) * 32≤140737488355328)).bind fun uZ31=>bnd (oZ25++lZ28) fun lZ32=>some (lZ32,true)) (some (oZ25,true))))
def vE (nZ0:ae) (rZ0:au) (sZ8:Int×Int×List Int):Option ((Int×Int×List Int) ⊕ ((List Int) ⊕ (List Int×Bool))) :=
 cond (decide (sZ8.2.1 < (rZ0.Fibers.length:Int))) ((bJ rZ0.Fibers sZ8.2.1).bind fun yZ10=>(M_q yZ10 0 (IntKind.wrap .i64 ((nZ0.Fibers.length:Int) - 1))).bind fun rZ11=>cond (!rZ11) (some (.inr (.inr (([]),false)))) ((bJ nZ0.Fibers yZ10).bind fun yZ13=>(pg yZ13 sZ8.1).bind fun rZ14=>(cond (decide (rZ14 < 0)) (some true) ((M_m sZ8.2.2 rZ14).bind fun rZ16=>some rZ16):Option Bool).bind fun oZ17=>cond (oZ17) (some (.inr (.inr (([]),false)))) (bnd ([rZ14]) fun lZ19=>(grd ((sZ8.2.2.length+1) * 8≤140737488355328)).bind fun uZ22=>bnd (sZ8.2.2++lZ19) fun lZ23=>some (.inl (rZ14,IntKind.wrap .i64 (sZ8.2.1+1),lZ23))))) (some (.inr (.inl sZ8.2.2)))
def Dg (nZ0:ae) (rZ0:au):Option (List Int×Bool) :=
 ((M_q rZ0.Start 0 (IntKind.wrap .i64 ((nZ0.Nodes.length:Int) - 1))).bind fun rZ1=>cond (!rZ1) (some true) (some ((rZ0.Fibers.length:Int)==0)):Option Bool).bind fun oZ3=>cond (oZ3) (some (([]),false)) (bnd ([rZ0.Start]) fun lZ5=>(aZ (vE nZ0 rZ0) N0 (rZ0.Start,0,lZ5)).bind fun oZ26=>(match oZ26 with | .inl vZ27=>some (vZ27,true) | .inr xZ28=>some xZ28))
def uJ (nZ0:ae) (rZ0:au):Option (List Int×Bool) :=
 (vD nZ0).bind fun rZ1=>cond (!rZ1) (some (([]),false)) ((Dg nZ0 rZ0).bind fun rZ3=>some (rZ3.1,rZ3.2))
def Ba (lZ0:List Int) (xZ0:Int) (sZ1:Int):Option (Int ⊕ (Unit ⊕ Bool)) :=
 cond (decide (sZ1 < (lZ0.length:Int))) ((bJ lZ0 sZ1).bind fun yZ3=>cond (yZ3==xZ0) (some (.inr (.inr true))) (some (.inl (IntKind.wrap .i64 (sZ1+1))))) (some (.inr (.inl ())))
def xj (lZ0:List Int) (xZ0:Int):Option Bool :=
 (aZ (Ba lZ0 xZ0) N0 0).bind fun oZ5=>(match oZ5 with | .inl vZ6=>some false | .inr xZ7=>some xZ7)
def Pc (xZ0:Int):Option Int :=
 (cond (decide (4294967296≤xZ0)) (some (Int.fdiv xZ0 (2 ^ (min (Int.toNat 32) (IntKind.bits .u64))),32)) (some (xZ0,0)):Option (Int×Int)).bind fun oZ2=>(cond (decide (65536≤oZ2.1)) (some (Int.fdiv oZ2.1 (2 ^ (min (Int.toNat 16) (IntKind.bits .u64))),IntKind.wrap .i64 (oZ2.2+16))) (some (oZ2.1,oZ2.2)):Option (Int×Int)).bind fun oZ4=>(cond (decide (256≤oZ4.1)) (some (Int.fdiv oZ4.1 (2 ^ (min (Int.toNat 8) (IntKind.bits .u64))),IntKind.wrap .i64 (oZ4.2+8))) (some (oZ4.1,oZ4.2)):Option (Int×Int)).bind fun oZ6=>(ru (⟨#[0,1,2,2,3,3,3,3,4,4,4,4,4,4,4,4,5,5,5,5,5,5,5,5,5,5,5,5,5,5,5,5,6,6,6,6,6,6,6,6,6,6,6,6,6,6,6,6,6,6,6,6,6,6,6,6,6,6,6,6,6,6,6,6,7,7,7,7,7,7,7,7,7,7,7,7,7,7,7,7,7,7,7,7,7,7,7,7,7,7,7,7,7,7,7,7,7,7,7,7,7,7,7,7,7,7,7,7,7,7,7,7,7,7,7,7,7,7,7,7,7,7,7,7,7,7,7,7,8,8,8,8,8,8,8,8,8,8,8,8,8,8,8,8,8,8,8,8,8,8,8,8,8,8,8,8,8,8,8,8,8,8,8,8,8,8,8,8,8,8,8,8,8,8,8,8,8,8,8,8,8,8,8,8,8,8,8,8,8,8,8,8,8,8,8,8,8,8,8,8,8,8,8,8,8,8,8,8,8,8,8,8,8,8,8,8,8,8,8,8,8,8,8,8,8,8,8,8,8,8,8,8,8,8,8,8,8,8,8,8,8,8,8,8,8,8,8,8,8,8,8,8,8,8,8,8]⟩:ByteArray) (IntKind.wrap .u8 oZ6.1)).bind fun yZ7=>some (IntKind.wrap .i64 (oZ6.2+(IntKind.wrap .i64 (yZ7.toNat:Int))))
def Fi (xZ0:Int):Option Int :=
 (Pc xZ0).bind fun rZ1=>some rZ1
def Gc (xZ0:Int) (yZ0:Int):Option Bool :=
 (sM xZ0).bind fun rZ1=>cond (rZ1) ((sM yZ0).bind fun rZ3=>cond (!rZ3) (some true) (some (decide (xZ0 < yZ0)))) (some (decide (xZ0 < yZ0)))
def M_o (aaZ0:Int) (sZ3:Int×List Int):Option ((Int×List Int) ⊕ (List Int)) :=
 (cond (decide (aaZ0 < sZ3.1)) ((grd (0≤sZ3.1∧sZ3.1 < (sZ3.2.length:Int))).bind fun kZ5=>(sZ3.2[(Int.toNat sZ3.1)]?).bind fun yZ6=>(grd (0≤(IntKind.wrap .i64 (sZ3.1 - 1))∧(IntKind.wrap .i64 (sZ3.1 - 1)) < (sZ3.2.length:Int))).bind fun kZ7=>(sZ3.2[(Int.toNat (IntKind.wrap .i64 (sZ3.1 - 1)))]?).bind fun yZ8=>(Gc yZ6 yZ8).bind fun rZ9=>some rZ9) (some false):Option Bool).bind fun oZ10=>cond (oZ10) ((grd (0≤(IntKind.wrap .i64 (sZ3.1 - 1))∧(IntKind.wrap .i64 (sZ3.1 - 1)) < (sZ3.2.length:Int))).bind fun kZ12=>(sZ3.2[(Int.toNat (IntKind.wrap .i64 (sZ3.1 - 1)))]?).bind fun yZ13=>(grd (0≤sZ3.1∧sZ3.1 < (sZ3.2.length:Int))).bind fun kZ14=>(sZ3.2[(Int.toNat sZ3.1)]?).bind fun yZ15=>bnd (sZ3.2.set (Int.toNat sZ3.1) yZ13) fun lZ16=>(lZ16[(Int.toNat (IntKind.wrap .i64 (sZ3.1 - 1)))]?).bind fun yZ18=>bnd (lZ16.set (Int.toNat (IntKind.wrap .i64 (sZ3.1 - 1))) yZ15) fun lZ19=>some (.inl (IntKind.wrap .i64 (sZ3.1 - 1),lZ19))) (some (.inr sZ3.2))
def zX (aaZ0:Int) (abZ0:Int) (sZ1:Int×List Int):Option ((Int×List Int) ⊕ (List Int)) :=
 cond (decide (sZ1.1 < abZ0)) (((aZ (M_o aaZ0) N0 (sZ1.1,sZ1.2)).bind fun oZ21=>some oZ21:Option (List Int)).bind fun oZ23=>some (.inl (IntKind.wrap .i64 (sZ1.1+1),oZ23))) (some (.inr sZ1.2))
def FH (aaZ0:Int) (abZ0:Int) (acZ0:List Int):Option (List Int) :=
 (aZ (zX aaZ0 abZ0) N0 (IntKind.wrap .i64 (aaZ0+1),acZ0)).bind fun oZ24=>some oZ24
def Lt (aaZ0:Int) (abZ0:Int) (acZ0:Int) (adZ0:List Int) (sZ1:Unit):Option (Unit ⊕ (Empty ⊕ (List Int))) :=
 cond (decide ((IntKind.wrap .i64 (abZ0 - aaZ0))≤12)) ((FH aaZ0 abZ0 adZ0).bind fun rZ3=>some (.inr (.inr rZ3))) (cond (acZ0==0) (none) (none))
def Nd (aaZ0:Int) (abZ0:Int) (acZ0:Int) (adZ0:List Int):Option (List Int) :=
 (aZ (Lt aaZ0 abZ0 acZ0 adZ0) N0 ()).bind fun oZ5=>(match oZ5 with | .inl vZ6=>(vZ6.elim) | .inr xZ7=>some xZ7)
def Ib (aaZ0:List Int):Option (List Int) :=
 (Fi (IntKind.wrap .u64 (aaZ0.length:Int))).bind fun rZ1=>(Nd 0 (aaZ0.length:Int) rZ1 aaZ0).bind fun rZ2=>some rZ2
def M_w (nZ0:ae) (ringZ0:List Int) (rZ3:List Int×Bool) (sZ4:Int×List Int):Option ((Int×List Int) ⊕ (List Int)) :=
 cond (decide (sZ4.1 < (nZ0.Fibers.length:Int))) ((bJ nZ0.Fibers sZ4.1).bind fun yZ6=>((M_m ringZ0 sZ4.1).bind fun rZ7=>cond (!rZ7) ((M_m rZ3.1 yZ6.A).bind fun rZ9=>cond (rZ9) ((M_m rZ3.1 yZ6.B).bind fun rZ11=>some rZ11) (some false)) (some false):Option Bool).bind fun oZ12=>cond (oZ12) (bnd ([sZ4.1]) fun lZ14=>(grd ((sZ4.2.length+1) * 8≤140737488355328)).bind fun uZ17=>bnd (sZ4.2++lZ14) fun lZ18=>some (.inl (IntKind.wrap .i64 (sZ4.1+1),lZ18))) (some (.inl (IntKind.wrap .i64 (sZ4.1+1),sZ4.2)))) (some (.inr sZ4.2))
def IP (nZ0:ae) (ringZ0:List Int):Option (List Int×List Int) :=
 (Az ringZ0).bind fun rZ1=>(Ib rZ1).bind fun rZ2=>(qF nZ0 ringZ0).bind fun rZ3=>(aZ (M_w nZ0 ringZ0 rZ3) N0 (0,[])).bind fun oZ21=>bnd (dP rZ2 0 rZ1.length) fun lZ22=>some (lZ22,oZ21)
def Dp (nZ0:ae) (ringZ0:List Int):Option (List Int×List Int×Bool) :=
 (uG nZ0 ringZ0).bind fun rZ1=>cond (!rZ1) (some (([]),([]),false)) ((IP nZ0 ringZ0).bind fun rZ3=>some (rZ3.1,rZ3.2,true))
def M_c (aaZ0:Int) (abZ0:Int) (acZ0:Int) (adZ0:List Int) (aeZ0:ae) (rcZ0:Int→Int→Int→List Int→ae→List (List Int)→Option (ae×List (List Int))) (sZ1:Int×ae×List (List Int)):Option ((Int×ae×List (List Int)) ⊕ (ae×List (List Int))) :=
 cond (decide (sZ1.1 < (((aeZ0).Fibers).length:Int))) ((bJ ((aeZ0).Fibers) sZ1.1).bind fun yZ3=>(pg yZ3 abZ0).bind fun rZ4=>(cond (decide (rZ4 < aaZ0)) (some true) ((M_m adZ0 sZ1.1).bind fun rZ6=>some rZ6):Option Bool).bind fun oZ7=>cond (oZ7) (some (.inl (IntKind.wrap .i64 (sZ1.1+1),sZ1.2.1,sZ1.2.2))) (bnd ([sZ1.1]) fun lZ10=>(grd ((adZ0.length+1) * 8≤140737488355328)).bind fun uZ13=>bnd (adZ0++lZ10) fun lZ14=>cond (rZ4==aaZ0) ((qF sZ1.2.1 lZ14).bind fun rZ19=>cond (rZ19.2) (bnd ([lZ14]) fun lZ21=>(grd ((sZ1.2.2.length+1) * 24≤140737488355328)).bind fun uZ24=>bnd (sZ1.2.2++lZ21) fun lZ25=>some (.inl (IntKind.wrap .i64 (sZ1.1+1),sZ1.2.1,lZ25))) (some (.inl (IntKind.wrap .i64 (sZ1.1+1),sZ1.2.1,sZ1.2.2)))) ((grd (0≤rZ4)).bind fun uZ28=>cond ((bits .and .i64 (Int.fdiv acZ0 (2 ^ (min (Int.toNat rZ4) (IntKind.bits .i64)))) 1)==0) ((grd (0≤rZ4)).bind fun uZ30=>(rcZ0 aaZ0 rZ4 (bits .or .i64 acZ0 (IntKind.wrap .i64 (1 * 2 ^ (min (Int.toNat rZ4) (IntKind.bits .i64))))) lZ14 sZ1.2.1 sZ1.2.2).bind fun rZ31=>some (.inl (IntKind.wrap .i64 (sZ1.1+1),rZ31.1,rZ31.2))) (some (.inl (IntKind.wrap .i64 (sZ1.1+1),sZ1.2.1,sZ1.2.2)))))) (some (.inr (sZ1.2.1,sZ1.2.2)))
def vJ (rcZ0:Int→Int→Int→List Int→ae→List (List Int)→Option (ae×List (List Int))) (aaZ0:Int) (abZ0:Int) (acZ0:Int) (adZ0:List Int) (aeZ0:ae) (afZ0:List (List Int)):Option (ae×List (List Int)) :=
 (aZ (M_c aaZ0 abZ0 acZ0 adZ0 aeZ0 rcZ0) N0 (0,aeZ0,afZ0)).bind fun oZ32=>some (oZ32.1,oZ32.2)
def GO:Nat→Int→Int→Int→List Int→ae→List (List Int)→Option (ae×List (List Int))
 | 0,_,_,_,_,_,_=>none
 | n+1,aaZ0,abZ0,acZ0,adZ0,aeZ0,afZ0=>vJ (GO n) aaZ0 abZ0 acZ0 adZ0 aeZ0 afZ0
def M_f (aaZ0:Int) (abZ0:Int) (acZ0:Int) (adZ0:List Int) (aeZ0:ae) (sZ1:Int×ae×List (List Int)):Option ((Int×ae×List (List Int)) ⊕ (ae×List (List Int))) :=
 cond (decide (sZ1.1 < (((aeZ0).Fibers).length:Int))) ((bJ ((aeZ0).Fibers) sZ1.1).bind fun yZ3=>(pg yZ3 abZ0).bind fun rZ4=>(cond (decide (rZ4 < aaZ0)) (some true) ((M_m adZ0 sZ1.1).bind fun rZ6=>some rZ6):Option Bool).bind fun oZ7=>cond (oZ7) (some (.inl (IntKind.wrap .i64 (sZ1.1+1),sZ1.2.1,sZ1.2.2))) (bnd ([sZ1.1]) fun lZ10=>(grd ((adZ0.length+1) * 8≤140737488355328)).bind fun uZ13=>bnd (adZ0++lZ10) fun lZ14=>cond (rZ4==aaZ0) ((qF sZ1.2.1 lZ14).bind fun rZ19=>cond (rZ19.2) (bnd ([lZ14]) fun lZ21=>(grd ((sZ1.2.2.length+1) * 24≤140737488355328)).bind fun uZ24=>bnd (sZ1.2.2++lZ21) fun lZ25=>some (.inl (IntKind.wrap .i64 (sZ1.1+1),sZ1.2.1,lZ25))) (some (.inl (IntKind.wrap .i64 (sZ1.1+1),sZ1.2.1,sZ1.2.2)))) ((grd (0≤rZ4)).bind fun uZ28=>cond ((bits .and .i64 (Int.fdiv acZ0 (2 ^ (min (Int.toNat rZ4) (IntKind.bits .i64)))) 1)==0) ((grd (0≤rZ4)).bind fun uZ30=>(GO N0 aaZ0 rZ4 (bits .or .i64 acZ0 (IntKind.wrap .i64 (1 * 2 ^ (min (Int.toNat rZ4) (IntKind.bits .i64))))) lZ14 sZ1.2.1 sZ1.2.2).bind fun rZ31=>some (.inl (IntKind.wrap .i64 (sZ1.1+1),rZ31.1,rZ31.2))) (some (.inl (IntKind.wrap .i64 (sZ1.1+1),sZ1.2.1,sZ1.2.2)))))) (some (.inr (sZ1.2.1,sZ1.2.2)))
def Ma (aaZ0:Int) (abZ0:Int) (acZ0:Int) (adZ0:List Int) (aeZ0:ae) (afZ0:List (List Int)):Option (ae×List (List Int)) :=
 (aZ (M_f aaZ0 abZ0 acZ0 adZ0 aeZ0) N0 (0,aeZ0,afZ0)).bind fun oZ32=>some (oZ32.1,oZ32.2)
def rD (aZ0:List Int) (bZ0:List Int):Option Int :=
 (M_s (aZ0.length:Int) (bZ0.length:Int)).bind fun rZ1=>(oy aZ0 bZ0).bind fun rZ2=>bnd ([rZ1,rZ2]) fun lZ3=>(pn lZ3).bind fun rZ7=>some rZ7
def CH (nZ0:ae) (sZ1:Int×ae×List (List Int)):Option ((Int×ae×List (List Int)) ⊕ (List (List Int))) :=
 cond (decide (sZ1.1 < (nZ0.Nodes.length:Int))) ((grd (0≤sZ1.1)).bind fun uZ3=>(Ma sZ1.1 sZ1.1 (IntKind.wrap .i64 (1 * 2 ^ (min (Int.toNat sZ1.1) (IntKind.bits .i64)))) ([]) sZ1.2.1 sZ1.2.2).bind fun rZ4=>some (.inl (IntKind.wrap .i64 (sZ1.1+1),rZ4.1,rZ4.2))) (some (.inr sZ1.2.2))
def EK (nZ0:ae):Option (List (List Int)) :=
 (aZ (CH nZ0) N0 (0,nZ0,[])).bind fun oZ5=>(jO (fun x0 x1=>rD x0 x1) oZ5).bind fun lZ6=>some lZ6
def HY (nZ0:ae):Option (List (List Int)×Bool) :=
 (vD nZ0).bind fun rZ1=>cond (!rZ1) (some (([]),false)) ((EK nZ0).bind fun rZ3=>cond (decide (60 < (rZ3.length:Int))) (some (([]),false)) (some (rZ3,true)))
def Cf (aZ0:List Int) (bZ0:List Int) (sZ2:Int):Option (Int ⊕ (Unit ⊕ Bool)) :=
 cond (decide (sZ2 < (aZ0.length:Int))) ((bJ aZ0 sZ2).bind fun yZ4=>(bJ bZ0 sZ2).bind fun yZ5=>cond (yZ4 != yZ5) (some (.inr (.inr false))) (some (.inl (IntKind.wrap .i64 (sZ2+1))))) (some (.inr (.inl ())))
def Ft (aZ0:List Int) (bZ0:List Int):Option Bool :=
 cond ((aZ0.length:Int) != (bZ0.length:Int)) (some false) ((aZ (Cf aZ0 bZ0) N0 0).bind fun oZ7=>(match oZ7 with | .inl vZ8=>some true | .inr xZ9=>some xZ9))
def vK (rZ3:ae×Int×List Int) (rZ4:List au×Bool) (sZ9:Int):Option (Int ⊕ (Unit ⊕ Bool)) :=
 cond (decide (sZ9 < (rZ4.1.length:Int))) ((grd (0≤sZ9∧sZ9 < (rZ4.1.length:Int))).bind fun kZ11=>(rZ4.1[(Int.toNat sZ9)]?).bind fun yZ12=>(uJ rZ3.1 yZ12).bind fun rZ13=>(cond (!rZ13.2) (some true) ((xj yZ12.Fibers rZ3.2.1).bind fun rZ15=>cond (rZ15) (some true) ((grd (0≤0∧0 < (rZ13.1.length:Int))).bind fun kZ17=>(rZ13.1[(Int.toNat 0)]?).bind fun yZ18=>(bJ ((rZ3.1).Fibers) rZ3.2.1).bind fun yZ19=>cond (yZ18 != yZ19.A) (some true) ((grd (0≤(IntKind.wrap .i64 ((rZ13.1.length:Int) - 1))∧(IntKind.wrap .i64 ((rZ13.1.length:Int) - 1)) < (rZ13.1.length:Int))).bind fun kZ21=>(rZ13.1[(Int.toNat (IntKind.wrap .i64 ((rZ13.1.length:Int) - 1)))]?).bind fun yZ22=>some (yZ22 != yZ19.B)))):Option Bool).bind fun oZ23=>cond (oZ23) (some (.inr (.inr false))) (some (.inl (IntKind.wrap .i64 (sZ9+1))))) (some (.inr (.inl ())))
def vr (rZ3:ae×Int×List Int) (rZ37:List (List Int)×Bool) (rZ38:Bool×List (List Int)) (sZ42:Int):Option (Int ⊕ (Unit ⊕ Bool)) :=
 cond (decide (sZ42 < (rZ37.1.length:Int))) (((grd (0≤sZ42∧sZ42 < (rZ37.1.length:Int))).bind fun kZ44=>(rZ37.1[(Int.toNat sZ42)]?).bind fun yZ45=>(grd (0≤sZ42∧sZ42 < (rZ38.2.length:Int))).bind fun kZ46=>(rZ38.2[(Int.toNat sZ42)]?).bind fun yZ47=>(Ft yZ45 yZ47).bind fun rZ48=>cond (!rZ48) (some true) ((uG rZ3.1 yZ45).bind fun rZ50=>some (!rZ50)):Option Bool).bind fun oZ51=>cond (oZ51) (some (.inr (.inr false))) (some (.inl (IntKind.wrap .i64 (sZ42+1))))) (some (.inr (.inl ())))
def JP (codeZ0:List Int):Option Bool :=
 (LC codeZ0).bind fun rZ1=>cond (rZ1) (some true) ((Dk codeZ0).bind fun rZ3=>(EP rZ3.1 rZ3.2.2 rZ3.2.1).bind fun rZ4=>(IB rZ3.1 rZ3.2.2 rZ3.2.1).bind fun rZ5=>(cond (!(rZ4.2==rZ5.2)) (some true) (some ((rZ4.1.length:Int) != (rZ5.1.length:Int))):Option Bool).bind fun oZ7=>cond (oZ7) (some false) ((aZ (vK rZ3 rZ4) N0 0).bind fun oZ25=>(match oZ25 with | .inl vZ26=>(Dp rZ3.1 rZ3.2.2).bind fun rZ28=>(uG rZ3.1 rZ3.2.2).bind fun rZ29=>cond (!(rZ28.2.2==rZ29)) (some false) ((cond (rZ28.2.2) (cond ((rZ28.1.length:Int) != (rZ3.2.2.length:Int)) (some true) (cond (rZ4.2) ((xj rZ28.2.1 rZ3.2.1).bind fun rZ34=>some (!(((rZ4.1.length:Int)==2)==rZ34))) (some false))) (some false):Option Bool).bind fun oZ35=>cond (oZ35) (some false) ((HY rZ3.1).bind fun rZ37=>(zF rZ3.1).bind fun rZ38=>(cond (!(rZ37.2==rZ38.1)) (some true) (some ((rZ37.1.length:Int) != (rZ38.2.length:Int))):Option Bool).bind fun oZ40=>cond (oZ40) (some false) ((aZ (vr rZ3 rZ37 rZ38) N0 0).bind fun oZ53=>(match oZ53 with | .inl vZ54=>some true | .inr xZ55=>some xZ55)))) | .inr xZ27=>some xZ27)))
end Vs

namespace Vs
open Go
theorem ft {τq:Type} (vw:τq→au) (tz:τq) (X:List τq) (a:Int):pc vw tz X a=na (fun t s=>jH (vw t) s) tz X a:=by
 have h1:Ee vw tz X=oW (fun t s=>jH (vw t) s) X:=rfl
 have h2:ET vw tz X=nA (fun t s=>jH (vw t) s) X:=rfl
 have h3:vd vw tz X a=vq (fun t s=>jH (vw t) s) X a:=by
  unfold vd vq
  rw [h1]
  congr 1
  funext o; cases o <;> rfl
 unfold pc na
 rw [h2,h3]
theorem fy {H:World→Prop} (XZ0:List (Tok H aw 2)) (abZ0:Int) {r:Nat×Nat×List au×Int} (h:pc id (⟨0,[]⟩:au) (XZ0.map Tok.x) abZ0=some r) :
 ∃ YZ0:List (Tok H aw 2),pc Tok.x eJ XZ0 abZ0=some (r.1,r.2.1,YZ0,r.2.2.2)∧Sel XZ0 YZ0∧YZ0.map Tok.x=r.2.2.1:=by
 rw [ft] at h ⊢
 exact LD (p:=fun t s=>jH t s) rfl uC h
end Vs

namespace Vs
open Go Go.Proofs
theorem bc:Tryz.prog.follows .mixedOrders=true:=Tryz.checked.mixed
def qp:Go.Shelf.Ren:=⟨fun | 6=>80 | 15=>119 | 14=>118 | 28=>151 | 29=>152 | 20=>143 | 21=>144 | 22=>145 | 23=>146 | 24=>147 | 25=>148 | 26=>149 | 27=>150 | 46=>167 | 47=>168 | 48=>169 | 49=>170 | 50=>171 | 57=>183 | n=>n,fun | 22=>60 | 24=>65 | 25=>103 | 3=>3 | 39=>70 | 0=>0 | 53=>152 | 55=>89 | 4=>4 | 46=>146 | 45=>145 | 50=>55 | 5=>5 | 9=>9 | 66=>163 | 70=>167 | 76=>176 | 77=>177 | n=>n,fun | n=>n⟩
theorem NQ:Go.Proofs.SlLaysF0.n6 Tryz.prog qp:={
 mixed:=by kernel_rfl
 f6:=⟨Tryz.f80.name,by decide,Tryz.func80.trans (congrArg some (by kernel_rfl))⟩
 f14:=⟨Tryz.f118.name,by decide,Tryz.func118.trans (congrArg some (by kernel_rfl))⟩
 f15:=Tryz.func119.trans (congrArg some (by kernel_rfl))
 f20:=⟨Tryz.f143.name,by decide,Tryz.func143.trans (congrArg some (by kernel_rfl))⟩
 f21:=⟨Tryz.f144.name,by decide,Tryz.func144.trans (congrArg some (by kernel_rfl))⟩
 f22:=⟨Tryz.f145.name,by decide,Tryz.func145.trans (congrArg some (by kernel_rfl))⟩
 f23:=⟨Tryz.f146.name,by decide,Tryz.func146.trans (congrArg some (by kernel_rfl))⟩
 f24:=⟨Tryz.f147.name,by decide,Tryz.func147.trans (congrArg some (by kernel_rfl))⟩
 f25:=⟨Tryz.f148.name,by decide,Tryz.func148.trans (congrArg some (by kernel_rfl))⟩
 f26:=⟨Tryz.f149.name,by decide,Tryz.func149.trans (congrArg some (by kernel_rfl))⟩
 f27:=⟨Tryz.f150.name,by decide,Tryz.func150.trans (congrArg some (by kernel_rfl))⟩
 f28:=Tryz.func151.trans (congrArg some (by kernel_rfl))
 f29:=Tryz.func152.trans (congrArg some (by kernel_rfl))
 f46:=⟨Tryz.f167.name,by decide,Tryz.func167.trans (congrArg some (by kernel_rfl))⟩
 f47:=Tryz.func168.trans (congrArg some (by kernel_rfl))
 f48:=Tryz.func169.trans (congrArg some (by kernel_rfl))
 f49:=⟨Tryz.f170.name,by decide,Tryz.func170.trans (congrArg some (by kernel_rfl))⟩
 f50:=⟨Tryz.f171.name,by decide,Tryz.func171.trans (congrArg some (by kernel_rfl))⟩
 f57:=⟨Tryz.f183.name,by decide,Tryz.func183.trans (congrArg some (by kernel_rfl))⟩
 t0:=Tryz.underlying0
 a0:=Tryz.isAgg0
 z0:=Tryz.sizeOf0
 v0:=Tryz.zeroValue0
 t3:=Tryz.underlying3
 a3:=Tryz.isAgg3
 z3:=Tryz.sizeOf3
 v3:=Tryz.zeroValue3
 t4:=Tryz.underlying4
 a4:=Tryz.isAgg4
 z4:=Tryz.sizeOf4
 v4:=Tryz.zeroValue4
 t5:=Tryz.underlying5
 a5:=Tryz.isAgg5
 z5:=Tryz.sizeOf5
 v5:=Tryz.zeroValue5
 t9:=Tryz.underlying9
 a9:=Tryz.isAgg9
 z9:=Tryz.sizeOf9
 v9:=Tryz.zeroValue9
 t22:=Tryz.underlying60
 a22:=Tryz.isAgg60
 z22:=Tryz.sizeOf60
 v22:=Tryz.zeroValue60
 t25:=Tryz.underlying103
 a25:=Tryz.isAgg103
 z25:=Tryz.sizeOf103
 v25:=Tryz.zeroValue103
 t39:=Tryz.underlying70
 a39:=Tryz.isAgg70
 z39:=Tryz.sizeOf70
 v39:=Tryz.zeroValue70
 t45:=Tryz.underlying145
 a45:=Tryz.isAgg145
 z45:=Tryz.sizeOf145
 v45:=Tryz.zeroValue145
 t46:=Tryz.underlying146
 a46:=Tryz.isAgg146
 z46:=Tryz.sizeOf146
 v46:=Tryz.zeroValue146
 t50:=Tryz.underlying55
 a50:=Tryz.isAgg55
 z50:=Tryz.sizeOf55
 v50:=Tryz.zeroValue55
 t53:=Tryz.underlying152
 a53:=Tryz.isAgg152
 z53:=Tryz.sizeOf152
 v53:=Tryz.zeroValue152
 t55:=Tryz.underlying89
 a55:=Tryz.isAgg89
 z55:=Tryz.sizeOf89
 v55:=Tryz.zeroValue89
 t66:=Tryz.underlying163
 a66:=Tryz.isAgg163
 z66:=Tryz.sizeOf163
 v66:=Tryz.zeroValue163
 t70:=Tryz.underlying167
 a70:=Tryz.isAgg167
 z70:=Tryz.sizeOf167
 v70:=Tryz.zeroValue167
 t76:=Tryz.underlying176
 a76:=Tryz.isAgg176
 z76:=Tryz.sizeOf176
 v76:=Tryz.zeroValue176
 t77:=Tryz.underlying177
 a77:=Tryz.isAgg177
 z77:=Tryz.sizeOf177
 v77:=Tryz.zeroValue177 }
theorem Qk:qA Tryz.prog 80 2 (shK 2):=OS (ρ:=qp) NQ 2 (by decide) Tryz.isAgg65 Tryz.sizeOf65 (AnyF.slices_SortFunc_none NQ) ⟨_,Tryz.func80,by kernel_rfl,by kernel_rfl⟩
def nE:Go.Shelf.Ren:=⟨fun | 6=>130 | 15=>119 | 14=>156 | 28=>151 | 29=>152 | 20=>172 | 21=>173 | 22=>174 | 23=>175 | 24=>176 | 25=>177 | 26=>178 | 27=>179 | 46=>184 | 47=>168 | 48=>169 | 49=>185 | 50=>186 | 57=>188 | n=>n,fun | 22=>39 | 24=>27 | 25=>123 | 3=>3 | 39=>70 | 0=>0 | 53=>152 | 55=>89 | 4=>4 | 46=>146 | 45=>145 | 50=>55 | 5=>5 | 9=>9 | 66=>163 | 70=>167 | 76=>176 | 77=>177 | n=>n,fun | n=>n⟩
theorem DA:Go.Proofs.SlLaysF.n6 Tryz.prog nE:={
 mixed:=by kernel_rfl
 f6:=⟨Tryz.f130.name,by decide,Tryz.func130.trans (congrArg some (by kernel_rfl))⟩
 f14:=⟨Tryz.f156.name,by decide,Tryz.func156.trans (congrArg some (by kernel_rfl))⟩
 f15:=Tryz.func119.trans (congrArg some (by kernel_rfl))
 f20:=⟨Tryz.f172.name,by decide,Tryz.func172.trans (congrArg some (by kernel_rfl))⟩
 f21:=⟨Tryz.f173.name,by decide,Tryz.func173.trans (congrArg some (by kernel_rfl))⟩
 f22:=⟨Tryz.f174.name,by decide,Tryz.func174.trans (congrArg some (by kernel_rfl))⟩
 f23:=⟨Tryz.f175.name,by decide,Tryz.func175.trans (congrArg some (by kernel_rfl))⟩
 f24:=⟨Tryz.f176.name,by decide,Tryz.func176.trans (congrArg some (by kernel_rfl))⟩
 f25:=⟨Tryz.f177.name,by decide,Tryz.func177.trans (congrArg some (by kernel_rfl))⟩
 f26:=⟨Tryz.f178.name,by decide,Tryz.func178.trans (congrArg some (by kernel_rfl))⟩
 f27:=⟨Tryz.f179.name,by decide,Tryz.func179.trans (congrArg some (by kernel_rfl))⟩
 f28:=Tryz.func151.trans (congrArg some (by kernel_rfl))
 f29:=Tryz.func152.trans (congrArg some (by kernel_rfl))
 f46:=⟨Tryz.f184.name,by decide,Tryz.func184.trans (congrArg some (by kernel_rfl))⟩
 f47:=Tryz.func168.trans (congrArg some (by kernel_rfl))
 f48:=Tryz.func169.trans (congrArg some (by kernel_rfl))
 f49:=⟨Tryz.f185.name,by decide,Tryz.func185.trans (congrArg some (by kernel_rfl))⟩
 f50:=⟨Tryz.f186.name,by decide,Tryz.func186.trans (congrArg some (by kernel_rfl))⟩
 f57:=⟨Tryz.f188.name,by decide,Tryz.func188.trans (congrArg some (by kernel_rfl))⟩
 t0:=Tryz.underlying0
 a0:=Tryz.isAgg0
 z0:=Tryz.sizeOf0
 v0:=Tryz.zeroValue0
 t3:=Tryz.underlying3
 a3:=Tryz.isAgg3
 z3:=Tryz.sizeOf3
 v3:=Tryz.zeroValue3
 t4:=Tryz.underlying4
 a4:=Tryz.isAgg4
 z4:=Tryz.sizeOf4
 v4:=Tryz.zeroValue4
 t5:=Tryz.underlying5
 a5:=Tryz.isAgg5
 z5:=Tryz.sizeOf5
 v5:=Tryz.zeroValue5
 t9:=Tryz.underlying9
 a9:=Tryz.isAgg9
 z9:=Tryz.sizeOf9
 v9:=Tryz.zeroValue9
 t22:=Tryz.underlying39
 a22:=Tryz.isAgg39
 z22:=Tryz.sizeOf39
 v22:=Tryz.zeroValue39
 a24:=Tryz.isAgg27
 z24:=Tryz.sizeOf27
 t25:=Tryz.underlying123
 a25:=Tryz.isAgg123
 z25:=Tryz.sizeOf123
 v25:=Tryz.zeroValue123
 t39:=Tryz.underlying70
 a39:=Tryz.isAgg70
 z39:=Tryz.sizeOf70
 v39:=Tryz.zeroValue70
 t45:=Tryz.underlying145
 a45:=Tryz.isAgg145
 z45:=Tryz.sizeOf145
 v45:=Tryz.zeroValue145
 t46:=Tryz.underlying146
 a46:=Tryz.isAgg146
 z46:=Tryz.sizeOf146
 v46:=Tryz.zeroValue146
 t50:=Tryz.underlying55
 a50:=Tryz.isAgg55
 z50:=Tryz.sizeOf55
 v50:=Tryz.zeroValue55
 t53:=Tryz.underlying152
 a53:=Tryz.isAgg152
 z53:=Tryz.sizeOf152
 v53:=Tryz.zeroValue152
 t55:=Tryz.underlying89
 a55:=Tryz.isAgg89
 z55:=Tryz.sizeOf89
 v55:=Tryz.zeroValue89
 t66:=Tryz.underlying163
 a66:=Tryz.isAgg163
 z66:=Tryz.sizeOf163
 v66:=Tryz.zeroValue163
 t70:=Tryz.underlying167
 a70:=Tryz.isAgg167
 z70:=Tryz.sizeOf167
 v70:=Tryz.zeroValue167
 t76:=Tryz.underlying176
 a76:=Tryz.isAgg176
 z76:=Tryz.sizeOf176
 v76:=Tryz.zeroValue176
 t77:=Tryz.underlying177
 a77:=Tryz.isAgg177
 z77:=Tryz.sizeOf177
 v77:=Tryz.zeroValue177 }
theorem KN:qA Tryz.prog 130 1 sh1:=PE (ρ:=nE) DA (AnyF.slices_SortFunc_none { DA with }) ⟨_,Tryz.func130,by kernel_rfl,by kernel_rfl⟩
def A22:aj:=(.seq (.reg [Zo 2 (.mv (.c (.b false)))] []) (.seq (.reg [Zm 3 0,Zk 4 3,Zd 5 .gtr 4 65536,Zm 2 5] []) .ret))
def V22:List RV:=[.t 2]
theorem m22:bh Tryz.prog 22 1 A22 V22=true:=by kernel_rfl
def tH:aj:=(.seq (.reg [Zm 25 0,Zo 26 (.nilc (Zt 25)),Za 27 1 26,Zl 28 27,Zd 29 .add 28 1,Zo 30 (.nilc (Zt 25)),Za 31 1 30,⟨none,.store 1 (Zt 31) (Zt 29),none⟩] []) (.seq (.reg [Zm 32 0,Zm 33 0,Zo 34 (.nilc (Zt 33)),Za 35 2 34,Zl 36 35,Zo 37 (.bin .mul (Zt 36) (.c (.sc (.int .u64 6364136223846793005)))),Zm 38 3,Zo 39 (.conv .u64 (Zt 38)),Zb 40 .add 37 39,Zo 41 (.bin .add (Zt 40) (.c (.sc (.int .u64 897897)))),Zo 42 (.nilc (Zt 32)),Za 43 2 42,⟨none,.store 1 (Zt 43) (Zt 41),none⟩] []) (.seq (.seq (.drw [Zm 44 0,Zo 45 (.nilc (Zt 44)),Za 46 1 45,Zl 47 46,Zm 48 0,Zo 49 (.nilc (Zt 48)),Za 50 0 49,Zl 51 50,Zk 52 51,Zb 53 .leq 47 52] []) (.cond (Zt 53) (.seq (.reg [Zm 54 3,Zm 2 54] []) .ret) .skip)) (.seq (.reg [Zm 55 0,Zo 56 (.nilc (Zt 55)),Za 57 2 56,Zl 58 57,Zo 59 (.bin .shr (Zt 58) (.c (.sc (.int .u64 40)))),Zo 60 (.bin .and (Zt 59) (.c (.sc (.int .u64 255)))),Zo 61 (.conv .i64 (Zt 60)),Zm 2 61] []) .ret))))
def GI:aj:=(.seq (.reg [Zn 2 0] []) (.seq (.reg [Zn 3 0] []) (.seqr (.seq (.drw [Zm 4 0,Zo 5 (.nilc (Zt 4)),Za 6 1 5,Zl 7 6,Zm 8 0,Zo 9 (.nilc (Zt 8)),Za 10 0 9,Zl 11 10,Zk 12 11,Zb 13 .lss 7 12] []) (.cond (Zt 13) (.drw [Zm 14 0,Zo 15 (.nilc (Zt 14)),Za 16 0 15,Zl 17 16,Zm 18 0,Zo 19 (.nilc (Zt 18)),Za 20 1 19,Zl 21 20,Zx 22 1 17 21,Zl 23 22,Zo 24 (.conv .i64 (Zt 23)),Zm 3 24] []) .skip)) [0,3] [1000000000] tH)))
def rd:List RV:=[.t 2]
theorem Rt:bh Tryz.prog 109 1 GI rd=true:=by kernel_rfl
def Ot:aj:=(.seq (.reg [Zn 4 0] []) (.seq (.seq (.reg [Zm 6 1,Zd 7 .leq 6 1] []) (.cond (Zt 7) (.seq (.reg [Zn 4 0] []) .ret) .skip)) (.seq (.reg [Zm 8 0,Zo 9 (.callM 109 [(Zt 8)] [1000000000]),Zm 5 9] []) (.seq (.seq (.reg [Zm 10 1,Zd 11 .gtr 10 200] []) (.cond (Zt 11) (.reg [Zm 12 5,Zd 13 .mul 12 256,Zm 14 0,Zo 15 (.callM 109 [(Zt 14)] [1000000000]),Zb 16 .add 13 15,Zm 5 16] []) .skip)) (.seq (.reg [Zm 17 5,Zm 18 1,Zb 19 .rem 17 18,Zm 4 19] []) .ret)))))
def sv:List RV:=[.t 4]
theorem Sb:bh Tryz.prog 67 2 Ot sv=true:=by kernel_rfl
def Fs:aj:=(.seq (.reg [Zo 4 (.mv (.c (.b false)))] []) (.seq (.reg [Zm 5 0,Zm 6 1,Zo 7 (.callM 67 [(Zt 5),(Zt 6)] [1000000000]),Zd 8 .eql 7 0,Zm 4 8] []) .ret))
def xB:List RV:=[.t 4]
theorem Rb:bh Tryz.prog 139 2 Fs xB=true:=by kernel_rfl
def A104:aj:=(.seq (.reg [Zn 4 0] []) (.seq (.seq (.reg [Zm 5 0,Zm 6 1,Zb 7 .lss 5 6] []) (.cond (Zt 7) (.seq (.reg [Zm 8 0,Zm 4 8] []) .ret) .skip)) (.seq (.reg [Zm 9 1,Zm 4 9] []) .ret)))
def Mp:List RV:=[.t 4]
theorem m104:bh Tryz.prog 104 2 A104 Mp=true:=by kernel_rfl
def A74:aj:=(.seq (.reg [Zn 4 0] []) (.seq (.seq (.reg [Zm 5 0,Zm 6 1,Zb 7 .gtr 5 6] []) (.cond (Zt 7) (.seq (.reg [Zm 8 0,Zm 4 8] []) .ret) .skip)) (.seq (.reg [Zm 9 1,Zm 4 9] []) .ret)))
def V74:List RV:=[.t 4]
theorem m74:bh Tryz.prog 74 2 A74 V74=true:=by kernel_rfl
def NW:aj:=(.seq (.reg [Zn 4 0] []) (.seq (.reg [Zm 5 1,Zm 6 0,Zm 7 1,Zk 8 7,Zo 9 (.callM 67 [(Zt 6),(Zt 8)] [1000000000]),Zx 10 1 5 9,Zl 11 10,Zm 4 11] []) .ret))
def Ge:List RV:=[.t 4]
theorem Sq:bh Tryz.prog 66 2 NW Ge=true:=by kernel_rfl
def A103:aj:=(.seq (.reg [Zo 2 (.box 4 (Zt 0)),Zo 3 (.box 4 (Zt 1)),Zn 4 0] []) (.seq (.blk 0 (.seq (.reg [Za 6 0 2,Zl 7 6,Za 8 0 3,Zl 9 8,Zb 10 .neq 7 9,Zm 5 10] []) (.cond (Zt 5) (.seq (.reg [Za 11 0 2,Zl 12 11,Za 13 0 3,Zl 14 13,Zb 15 .sub 12 14,Zm 4 15] []) .ret) (.seq (.reg [Za 17 1 2,Zl 18 17,Za 19 1 3,Zl 20 19,Zb 21 .neq 18 20,Zm 16 21] []) (.cond (Zt 16) (.seq (.reg [Za 22 1 2,Zl 23 22,Za 24 1 3,Zl 25 24,Zb 26 .sub 23 25,Zm 4 26] []) .ret) (.seq (.reg [Za 28 2 2,Zl 29 28,Za 30 2 3,Zl 31 30,Zb 32 .neq 29 31,Zm 27 32] []) (.cond (Zt 27) (.seq (.reg [Za 33 2 2,Zl 34 33,Za 35 2 3,Zl 36 35,Zb 37 .sub 34 36,Zm 4 37] []) .ret) .skip))))))) (.seq (.reg [Za 38 3 2,Zl 39 38,Za 40 3 3,Zl 41 40,Zb 42 .sub 39 41,Zm 4 42] []) .ret)))
def CS:List RV:=[.t 4]
theorem m103:bh Tryz.prog 103 2 A103 CS=true:=by kernel_rfl
def wl:aj:=(.seq (.seq (.drw [Zm 6 5,Zm 7 0,Zk 8 7,Zb 9 .lss 6 8,Zm 10 9,⟨(some 11),.mv (Zt 0),(some (10,true))⟩,⟨(some 12),.mv (Zt 5),(some (10,true))⟩,⟨(some 13),.idx 4 (Zt 11) (Zt 12),(some (10,true))⟩,⟨(some 14),.load 4 true (Zt 13),(some (10,true))⟩,⟨(some 15),.load 4 true (Zt 3),(some (10,true))⟩,⟨(some 16),.call 103 [(Zt 14),(Zt 15)],(some (10,true))⟩,⟨(some 17),.bin .leq (Zt 16) (.c (.i 0)),(some (10,true))⟩,Zo 18 (.pick (Zt 10) (Zt 17) (.c (.b false)))] []) (.cond (Zt 18) .skip (.exit 0))) (.blk 1 (.reg [Zm 19 5,Zd 20 .add 19 1,Zm 5 20] [])))
def IJ:aj:=(.seq (.drw [Zo 21 (.bsl 4 true []),Zm 22 0,Zm 23 5,Zo 24 (.slc 4 (Zt 22) none (some (Zt 23)) none),Zo 25 (.app 4 32 false (Zt 21) (Zt 24)),Zo 26 (.load 4 true (Zt 3)),Zo 27 (.bsl 4 true [(Zt 26)]),Zo 28 (.app 4 32 true (Zt 25) (Zt 27)),Zm 29 0,Zm 30 5,Zo 31 (.slc 4 (Zt 29) (some (Zt 30)) none none),Zo 32 (.app 4 32 false (Zt 28) (Zt 31)),Zm 4 32] [.s 4]) .ret)
def A140:aj:=(.seq (.reg [Zo 3 (.box 4 (Zt 1)),Zo 4 (.mv (.c (.lst .u 4 [])))] [.s 4]) (.seq (.reg [Zn 5 0] []) (.seqr (.blk 0 (.loop wl)) [0,3,5] [3] IJ)))
def QZ:List RV:=[.t 4]
theorem m140:bh Tryz.prog 140 2 A140 QZ=true:=by kernel_rfl
def tk:aj:=(.cond (Zt 32) (.exit 1) .skip)
def mS:aj:=(.seq (.seq (.reg [Zm 17 5,Zm 18 3,Zb 19 .lss 17 18] []) (.cond (Zt 19) .skip (.exit 0))) (.seq (.blk 1 (.seq (.reg [Zm 22 5,Zd 23 .add 22 1,Zm 24 3,Zb 25 .rem 23 24,Zm 6 25] []) (.seq (.seqr (.reg [Zm 26 5,Zm 27 6,Zb 28 .eql 26 27,Zm 29 28,⟨(some 30),.mv (Zt 0),(some (29,false))⟩,⟨(some 31),.callM 139 [(Zt 30),(.c (.i 10))] [1000000000],(some (29,false))⟩,Zo 32 (.pick (Zt 29) (.c (.b true)) (Zt 31))] []) [0,2,3,4,5,6,32] [2,4,500000256,500000257,1000000000] tk) (.drw [Zo 33 (.fdv [46,1000000000] 1 (Zt 4)),Zo 34 (.ldv [46,1000000000] 1 false (Zt 33)),Zm 35 5,Zm 36 6,Zo 37 (.call 104 [(Zt 35),(Zt 36)]),Zm 38 5,Zm 39 6,Zo 40 (.call 74 [(Zt 38),(Zt 39)]),Zm 41 0,Zo 42 (.callM 67 [(Zt 41),(.c (.i 8))] [1000000000]),Zo 43 (.bin .add (.c (.i 1)) (Zt 42)),Zo 44 (.bin .mul (.c (.i 100)) (Zt 43)),Zm 45 0,Zo 46 (.bsl 1 true [(.c (.i 0)),(.c (.i 0)),(.c (.i 0)),(.c (.i 1)),(.c (.i 2))]),Zo 47 (.callM 66 [(Zt 45),(Zt 46)] [1000000000,46]),Zo 48 (.build [.i 0,.i 0,.i 0,.i 0] [(0,1,(Zt 37)),(1,1,(Zt 40)),(2,1,(Zt 44)),(3,1,(Zt 47))]),Zo 49 (.call 140 [(Zt 34),(Zt 48)]),Za 50 1 4,⟨none,.store 1 (Zt 50) (Zt 49),none⟩] [.f false 500000257 4 1])))) (.reg [Zm 20 5,Zd 21 .add 20 1,Zm 5 21] [])))
def nZ:aj:=(.seq (.seq (.reg [Zm 53 7,Zd 54 .gtr 53 0] []) (.cond (Zt 54) .skip (.exit 2))) (.seq (.blk 3 (.seq (.reg [Zm 57 0,Zm 58 3,Zo 59 (.callM 67 [(Zt 57),(Zt 58)] [1000000000]),Zm 60 0,Zm 61 3,Zo 62 (.callM 67 [(Zt 60),(Zt 61)] [1000000000]),Zm 8 59,Zm 9 62] []) (.seq (.reg [Zm 63 8,Zm 64 9,Zb 65 .neq 63 64] []) (.cond (Zt 65) (.drw [Zo 66 (.fdv [79,1000000000] 1 (Zt 4)),Zo 67 (.ldv [79,1000000000] 1 false (Zt 66)),Zm 68 8,Zm 69 9,Zo 70 (.call 104 [(Zt 68),(Zt 69)]),Zm 71 8,Zm 72 9,Zo 73 (.call 74 [(Zt 71),(Zt 72)]),Zm 74 0,Zo 75 (.callM 67 [(Zt 74),(.c (.i 8))] [1000000000]),Zo 76 (.bin .add (.c (.i 1)) (Zt 75)),Zo 77 (.bin .mul (.c (.i 100)) (Zt 76)),Zm 78 0,Zo 79 (.bsl 1 true [(.c (.i 0)),(.c (.i 0)),(.c (.i 0)),(.c (.i 1)),(.c (.i 2))]),Zo 80 (.callM 66 [(Zt 78),(Zt 79)] [1000000000,79]),Zo 81 (.build [.i 0,.i 0,.i 0,.i 0] [(0,1,(Zt 70)),(1,1,(Zt 73)),(2,1,(Zt 77)),(3,1,(Zt 80))]),Zo 82 (.call 140 [(Zt 67),(Zt 81)]),Za 83 1 4,⟨none,.store 1 (Zt 83) (Zt 82),none⟩] [.f false 500000257 4 1]) .skip)))) (.reg [Zm 55 7,Zd 56 .sub 55 1,Zm 7 56] [])))
def uQ:aj:=(.seq (.reg [Zo 84 (.load 2 true (Zt 4)),⟨none,.store 2 (Zt 2) (Zt 84),none⟩] [.f false 500000128 2 0,.f false 500000129 2 1]) .ret)
def sQ:aj:=(.seqa (.reg [Zm 51 0,Zo 52 (.callM 67 [(Zt 51),(.c (.i 4))] [1000000000]),Zm 7 52] []) (.blk 2 (.loop nZ)) [2,4] [2,4,500000256,500000257,1000000000] uQ)
def Dr:aj:=(.seq (.reg [Zo 2 (.alloc (.agg [.lst .u 1 [],.lst .u 4 []]))] []) (.seq (.reg [Zm 10 0,Zo 11 (.callM 67 [(Zt 10),(.c (.i 5))] [1000000000]),Zo 12 (.bin .add (.c (.i 2)) (Zt 11)),Zm 3 12] []) (.seq (.reg [Zo 13 (.bsl 1 false [(.c (.z ⟨#[97]⟩)),(.c (.z ⟨#[98]⟩)),(.c (.z ⟨#[99]⟩)),(.c (.z ⟨#[100]⟩)),(.c (.z ⟨#[101]⟩)),(.c (.z ⟨#[102]⟩))]),Zm 14 3,Zo 15 (.slc 1 (Zt 13) none (some (Zt 14)) none),Zo 16 (.build [.lst .u 1 [],.lst .u 4 []] [(0,1,(Zt 15))]),Zo 4 (.alloc (.agg [.lst .u 1 [],.lst .u 4 []])),⟨none,.store 2 (Zt 4) (Zt 16),none⟩] [.f false 500000256 4 0,.f false 500000257 4 1]) (.seqa (.reg [Zn 5 0] []) (.blk 0 (.loop mS)) [0,2,3,4] [2,4,500000256,500000257,1000000000] sQ))))
def wA:List RV:=[.c 2 2 true]
theorem QU:bh Tryz.prog 107 1 Dr wA=true:=by kernel_rfl
def A72:aj:=(.seq (.reg [Zo 6 (.mv (.c (.b false)))] []) (.seq (.reg [Zm 7 0,Zm 8 1,Zb 9 .geq 7 8,Zm 10 9,⟨(some 11),.mv (Zt 0),(some (10,true))⟩,⟨(some 12),.mv (Zt 2),(some (10,true))⟩,⟨(some 13),.bin .leq (Zt 11) (Zt 12),(some (10,true))⟩,Zo 14 (.pick (Zt 10) (Zt 13) (.c (.b false))),Zm 6 14] []) .ret))
def V72:List RV:=[.t 6]
theorem m72:bh Tryz.prog 72 3 A72 V72=true:=by kernel_rfl
def A136:aj:=(.seq (.reg [Zo 2 (.mv (.c (.b false)))] []) (.seq (.reg [Zm 3 0,Zo 4 (.bin .geq (Zt 3) (.c (.sc (.int .u8 97)))),Zm 5 4,⟨(some 6),.mv (Zt 0),(some (5,true))⟩,⟨(some 7),.bin .leq (Zt 6) (.c (.sc (.int .u8 122))),(some (5,true))⟩,Zo 8 (.pick (Zt 5) (Zt 7) (.c (.b false))),Zm 9 8,⟨(some 10),.mv (Zt 0),(some (9,false))⟩,⟨(some 11),.bin .geq (Zt 10) (.c (.sc (.int .u8 48))),(some (9,false))⟩,⟨(some 12),.mv (Zt 11),(some (9,false))⟩,⟨(some 13),.mv (Zt 0),(some (12,true))⟩,⟨(some 14),.bin .leq (Zt 13) (.c (.sc (.int .u8 57))),(some (12,true))⟩,⟨(some 15),.pick (Zt 12) (Zt 14) (.c (.b false)),(some (9,false))⟩,Zo 16 (.pick (Zt 9) (.c (.b true)) (Zt 15)),Zm 2 16] []) .ret))
def wE:List RV:=[.t 2]
theorem m136:bh Tryz.prog 136 1 A136 wE=true:=by kernel_rfl
def Jg:aj:=(.cond (Zt 17) (.seq (.reg [Zo 2 (.mv (.c (.b false)))] []) .ret) .skip)
def xk:aj:=(.seq (.seq (.reg [Zm 18 3,Zm 19 0,Zo 20 (.lenz (Zt 19)),Zb 21 .lss 18 20] []) (.cond (Zt 21) .skip (.exit 0))) (.seq (.blk 1 (.seq (.reg [Zm 24 0,Zm 25 3,Zo 26 (.stri (Zt 24) (Zt 25)),Zo 27 (.call 136 [(Zt 26)]),Zo 28 (.un .not (Zt 27))] []) (.cond (Zt 28) (.seq (.reg [Zo 2 (.mv (.c (.b false)))] []) .ret) .skip))) (.reg [Zm 22 3,Zd 23 .add 22 1,Zm 3 23] [])))
def FC:aj:=(.seq (.reg [Zo 2 (.mv (.c (.b true)))] []) .ret)
def A100:aj:=(.seq (.reg [Zo 2 (.mv (.c (.b false)))] []) (.seq (.seqr (.reg [Zm 4 0,Zo 5 (.lenz (Zt 4)),Zo 6 (.call 72 [(Zt 5),(.c (.i 1)),(.c (.i 8))]),Zo 7 (.un .not (Zt 6)),Zm 8 7,⟨(some 9),.mv (Zt 0),(some (8,false))⟩,⟨(some 10),.stri (Zt 9) (.c (.i 0)),(some (8,false))⟩,⟨(some 11),.bin .lss (Zt 10) (.c (.sc (.int .u8 97))),(some (8,false))⟩,Zo 12 (.pick (Zt 8) (.c (.b true)) (Zt 11)),Zm 13 12,⟨(some 14),.mv (Zt 0),(some (13,false))⟩,⟨(some 15),.stri (Zt 14) (.c (.i 0)),(some (13,false))⟩,⟨(some 16),.bin .gtr (Zt 15) (.c (.sc (.int .u8 122))),(some (13,false))⟩,Zo 17 (.pick (Zt 13) (.c (.b true)) (Zt 16))] []) [0,17] [] Jg) (.seqa (.reg [Zn 3 0] []) (.blk 0 (.loop xk)) [] [] FC)))
def BN:List RV:=[.t 2]
theorem m100:bh Tryz.prog 100 1 A100 BN=true:=by kernel_rfl
def vZ:aj:=(.seq (.seq (.reg [Zm 6 5,Zm 7 0,Zk 8 7,Zb 9 .lss 6 8] []) (.cond (Zt 9) .skip (.exit 0))) (.seq (.blk 1 (.seq (.reg [Zm 12 0,Zm 13 5,Zx 14 1 12 13,Zl 15 14,Zm 16 1,Zb 17 .eql 15 16] []) (.cond (Zt 17) (.seq (.reg [Zm 18 5,Zm 4 18] []) .ret) .skip))) (.reg [Zm 10 5,Zd 11 .add 10 1,Zm 5 11] [])))
def Ie:aj:=(.seq (.reg [Zn 4 (-1)] []) .ret)
def A101:aj:=(.seq (.reg [Zn 4 0] []) (.seqa (.reg [Zn 5 0] []) (.blk 0 (.loop vZ)) [] [] Ie))
def Gx:List RV:=[.t 4]
theorem m101:bh Tryz.prog 101 2 A101 Gx=true:=by kernel_rfl
def A102:aj:=(.seq (.reg [Zo 2 (.box 4 (Zt 0)),Zo 4 (.mv (.c (.b false)))] []) (.seq (.reg [Za 5 0 2,Zl 6 5,Zm 7 1,Zd 8 .sub 7 1,Zo 9 (.call 72 [(Zt 6),(.c (.i 0)),(Zt 8)]),Zm 10 9,⟨(some 11),.fad 1 (Zt 2),(some (10,true))⟩,⟨(some 12),.load 1 false (Zt 11),(some (10,true))⟩,⟨(some 13),.fad 0 (Zt 2),(some (10,true))⟩,⟨(some 14),.load 1 false (Zt 13),(some (10,true))⟩,⟨(some 15),.bin .add (Zt 14) (.c (.i 1)),(some (10,true))⟩,⟨(some 16),.mv (Zt 1),(some (10,true))⟩,⟨(some 17),.bin .sub (Zt 16) (.c (.i 1)),(some (10,true))⟩,⟨(some 18),.call 72 [(Zt 12),(Zt 15),(Zt 17)],(some (10,true))⟩,Zo 19 (.pick (Zt 10) (Zt 18) (.c (.b false))),Zm 20 19,⟨(some 21),.fad 2 (Zt 2),(some (20,true))⟩,⟨(some 22),.load 1 false (Zt 21),(some (20,true))⟩,⟨(some 23),.call 72 [(Zt 22),(.c (.i 1)),(.c (.i 5000))],(some (20,true))⟩,Zo 24 (.pick (Zt 20) (Zt 23) (.c (.b false))),Zm 25 24,⟨(some 26),.fad 3 (Zt 2),(some (25,true))⟩,⟨(some 27),.load 1 false (Zt 26),(some (25,true))⟩,⟨(some 28),.call 72 [(Zt 27),(.c (.i 0)),(.c (.i 9))],(some (25,true))⟩,Zo 29 (.pick (Zt 25) (Zt 28) (.c (.b false))),Zm 4 29] []) .ret))
def CQ:List RV:=[.t 4]
theorem m102:bh Tryz.prog 102 2 A102 CQ=true:=by kernel_rfl
def NB:aj:=(.cond (Zt 15) (.seq (.reg [Zo 2 (.mv (.c (.b false)))] []) .ret) .skip)
def NX:aj:=(.cond (Zt 41) (.seq (.reg [Zo 2 (.mv (.c (.b false)))] []) .ret) .skip)
def DV:aj:=(.seq (.seq (.reg [Zm 16 3,Za 17 0 1,Zl 18 17,Zk 19 18,Zb 20 .lss 16 19] []) (.cond (Zt 20) .skip (.exit 0))) (.seq (.blk 1 (.seqr (.drw [Za 23 0 1,Zl 24 23,Zm 25 3,Zx 26 1 24 25,Zl 27 26,Zo 28 (.call 100 [(Zt 27)]),Zo 29 (.un .not (Zt 28)),Zm 30 29,⟨(some 31),.fad 0 (Zt 1),(some (30,false))⟩,⟨(some 32),.load 1 false (Zt 31),(some (30,false))⟩,⟨(some 33),.fad 0 (Zt 1),(some (30,false))⟩,⟨(some 34),.load 1 false (Zt 33),(some (30,false))⟩,⟨(some 35),.mv (Zt 3),(some (30,false))⟩,⟨(some 36),.idx 1 (Zt 34) (Zt 35),(some (30,false))⟩,⟨(some 37),.load 1 false (Zt 36),(some (30,false))⟩,⟨(some 38),.call 101 [(Zt 32),(Zt 37)],(some (30,false))⟩,⟨(some 39),.mv (Zt 3),(some (30,false))⟩,⟨(some 40),.bin .neq (Zt 38) (Zt 39),(some (30,false))⟩,Zo 41 (.pick (Zt 30) (.c (.b true)) (Zt 40))] []) [1,3,41] [1] NX)) (.reg [Zm 21 3,Zd 22 .add 21 1,Zm 3 22] [])))
def Om:aj:=(.cond (Zt 77) (.seq (.reg [Zo 2 (.mv (.c (.b false)))] []) .ret) .skip)
def EM:aj:=(.seq (.seq (.reg [Zm 42 4,Za 43 1 1,Zl 44 43,Zk 45 44,Zb 46 .lss 42 45] []) (.cond (Zt 46) .skip (.exit 2))) (.seq (.blk 3 (.seqr (.drw [Za 49 1 1,Zl 50 49,Zm 51 4,Zx 52 4 50 51,Zo 53 (.load 4 true (Zt 52)),Za 54 0 1,Zl 55 54,Zk 56 55,Zo 57 (.call 102 [(Zt 53),(Zt 56)]),Zo 58 (.un .not (Zt 57)),Zm 59 58,⟨(some 60),.mv (Zt 4),(some (59,false))⟩,⟨(some 61),.bin .gtr (Zt 60) (.c (.i 0)),(some (59,false))⟩,⟨(some 62),.mv (Zt 61),(some (59,false))⟩,⟨(some 63),.fad 1 (Zt 1),(some (62,true))⟩,⟨(some 64),.load 1 false (Zt 63),(some (62,true))⟩,⟨(some 65),.mv (Zt 4),(some (62,true))⟩,⟨(some 66),.bin .sub (Zt 65) (.c (.i 1)),(some (62,true))⟩,⟨(some 67),.idx 4 (Zt 64) (Zt 66),(some (62,true))⟩,⟨(some 68),.load 4 true (Zt 67),(some (62,true))⟩,⟨(some 69),.fad 1 (Zt 1),(some (62,true))⟩,⟨(some 70),.load 1 false (Zt 69),(some (62,true))⟩,⟨(some 71),.mv (Zt 4),(some (62,true))⟩,⟨(some 72),.idx 4 (Zt 70) (Zt 71),(some (62,true))⟩,⟨(some 73),.load 4 true (Zt 72),(some (62,true))⟩,⟨(some 74),.call 103 [(Zt 68),(Zt 73)],(some (62,true))⟩,⟨(some 75),.bin .gtr (Zt 74) (.c (.i 0)),(some (62,true))⟩,⟨(some 76),.pick (Zt 62) (Zt 75) (.c (.b false)),(some (59,false))⟩,Zo 77 (.pick (Zt 59) (.c (.b true)) (Zt 76))] []) [1,4,77] [1] Om)) (.reg [Zm 47 4,Zd 48 .add 47 1,Zm 4 48] [])))
def NK:aj:=(.seq (.reg [Zo 2 (.mv (.c (.b true)))] []) .ret)
def Oq:aj:=(.seqa (.reg [Zn 4 0] []) (.blk 2 (.loop EM)) [] [] NK)
def A59:aj:=(.seq (.reg [Zo 1 (.box 2 (Zt 0)),Zo 2 (.mv (.c (.b false)))] []) (.seq (.seqr (.reg [Za 5 0 1,Zl 6 5,Zk 7 6,Zo 8 (.call 72 [(Zt 7),(.c (.i 2)),(.c (.i 8))]),Zo 9 (.un .not (Zt 8)),Zm 10 9,⟨(some 11),.fad 1 (Zt 1),(some (10,false))⟩,⟨(some 12),.load 1 false (Zt 11),(some (10,false))⟩,⟨(some 13),.len (Zt 12),(some (10,false))⟩,⟨(some 14),.bin .gtr (Zt 13) (.c (.i 14)),(some (10,false))⟩,Zo 15 (.pick (Zt 10) (.c (.b true)) (Zt 14))] []) [1,15] [1] NB) (.seqa (.reg [Zn 3 0] []) (.blk 0 (.loop DV)) [1] [1] Oq)))
def V59:List RV:=[.t 2]
theorem m59:bh Tryz.prog 59 1 A59 V59=true:=by kernel_rfl
def A123:aj:=(.seq (.reg [Zo 3 (.box 2 (Zt 0)),Zn 6 0] []) (.seq (.reg [Za 8 1 3,Zl 9 8,Zm 10 1,Zx 11 4 9 10,Zo 12 (.load 4 true (Zt 11)),Zo 7 (.alloc (.agg [.i 0,.i 0,.i 0,.i 0])),⟨none,.store 4 (Zt 7) (Zt 12),none⟩] []) (.seq (.seq (.reg [Zm 13 2] []) (.blk 0 (.seq (.reg [Za 15 0 7,Zl 16 15,Zb 17 .eql 13 16,Zm 14 17] []) (.cond (Zt 14) (.seq (.reg [Za 18 1 7,Zl 19 18,Zm 6 19] []) .ret) (.seq (.reg [Za 21 1 7,Zl 22 21,Zb 23 .eql 13 22,Zm 20 23] []) (.cond (Zt 20) (.seq (.reg [Za 24 0 7,Zl 25 24,Zm 6 25] []) .ret) .skip)))))) (.seq (.reg [Zn 6 (-1)] []) .ret))))
def Hx:List RV:=[.t 6]
theorem m123:bh Tryz.prog 123 3 A123 Hx=true:=by kernel_rfl
def HG:aj:=(.seq (.seq (.reg [Zm 6 5,Zm 7 0,Zk 8 7,Zb 9 .lss 6 8] []) (.cond (Zt 9) .skip (.exit 0))) (.seq (.blk 1 (.seq (.reg [Zm 12 0,Zm 13 5,Zx 14 1 12 13,Zl 15 14,Zm 16 1,Zb 17 .eql 15 16] []) (.cond (Zt 17) (.seq (.reg [Zo 4 (.mv (.c (.b true)))] []) .ret) .skip))) (.reg [Zm 10 5,Zd 11 .add 10 1,Zm 5 11] [])))
def Og:aj:=(.seq (.reg [Zo 4 (.mv (.c (.b false)))] []) .ret)
def A83:aj:=(.seq (.reg [Zo 4 (.mv (.c (.b false)))] []) (.seqa (.reg [Zn 5 0] []) (.blk 0 (.loop HG)) [] [] Og))
def V83:List RV:=[.t 4]
theorem m83:bh Tryz.prog 83 2 A83 V83=true:=by kernel_rfl
def A54:aj:=(.seq (.reg [Zo 2 (.mv (.c (.lst .u 1 [])))] [.s 2]) (.seq (.reg [Zo 3 (.bsl 1 false []),Zm 4 0,Zo 5 (.app 1 8 false (Zt 3) (Zt 4)),Zm 2 5] [.s 2]) .ret))
def V54:List RV:=[.t 2]
theorem m54:bh Tryz.prog 54 1 A54 V54=true:=by kernel_rfl
def vB:aj:=(.seq (.seq (.reg [Zm 9 4,Zd 10 .geq 9 0] []) (.cond (Zt 10) .skip (.exit 0))) (.seq (.blk 1 (.reg [Zm 13 3,Zm 14 0,Zm 15 4,Zx 16 1 14 15,Zl 17 16,Zo 18 (.bsl 1 false [(Zt 17)]),Zo 19 (.app 1 8 true (Zt 13) (Zt 18)),Zm 3 19] [.s 3])) (.reg [Zm 11 4,Zd 12 .sub 11 1,Zm 4 12] [])))
def Gk:aj:=(.seq (.reg [Zm 20 3,Zm 2 20] [.s 2]) .ret)
def A108:aj:=(.seq (.reg [Zo 2 (.mv (.c (.lst .u 1 [])))] [.s 2]) (.seq (.reg [Zo 5 (.bsl 1 false []),Zm 3 5] [.s 3]) (.seqa (.reg [Zm 6 0,Zk 7 6,Zd 8 .sub 7 1,Zm 4 8] []) (.blk 0 (.loop vB)) [3] [3] Gk)))
def PX:List RV:=[.t 2]
theorem m108:bh Tryz.prog 108 1 A108 PX=true:=by kernel_rfl
def wW:aj:=(.seq (.seq (.reg [Zm 16 5,Zm 17 0,Zk 18 17,Zb 19 .lss 16 18] []) (.cond (Zt 19) .skip (.exit 0))) (.seq (.blk 1 (.seq (.drw [Zm 22 0,Zm 23 5,Zx 24 1 22 23,Zl 25 24,Zm 26 1,Zm 27 5,Zx 28 1 26 27,Zl 29 28,Zb 30 .neq 25 29] []) (.cond (Zt 30) (.seq (.drw [Zm 31 0,Zm 32 5,Zx 33 1 31 32,Zl 34 33,Zm 35 1,Zm 36 5,Zx 37 1 35 36,Zl 38 37,Zb 39 .lss 34 38,Zm 4 39] []) .ret) .skip))) (.reg [Zm 20 5,Zd 21 .add 20 1,Zm 5 21] [])))
def GY:aj:=(.seq (.reg [Zo 4 (.mv (.c (.b false)))] []) .ret)
def A142:aj:=(.seq (.reg [Zo 4 (.mv (.c (.b false)))] []) (.seq (.seq (.reg [Zm 6 0,Zk 7 6,Zm 8 1,Zk 9 8,Zb 10 .neq 7 9] []) (.cond (Zt 10) (.seq (.reg [Zm 11 0,Zk 12 11,Zm 13 1,Zk 14 13,Zb 15 .lss 12 14,Zm 4 15] []) .ret) .skip)) (.seqa (.reg [Zn 5 0] []) (.blk 0 (.loop wW)) [] [] GY)))
def AC:List RV:=[.t 4]
theorem m142:bh Tryz.prog 142 2 A142 AC=true:=by kernel_rfl
def nq:aj:=(.seq (.seq (.reg [Zm 6 5,Zm 7 0,Zk 8 7,Zb 9 .lss 6 8,Zm 10 9,⟨(some 11),.mv (Zt 0),(some (10,true))⟩,⟨(some 12),.mv (Zt 5),(some (10,true))⟩,⟨(some 13),.idx 1 (Zt 11) (Zt 12),(some (10,true))⟩,⟨(some 14),.load 1 false (Zt 13),(some (10,true))⟩,⟨(some 15),.mv (Zt 1),(some (10,true))⟩,⟨(some 16),.call 142 [(Zt 14),(Zt 15)],(some (10,true))⟩,Zo 17 (.pick (Zt 10) (Zt 16) (.c (.b false)))] []) (.cond (Zt 17) .skip (.exit 0))) (.blk 1 (.reg [Zm 18 5,Zd 19 .add 18 1,Zm 5 19] [])))
def ua:aj:=(.seq (.drw [Zo 20 (.bsl 1 true []),Zm 21 0,Zm 22 5,Zo 23 (.slc 1 (Zt 21) none (some (Zt 22)) none),Zo 24 (.app 1 24 false (Zt 20) (Zt 23)),Zm 25 1,Zo 26 (.bsl 1 true [(Zt 25)]),Zo 27 (.app 1 24 true (Zt 24) (Zt 26)),Zm 28 0,Zm 29 5,Zo 30 (.slc 1 (Zt 28) (some (Zt 29)) none none),Zo 31 (.app 1 24 false (Zt 27) (Zt 30)),Zm 4 31] [.s 4]) .ret)
def JB:aj:=(.seq (.reg [Zo 4 (.mv (.c (.lst .u 1 [])))] [.s 4,.z 1]) (.seq (.reg [Zn 5 0] []) (.seqr (.blk 0 (.loop nq)) [0,1,5] [1000000000] ua)))
def wb:List RV:=[.t 4]
theorem Rx:bh Tryz.prog 157 2 JB wb=true:=by kernel_rfl
def su:aj:=(.cond (Zt 28) .skip (.exit 0))
def sm:aj:=(.cond (Zt 45) (.exit 1) .skip)
def sC:aj:=(.cond (Zt 63) (.reg [Zm 64 0,Zm 65 0,Zo 66 (.nilc (Zt 65)),Za 67 2 66,Zl 68 67,Zm 69 12,Zo 70 (.callM 157 [(Zt 68),(Zt 69)] [470000002,12]),Zo 71 (.nilc (Zt 64)),Za 72 2 71,⟨none,.store 1 (Zt 72) (Zt 70),none⟩] [.f true 470000002 1000000000 2]) .skip)
def um:aj:=(.exit 1)
def nS:aj:=(.seq (.seqr (.reg [Zm 13 10,Zm 14 0,Zo 15 (.nilc (Zt 14)),Za 16 0 15,Za 17 1 16,Zl 18 17,Zk 19 18,Zb 20 .lss 13 19,Zm 21 20,⟨(some 22),.mv (Zt 0),(some (21,true))⟩,⟨(some 23),.nilc (Zt 22),(some (21,true))⟩,⟨(some 24),.fad 2 (Zt 23),(some (21,true))⟩,⟨(some 25),.load 1 false (Zt 24),(some (21,true))⟩,⟨(some 26),.len (Zt 25),(some (21,true))⟩,⟨(some 27),.bin .leq (Zt 26) (.c (.i 60)),(some (21,true))⟩,Zo 28 (.pick (Zt 21) (Zt 27) (.c (.b false)))] []) [0,1,2,3,4,10,28] [470000002,1000000000,1000000002,1000000003] su) (.seq (.blk 1 (.seq (.reg [Zm 31 0,Zo 32 (.nilc (Zt 31)),Za 33 0 32,Zo 34 (.load 2 true (Zt 33)),Zm 35 10,Zm 36 2,Zo 37 (.call 123 [(Zt 34),(Zt 35),(Zt 36)]),Zm 11 37] []) (.seq (.seqr (.reg [Zm 38 11,Zm 39 1,Zb 40 .lss 38 39,Zm 41 40,⟨(some 42),.mv (Zt 3),(some (41,false))⟩,⟨(some 43),.mv (Zt 10),(some (41,false))⟩,⟨(some 44),.call 83 [(Zt 42),(Zt 43)],(some (41,false))⟩,Zo 45 (.pick (Zt 41) (.c (.b true)) (Zt 44))] []) [0,1,2,3,4,10,11,45] [470000002,1000000000,1000000002,1000000003] sm) (.seq (.reg [Zm 46 3,Zo 47 (.call 54 [(Zt 46)]),Zm 48 10,Zo 49 (.bsl 1 false [(Zt 48)]),Zo 50 (.app 1 8 true (Zt 47) (Zt 49)),Zm 12 50] [.s 12]) (.seq (.seq (.reg [Zm 51 11,Zm 52 1,Zb 53 .eql 51 52] []) (.cond (Zt 53) (.seqr (.seqr (.reg [Zm 54 12,Zk 55 54,Zd 56 .gtr 55 1,Zm 57 56,⟨(some 58),.mv (Zt 12),(some (57,true))⟩,⟨(some 59),.call 108 [(Zt 58)],(some (57,true))⟩,⟨(some 60),.mv (Zt 12),(some (57,true))⟩,⟨(some 61),.call 142 [(Zt 59),(Zt 60)],(some (57,true))⟩,⟨(some 62),.un .not (Zt 61),(some (57,true))⟩,Zo 63 (.pick (Zt 57) (Zt 62) (.c (.b false)))] []) [0,1,2,3,4,10,12,63] [12,470000002,1000000000,1000000002,1000000003] sC) [0,1,2,3,4,10] [470000002,1000000000,1000000002,1000000003] um) .skip)) (.seq (.reg [Zm 73 4,Zm 74 11,Zo 75 (.call 83 [(Zt 73),(Zt 74)]),Zo 76 (.un .not (Zt 75))] []) (.cond (Zt 76) (.reg [Zm 77 0,Zm 78 1,Zm 79 11,Zm 80 12,Zm 81 4,Zo 82 (.call 54 [(Zt 81)]),Zm 83 11,Zo 84 (.bsl 1 false [(Zt 83)]),Zo 85 (.app 1 8 true (Zt 82) (Zt 84)),Zo 86 (.callM 132 [(Zt 77),(Zt 78),(Zt 79),(Zt 80),(Zt 85)] [1000000000,470000002,12,85])] [.f true 470000002 1000000000 2]) .skip))))))) (.reg [Zm 29 10,Zd 30 .add 29 1,Zm 10 30] [])))
def Jf:aj:=(.seq (.reg [Zn 10 0] [.f true 470000002 1000000000 2]) (.blk 0 (.loop nS)))
def vi:List RV:=[]
theorem PO:bh Tryz.prog 132 5 Jf vi=true:=by kernel_rfl
def Fm:aj:=(.seq (.reg [Zo 4 (.mv (.c (.z ⟨#[]⟩)))] []) (.seq (.reg [Zm 5 1,Zm 6 0,Zm 7 1,Zk 8 7,Zo 9 (.callM 67 [(Zt 6),(Zt 8)] [1000000000]),Zx 10 1 5 9,Zl 11 10,Zm 4 11] []) .ret))
def wc:List RV:=[.t 4]
theorem PF:bh Tryz.prog 134 2 Fm wc=true:=by kernel_rfl
def qV:aj:=(.seq (.seq (.drw [Zo 70 (.fdv [1000000000] 1 (Zt 3)),Zo 71 (.ldv [1000000000] 1 false (Zt 70)),Zo 72 (.lnv [1000000000] (Zt 71)),Zm 73 0,Zo 74 (.callM 67 [(Zt 73),(.c (.i 2))] [1000000000]),Zo 75 (.bin .add (.c (.i 14)) (Zt 74)),Zb 76 .lss 72 75] []) (.cond (Zt 76) .skip (.exit 1))) (.blk 2 (.drw [Za 77 1 3,Zl 78 77,Za 79 1 3,Zl 80 79,Za 81 1 3,Zl 82 81,Zk 83 82,Zd 84 .sub 83 1,Zx 85 4 80 84,Zo 86 (.load 4 true (Zt 85)),Zo 87 (.bsl 4 true [(Zt 86)]),Zo 88 (.app 4 32 true (Zt 78) (Zt 87)),Za 89 1 3,⟨none,.store 1 (Zt 89) (Zt 88),none⟩] [.f false 500000193 3 1])))
def yc:aj:=(.seq (.reg [Zo 90 (.load 2 true (Zt 3)),⟨none,.store 2 (Zt 2) (Zt 90),none⟩] [.f false 500000128 2 0,.f false 500000129 2 1]) .ret)
def yi:aj:=(.seq (.reg [Za 98 1 3,Zl 99 98,Zm 100 4,Zo 101 (.load 4 true (Zt 5)),Zx 102 4 99 100,⟨none,.store 4 (Zt 102) (Zt 101),none⟩] []) (.seq (.reg [Zo 103 (.load 2 true (Zt 3)),⟨none,.store 2 (Zt 2) (Zt 103),none⟩] [.f false 500000128 2 0,.f false 500000129 2 1]) .ret))
def NY:aj:=(.seq (.reg [Zo 2 (.alloc (.agg [.lst .u 1 [],.lst .u 4 []]))] []) (.seq (.reg [Zm 6 0,Zo 7 (.callM 107 [(Zt 6)] [1000000000]),Zo 3 (.alloc (.agg [.lst .u 1 [],.lst .u 4 []])),⟨none,.store 2 (Zt 3) (Zt 7),none⟩] [.f false 500000192 3 0,.f false 500000193 3 1]) (.seq (.seq (.reg [Za 8 1 3,Zl 9 8,Zk 10 9,Zd 11 .eql 10 0] []) (.cond (Zt 11) (.seq (.reg [Zo 12 (.load 2 true (Zt 3)),⟨none,.store 2 (Zt 2) (Zt 12),none⟩] [.f false 500000128 2 0,.f false 500000129 2 1]) .ret) .skip)) (.seq (.reg [Zm 13 0,Za 14 1 3,Zl 15 14,Zk 16 15,Zo 17 (.callM 67 [(Zt 13),(Zt 16)] [1000000000]),Zm 4 17] []) (.seq (.reg [Za 18 1 3,Zl 19 18,Zm 20 4,Zx 21 4 19 20,Zo 22 (.load 4 true (Zt 21)),Zo 5 (.alloc (.agg [.i 0,.i 0,.i 0,.i 0])),⟨none,.store 4 (Zt 5) (Zt 22),none⟩] []) (.seqr (.seq (.reg [Zm 23 0,Zo 24 (.callM 67 [(Zt 23),(.c (.i 24))] [1000000000])] []) (.blk 0 (.seq (.reg [Zd 26 .eql 24 0,Zm 25 26] []) (.cond (Zt 25) (.drw [Zo 27 (.fdv [30,1000000000] 0 (Zt 3)),Zo 28 (.ldv [30,1000000000] 1 false (Zt 27)),Zm 29 0,Zo 30 (.bsl 1 true [(.c (.z ⟨#[98]⟩)),(.c (.z ⟨#[]⟩)),(.c (.z ⟨#[65]⟩)),(.c (.z ⟨#[97,98,99,100,101,102,103,104]⟩)),(.c (.z ⟨#[97,98,99,100,101,102,103,104,105]⟩)),(.c (.z ⟨#[120,49]⟩))]),Zo 31 (.callM 134 [(Zt 29),(Zt 30)] [1000000000,30]),Zo 32 (.idx 1 (Zt 28) (.c (.i 0))),⟨none,.store 1 (Zt 32) (Zt 31),none⟩] []) (.seq (.reg [Zd 34 .eql 24 1,Zm 33 34] []) (.cond (Zt 33) (.reg [Zm 35 0,Zo 36 (.callM 67 [(Zt 35),(.c (.i 8))] [1000000000]),Zd 37 .sub 36 1,Za 38 0 5,⟨none,.store 1 (Zt 38) (Zt 37),none⟩] []) (.seq (.reg [Zd 40 .eql 24 2,Zm 39 40] []) (.cond (Zt 39) (.reg [Zm 41 0,Zo 42 (.callM 67 [(Zt 41),(.c (.i 10))] [1000000000]),Zd 43 .sub 42 1,Za 44 1 5,⟨none,.store 1 (Zt 44) (Zt 43),none⟩] []) (.seq (.reg [Zd 46 .eql 24 3,Zm 45 46] []) (.cond (Zt 45) (.reg [Zm 47 0,Zo 48 (.bsl 1 false [(.c (.i 0)),(.c (.i 1)),(.c (.i 5000)),(.c (.i 5001))]),Zo 49 (.callM 66 [(Zt 47),(Zt 48)] [1000000000,48]),Za 50 2 5,⟨none,.store 1 (Zt 50) (Zt 49),none⟩] []) (.seq (.reg [Zd 52 .eql 24 4,Zm 51 52] []) (.cond (Zt 51) (.reg [Zm 53 0,Zo 54 (.bsl 1 false [(.c (.i (-1))),(.c (.i 9)),(.c (.i 10))]),Zo 55 (.callM 66 [(Zt 53),(Zt 54)] [1000000000,54]),Za 56 3 5,⟨none,.store 1 (Zt 56) (Zt 55),none⟩] []) (.seq (.reg [Zd 58 .eql 24 5,Zm 57 58] []) (.cond (Zt 57) (.drw [Za 59 1 3,Zl 60 59,Za 61 1 3,Zl 62 61,Zo 63 (.idx 4 (Zt 62) (.c (.i 0))),Zo 64 (.load 4 true (Zt 63)),Zo 65 (.bsl 4 true [(Zt 64)]),Zo 66 (.app 4 32 true (Zt 60) (Zt 65)),Za 67 1 3,⟨none,.store 1 (Zt 67) (Zt 66),none⟩] [.f false 500000193 3 1]) (.seq (.reg [Zd 69 .eql 24 6,Zm 68 69] []) (.cond (Zt 68) (.seqr (.blk 1 (.loop qV)) [2,3] [2,3,500000192,500000193,1000000000] yc) (.seq (.reg [Zd 92 .eql 24 7,Zm 91 92] []) (.cond (Zt 91) (.reg [Za 93 0 3,Zl 94 93,Zo 95 (.bsl 1 false [(.c (.z ⟨#[112]⟩)),(.c (.z ⟨#[113]⟩)),(.c (.z ⟨#[114]⟩)),(.c (.z ⟨#[115]⟩))]),Zo 96 (.app 1 16 true (Zt 94) (Zt 95)),Za 97 0 3,⟨none,.store 1 (Zt 97) (Zt 96),none⟩] [.f false 500000192 3 0]) .skip)))))))))))))))))) [2,3,4,5] [2,3,5,500000192,500000193,1000000000] yi))))))
def qz:List RV:=[.c 2 2 true]
theorem Sa:bh Tryz.prog 96 1 NY qz=true:=by kernel_rfl
def qC:aj:=(.seq (.seq (.reg [Zm 9 4,Za 10 0 1,Zl 11 10,Zk 12 11,Zb 13 .lss 9 12] []) (.cond (Zt 13) .skip (.exit 0))) (.seq (.blk 1 (.reg [Zm 16 3,Zm 17 4,Zm 18 4,Zo 19 (.bsl 1 false []),Zm 20 4,Zo 21 (.bsl 1 false [(Zt 20)]),Zo 22 (.callM 132 [(Zt 16),(Zt 17),(Zt 18),(Zt 19),(Zt 21)] [8,500000514,19,21])] [.f true 500000514 8 2])) (.reg [Zm 14 4,Zd 15 .add 14 1,Zm 4 15] [])))
def yl:aj:=(.seq (.reg [Zm 23 3,Zo 24 (.nilc (Zt 23)),Za 25 2 24,Zl 26 25,Zm 2 26] [.r 2]) .ret)
def Oi:aj:=(.seq (.reg [Zo 1 (.box 2 (Zt 0)),Zo 2 (.mv (.c (.lst .u 1 [])))] [.r 2,.w 1,.w 1]) (.seq (.reg [Zo 5 (.load 2 true (Zt 1)),Zo 6 (.bsl 1 false []),Zo 7 (.build [.lst .u 1 [],.lst .u 4 [],.lst .u 1 []] [(0,2,(Zt 5)),(2,1,(Zt 6))]),Zo 8 (.box 3 (Zt 7)),Zm 3 8] [.f true 500000514 8 2]) (.seqa (.reg [Zn 4 0] []) (.blk 0 (.loop qC)) [3] [8,500000514] yl)))
def De:List RV:=[.t 2]
theorem SA:bh Tryz.prog 90 1 Oi De=true:=by kernel_rfl
def NS:aj:=(.seq (.reg [Zo 1 (.box 2 (Zt 0)),Zo 2 (.mv (.c (.lst .u 1 []))),Zo 3 (.mv (.c (.b false)))] [.s 2]) (.seq (.seq (.reg [Zo 5 (.load 2 true (Zt 1)),Zo 6 (.call 59 [(Zt 5)]),Zo 7 (.un .not (Zt 6))] []) (.cond (Zt 7) (.seq (.reg [Zo 8 (.bsl 1 false []),Zm 2 8,Zo 3 (.mv (.c (.b false)))] [.s 2]) .ret) .skip)) (.seq (.reg [Zo 9 (.load 2 true (Zt 1)),Zo 10 (.callM 90 [(Zt 9)] []),Zm 4 10] [.s 4]) (.seq (.seq (.reg [Zm 11 4,Zk 12 11,Zd 13 .gtr 12 60] []) (.cond (Zt 13) (.seq (.reg [Zo 14 (.bsl 1 false []),Zm 2 14,Zo 3 (.mv (.c (.b false)))] [.s 2]) .ret) .skip)) (.seq (.reg [Zm 15 4,Zm 2 15,Zo 3 (.mv (.c (.b true)))] [.s 2]) .ret)))))
def tK:List RV:=[.t 2,.t 3]
theorem RH:bh Tryz.prog 42 1 NS tK=true:=by kernel_rfl
def xY:aj:=(.cond (Zt 21) (.reg [Zm 22 5,Zm 23 0,Zm 24 5,Zk 25 24,Zo 26 (.callM 67 [(Zt 23),(Zt 25)] [1000000000]),Zx 27 1 22 26,Zl 28 27,Zo 29 (.call 54 [(Zt 28)]),Zm 7 29] [.s 7]) .skip)
def yK:aj:=(.seq (.seq (.reg [Zm 30 0,Zo 31 (.callM 67 [(Zt 30),(.c (.i 20))] [1000000000])] []) (.blk 0 (.seq (.reg [Zd 33 .eql 31 0,Zm 32 33] []) (.cond (Zt 32) (.reg [Zm 34 7,Zo 35 (.call 108 [(Zt 34)]),Zm 7 35] [.s 7]) (.seq (.reg [Zd 37 .eql 31 1,Zm 36 37] []) (.cond (Zt 36) (.seq (.reg [Zm 38 7,Zk 39 38,Zd 40 .gtr 39 0] []) (.cond (Zt 40) (.drw [Zm 41 7,Zo 42 (.slc 1 (Zt 41) (some (.c (.i 1))) none none),Zo 43 (.call 54 [(Zt 42)]),Zm 44 7,Zo 45 (.idx 1 (Zt 44) (.c (.i 0))),Zl 46 45,Zo 47 (.bsl 1 true [(Zt 46)]),Zo 48 (.app 1 8 true (Zt 43) (Zt 47)),Zm 7 48] [.s 7]) .skip)) (.seq (.reg [Zd 50 .eql 31 2,Zm 49 50] []) (.cond (Zt 49) (.reg [Zm 51 7,Zm 52 0,Zo 53 (.callM 67 [(Zt 52),(.c (.i 16))] [1000000000]),Zd 54 .sub 53 1,Zo 55 (.bsl 1 false [(Zt 54)]),Zo 56 (.app 1 8 true (Zt 51) (Zt 55)),Zm 7 56] [.s 7]) (.seq (.reg [Zd 58 .eql 31 3,Zm 57 58] []) (.cond (Zt 57) (.reg [Zm 59 0,Zo 60 (.callM 96 [(Zt 59)] [1000000000]),⟨none,.store 2 (Zt 4) (Zt 60),none⟩] [.w 4,.w 4,.f false 500000256 4 0,.f false 500000257 4 1]) .skip)))))))))) (.seq (.reg [Zo 61 (.load 2 true (Zt 4)),Zm 62 7,⟨none,.store 2 (Zt 2) (Zt 61),none⟩,Zm 3 62] [.s 3,.f false 500000128 2 0,.f false 500000129 2 1]) .ret))
def Ol:aj:=(.seq (.reg [Zo 2 (.alloc (.agg [.lst .u 1 [],.lst .u 4 []])),Zo 3 (.mv (.c (.lst .u 1 [])))] [.s 3]) (.seq (.reg [Zm 8 0,Zo 9 (.callM 107 [(Zt 8)] [1000000000]),Zo 4 (.alloc (.agg [.lst .u 1 [],.lst .u 4 []])),⟨none,.store 2 (Zt 4) (Zt 9),none⟩] [.w 4,.w 4,.f false 500000256 4 0,.f false 500000257 4 1]) (.seq (.reg [Zo 11 (.load 2 true (Zt 4)),Zo 12 (.callM 42 [(Zt 11)] []),Zm 10 12,Ze 13 10 0,Ze 14 10 1,Zm 5 13,Zm 6 14] [.s 5]) (.seq (.reg [Zo 15 (.bsl 1 false []),Zm 7 15] [.s 7]) (.seqr (.seqr (.reg [Zm 16 6,Zm 17 16,⟨(some 18),.mv (Zt 5),(some (17,true))⟩,⟨(some 19),.len (Zt 18),(some (17,true))⟩,⟨(some 20),.bin .gtr (Zt 19) (.c (.i 0)),(some (17,true))⟩,Zo 21 (.pick (Zt 17) (Zt 20) (.c (.b false)))] []) [0,2,4,5,7,21] [2,4,5,7,1000000000] xY) [0,2,4,7] [2,4,7,1000000000] yK)))))
def lT:List RV:=[.c 2 2 true,.t 3]
theorem RK:bh Tryz.prog 65 1 Ol lT=true:=by kernel_rfl
def NE:aj:=(.seq (.reg [Zo 2 (.alloc (.agg [.lst .u 1 [],.lst .u 4 []])),Zo 3 (.mv (.c (.lst .u 1 []))),Zn 4 0] [.s 3]) (.seq (.reg [Zm 8 0,Zo 9 (.build [.lst .u 1 [],.i 0,.sc (.int .u64 0)] [(0,1,(Zt 8))]),Zo 10 (.box 3 (Zt 9)),Zm 5 10] []) (.seq (.reg [Zm 12 5,Zo 13 (.callM 65 [(Zt 12)] [10]),Zm 11 13,Ze 14 11 0,Ze 15 11 1,Zo 6 (.alloc (.agg [.lst .u 1 [],.lst .u 4 []])),⟨none,.store 2 (Zt 6) (Zt 14),none⟩,Zm 7 15] [.s 7]) (.seq (.drw [Zo 16 (.ldv [10] 2 true (Zt 6)),Zm 17 7,Zm 18 5,Za 19 1 6,Zl 20 19,Zk 21 20,Zo 22 (.call 74 [(Zt 21),(.c (.i 1))]),Zd 23 .add 22 1,Zo 24 (.callM 67 [(Zt 18),(Zt 23)] [10]),Zm 25 5,Zo 26 (.callM 67 [(Zt 25),(.c (.i 12))] [10]),Zd 27 .quo 26 11,Zb 28 .sub 24 27,⟨none,.stv 2 (Zt 2) (Zt 16),none⟩,Zm 3 17,Zm 4 28] [.s 3]) .ret))))
def DZ:List RV:=[.c 2 2 true,.t 3,.t 4]
theorem Sz:bh Tryz.prog 36 1 NE DZ=true:=by kernel_rfl
def A70:aj:=(.seq (.reg [Zo 6 (.mv (.c (.b false)))] []) (.seq (.reg [Zm 7 1,Zm 8 0,Zb 9 .leq 7 8,Zm 10 9,⟨(some 11),.mv (Zt 0),(some (10,true))⟩,⟨(some 12),.mv (Zt 2),(some (10,true))⟩,⟨(some 13),.bin .leq (Zt 11) (Zt 12),(some (10,true))⟩,Zo 14 (.pick (Zt 10) (Zt 13) (.c (.b false))),Zm 6 14] []) .ret))
def V70:List RV:=[.t 6]
theorem m70:bh Tryz.prog 70 3 A70 V70=true:=by kernel_rfl
def OJ:aj:=(.seq (.reg [Zm 31 4,Zo 32 (.un .not (Zt 31)),Zm 33 32,⟨(some 34),.mv (Zt 5),(some (33,true))⟩,⟨(some 35),.un .not (Zt 34),(some (33,true))⟩,⟨(some 36),.mv (Zt 35),(some (33,true))⟩,⟨(some 37),.mv (Zt 3),(some (36,false))⟩,⟨(some 38),.bin .eql (Zt 37) (.c (.i 0)),(some (36,false))⟩,⟨(some 39),.pick (Zt 36) (.c (.b true)) (Zt 38),(some (33,true))⟩,Zo 40 (.pick (Zt 33) (Zt 39) (.c (.b false)))] []) (.cond (Zt 40) (.seq (.reg [Zo 2 (.mv (.c (.b false)))] []) .ret) .skip))
def Fz:aj:=(.seq (.reg [Zb 9 .lss 8 7] []) (.seq (.cond (Zt 9) .skip (.exit 0)) (.seq (.blk 1 (.seq (.reg [Zm 10 8,Zm 3 10] []) (.seqr (.drw [Zm 11 0,Zm 12 3,Zo 13 (.stri (Zt 11) (Zt 12)),Zo 14 (.bin .geq (Zt 13) (.c (.sc (.int .u8 97)))),Zm 15 14,⟨(some 16),.mv (Zt 0),(some (15,true))⟩,⟨(some 17),.mv (Zt 3),(some (15,true))⟩,⟨(some 18),.stri (Zt 16) (Zt 17),(some (15,true))⟩,⟨(some 19),.bin .leq (Zt 18) (.c (.sc (.int .u8 122))),(some (15,true))⟩,Zo 20 (.pick (Zt 15) (Zt 19) (.c (.b false))),Zm 21 0,Zm 22 3,Zo 23 (.stri (Zt 21) (Zt 22)),Zo 24 (.bin .geq (Zt 23) (.c (.sc (.int .u8 48)))),Zm 25 24,⟨(some 26),.mv (Zt 0),(some (25,true))⟩,⟨(some 27),.mv (Zt 3),(some (25,true))⟩,⟨(some 28),.stri (Zt 26) (Zt 27),(some (25,true))⟩,⟨(some 29),.bin .leq (Zt 28) (.c (.sc (.int .u8 57))),(some (25,true))⟩,Zo 30 (.pick (Zt 25) (Zt 29) (.c (.b false))),Zm 4 20,Zm 5 30] []) [0,3,4,5,7,8] [] OJ))) (.reg [Zd 41 .add 8 1,Zm 8 41] []))))
def Nx:aj:=(.seq (.reg [Zm 42 0,Zo 43 (.lenz (Zt 42)),Zo 44 (.call 70 [(Zt 43),(.c (.i 1)),(.c (.i 8))]),Zm 2 44] []) .ret)
def A97:aj:=(.seq (.reg [Zo 2 (.mv (.c (.b false)))] []) (.seqa (.reg [Zm 6 0,Zo 7 (.lenz (Zt 6)),Zn 8 0] []) (.blk 0 (.loop Fz)) [0] [] Nx))
def V97:List RV:=[.t 2]
theorem m97:bh Tryz.prog 97 1 A97 V97=true:=by kernel_rfl
def wT:aj:=(.seq (.reg [Zb 9 .lss 8 7] []) (.seq (.cond (Zt 9) .skip (.exit 0)) (.seq (.blk 1 (.seq (.reg [Zm 10 8,Zm 5 10] []) (.seq (.reg [Zm 11 1,Zm 12 0,Zm 13 5,Zx 14 1 12 13,Zl 15 14,Zb 16 .eql 11 15] []) (.cond (Zt 16) (.seq (.reg [Zm 17 5,Zm 4 17] []) .ret) .skip)))) (.reg [Zd 18 .add 8 1,Zm 8 18] []))))
def HF:aj:=(.seq (.reg [Zn 4 (-1)] []) .ret)
def A135:aj:=(.seq (.reg [Zn 4 0] []) (.seqa (.reg [Zm 6 0,Zk 7 6,Zn 8 0] []) (.blk 0 (.loop wT)) [] [] HF))
def DJ:List RV:=[.t 4]
theorem m135:bh Tryz.prog 135 2 A135 DJ=true:=by kernel_rfl
def A98:aj:=(.seq (.reg [Zo 4 (.mv (.c (.b false)))] []) (.seq (.reg [Zm 5 0,Zm 6 1,Zo 7 (.call 135 [(Zt 5),(Zt 6)]),Zd 8 .geq 7 0,Zm 4 8] []) .ret))
def V98:List RV:=[.t 4]
theorem m98:bh Tryz.prog 98 2 A98 V98=true:=by kernel_rfl
def A153:aj:=(.seq (.reg [Zo 2 (.mv (.c (.b false)))] []) (.seq (.reg [Zm 3 0,Zm 4 0,Zb 5 .neq 3 4,Zm 2 5] []) .ret))
def Pu:List RV:=[.t 2]
theorem m153:bh Tryz.prog 153 1 A153 Pu=true:=by kernel_rfl
def A121:aj:=(.seq (.reg [Zn 4 0] []) (.seq (.reg [Zm 7 0,Zo 8 (.call 153 [(Zt 7)]),Zm 5 8] []) (.seq (.reg [Zm 9 1,Zo 10 (.call 153 [(Zt 9)]),Zm 6 10] []) (.seq (.seq (.reg [Zm 11 5] []) (.cond (Zt 11) (.seq (.seq (.reg [Zm 12 6] []) (.cond (Zt 12) (.seq (.reg [Zn 4 0] []) .ret) .skip)) (.seq (.reg [Zn 4 (-1)] []) .ret)) .skip)) (.seq (.seq (.reg [Zm 13 6] []) (.cond (Zt 13) (.seq (.reg [Zn 4 1] []) .ret) .skip)) (.seq (.seq (.reg [Zm 14 0,Zm 15 1,Zb 16 .lss 14 15] []) (.cond (Zt 16) (.seq (.reg [Zn 4 (-1)] []) .ret) .skip)) (.seq (.seq (.reg [Zm 17 0,Zm 18 1,Zb 19 .gtr 17 18] []) (.cond (Zt 19) (.seq (.reg [Zn 4 1] []) .ret) .skip)) (.seq (.reg [Zn 4 0] []) .ret))))))))
def uO:List RV:=[.t 4]
theorem m121:bh Tryz.prog 121 2 A121 uO=true:=by kernel_rfl
def wy:aj:=(.seq (.reg [Zb 9 .lss 8 7] []) (.seq (.cond (Zt 9) .skip (.exit 0)) (.seq (.blk 1 (.seq (.reg [Zx 10 1 6 8,Zl 11 10,Zm 5 11] []) (.seq (.reg [Zm 12 5,Zm 13 3,Zb 14 .neq 12 13] []) (.cond (Zt 14) (.seq (.reg [Zm 15 5,Zm 2 15] []) .ret) .skip)))) (.reg [Zd 16 .add 8 1,Zm 8 16] []))))
def Dm:aj:=(.seq (.reg [Zm 17 3,Zm 2 17] []) .ret)
def A120:aj:=(.seq (.reg [Zn 2 0] []) (.seq (.reg [Zn 3 0] []) (.seqa (.reg [Zm 6 0,Zk 7 6,Zn 8 0] []) (.blk 0 (.loop wy)) [3] [] Dm)))
def Eg:List RV:=[.t 2]
theorem m120:bh Tryz.prog 120 1 A120 Eg=true:=by kernel_rfl
def A99:aj:=(.seq (.reg [Zo 2 (.box 4 (Zt 0)),Zo 3 (.box 4 (Zt 1)),Zn 4 0] []) (.seq (.drw [Za 5 0 2,Zl 6 5,Za 7 0 3,Zl 8 7,Zo 9 (.call 121 [(Zt 6),(Zt 8)]),Za 10 1 2,Zl 11 10,Za 12 1 3,Zl 13 12,Zo 14 (.call 121 [(Zt 11),(Zt 13)]),Za 15 2 2,Zl 16 15,Za 17 2 3,Zl 18 17,Zo 19 (.call 121 [(Zt 16),(Zt 18)]),Za 20 3 2,Zl 21 20,Za 22 3 3,Zl 23 22,Zo 24 (.call 121 [(Zt 21),(Zt 23)]),Zo 25 (.bsl 1 true [(Zt 9),(Zt 14),(Zt 19),(Zt 24)]),Zo 26 (.call 120 [(Zt 25)]),Zm 4 26] []) .ret))
def V99:List RV:=[.t 4]
theorem m99:bh Tryz.prog 99 2 A99 V99=true:=by kernel_rfl
def Gv:aj:=(.seq (.reg [Zb 11 .lss 10 9] []) (.seq (.cond (Zt 11) .skip (.exit 0)) (.seq (.blk 1 (.seq (.reg [Zm 12 10,Zx 13 1 8 10,Zl 14 13,Zm 3 12,Zm 4 14] []) (.seq (.reg [Zm 15 4,Zo 16 (.call 97 [(Zt 15)]),Zo 17 (.un .not (Zt 16)),Zm 18 17,⟨(some 19),.fad 0 (Zt 1),(some (18,false))⟩,⟨(some 20),.load 1 false (Zt 19),(some (18,false))⟩,⟨(some 21),.mv (Zt 3),(some (18,false))⟩,⟨(some 22),.slc 1 (Zt 20) none (some (Zt 21)) none,(some (18,false))⟩,⟨(some 23),.mv (Zt 4),(some (18,false))⟩,⟨(some 24),.call 98 [(Zt 22),(Zt 23)],(some (18,false))⟩,Zo 25 (.pick (Zt 18) (.c (.b true)) (Zt 24))] []) (.cond (Zt 25) (.seq (.reg [Zo 2 (.mv (.c (.b false)))] []) .ret) .skip)))) (.reg [Zd 26 .add 10 1,Zm 10 26] []))))
def Hp:aj:=(.seq (.reg [Zb 31 .lss 30 29] []) (.seq (.cond (Zt 31) .skip (.exit 2)) (.seq (.blk 3 (.seq (.reg [Zm 32 30,Zx 33 4 28 30,Zo 34 (.load 4 true (Zt 33)),Zo 6 (.alloc (.agg [.i 0,.i 0,.i 0,.i 0])),Zm 5 32,⟨none,.store 4 (Zt 6) (Zt 34),none⟩] []) (.seq (.drw [Za 35 0 6,Zl 36 35,Zd 37 .lss 36 0,Zm 38 37,⟨(some 39),.fad 0 (Zt 6),(some (38,false))⟩,⟨(some 40),.load 1 false (Zt 39),(some (38,false))⟩,⟨(some 41),.fad 1 (Zt 6),(some (38,false))⟩,⟨(some 42),.load 1 false (Zt 41),(some (38,false))⟩,⟨(some 43),.bin .geq (Zt 40) (Zt 42),(some (38,false))⟩,Zo 44 (.pick (Zt 38) (.c (.b true)) (Zt 43)),Zm 45 44,⟨(some 46),.fad 1 (Zt 6),(some (45,false))⟩,⟨(some 47),.load 1 false (Zt 46),(some (45,false))⟩,⟨(some 48),.fad 0 (Zt 1),(some (45,false))⟩,⟨(some 49),.load 1 false (Zt 48),(some (45,false))⟩,⟨(some 50),.len (Zt 49),(some (45,false))⟩,⟨(some 51),.bin .geq (Zt 47) (Zt 50),(some (45,false))⟩,Zo 52 (.pick (Zt 45) (.c (.b true)) (Zt 51)),Zm 53 52,⟨(some 54),.fad 2 (Zt 6),(some (53,false))⟩,⟨(some 55),.load 1 false (Zt 54),(some (53,false))⟩,⟨(some 56),.call 70 [(Zt 55),(.c (.i 1)),(.c (.i 5000))],(some (53,false))⟩,⟨(some 57),.un .not (Zt 56),(some (53,false))⟩,Zo 58 (.pick (Zt 53) (.c (.b true)) (Zt 57)),Zm 59 58,⟨(some 60),.fad 3 (Zt 6),(some (59,false))⟩,⟨(some 61),.load 1 false (Zt 60),(some (59,false))⟩,⟨(some 62),.call 70 [(Zt 61),(.c (.i 0)),(.c (.i 9))],(some (59,false))⟩,⟨(some 63),.un .not (Zt 62),(some (59,false))⟩,Zo 64 (.pick (Zt 59) (.c (.b true)) (Zt 63)),Zm 65 64,⟨(some 66),.mv (Zt 5),(some (65,false))⟩,⟨(some 67),.bin .gtr (Zt 66) (.c (.i 0)),(some (65,false))⟩,⟨(some 68),.mv (Zt 67),(some (65,false))⟩,⟨(some 69),.fad 1 (Zt 1),(some (68,true))⟩,⟨(some 70),.load 1 false (Zt 69),(some (68,true))⟩,⟨(some 71),.mv (Zt 5),(some (68,true))⟩,⟨(some 72),.bin .sub (Zt 71) (.c (.i 1)),(some (68,true))⟩,⟨(some 73),.idx 4 (Zt 70) (Zt 72),(some (68,true))⟩,⟨(some 74),.load 4 true (Zt 73),(some (68,true))⟩,⟨(some 75),.load 4 true (Zt 6),(some (68,true))⟩,⟨(some 76),.call 99 [(Zt 74),(Zt 75)],(some (68,true))⟩,⟨(some 77),.bin .gtr (Zt 76) (.c (.i 0)),(some (68,true))⟩,⟨(some 78),.pick (Zt 68) (Zt 77) (.c (.b false)),(some (65,false))⟩,Zo 79 (.pick (Zt 65) (.c (.b true)) (Zt 78))] []) (.cond (Zt 79) (.seq (.reg [Zo 2 (.mv (.c (.b false)))] []) .ret) .skip)))) (.reg [Zd 80 .add 30 1,Zm 30 80] []))))
def OB:aj:=(.seq (.reg [Za 81 0 1,Zl 82 81,Zk 83 82,Zo 84 (.call 70 [(Zt 83),(.c (.i 2)),(.c (.i 8))]),Zm 85 84,⟨(some 86),.fad 1 (Zt 1),(some (85,true))⟩,⟨(some 87),.load 1 false (Zt 86),(some (85,true))⟩,⟨(some 88),.len (Zt 87),(some (85,true))⟩,⟨(some 89),.bin .leq (Zt 88) (.c (.i 14)),(some (85,true))⟩,Zo 90 (.pick (Zt 85) (Zt 89) (.c (.b false))),Zm 2 90] []) .ret)
def Od:aj:=(.seqa (.reg [Za 27 1 1,Zl 28 27,Zk 29 28,Zn 30 0] []) (.blk 2 (.loop Hp)) [1] [1] OB)
def A57:aj:=(.seq (.reg [Zo 1 (.box 2 (Zt 0)),Zo 2 (.mv (.c (.b false)))] []) (.seqa (.reg [Za 7 0 1,Zl 8 7,Zk 9 8,Zn 10 0] []) (.blk 0 (.loop Gv)) [1] [1] Od))
def V57:List RV:=[.t 2]
theorem m57:bh Tryz.prog 57 1 A57 V57=true:=by kernel_rfl
def DF:aj:=(.seq (.reg [Zb 9 .lss 8 7] []) (.seq (.cond (Zt 9) .skip (.exit 0)) (.seq (.blk 1 (.seq (.reg [Zm 10 8,Zm 5 10] []) (.seq (.reg [Zm 11 1,Zm 12 0,Zm 13 5,Zx 14 1 12 13,Zl 15 14,Zb 16 .eql 11 15] []) (.cond (Zt 16) (.seq (.reg [Zm 17 5,Zm 4 17] []) .ret) .skip)))) (.reg [Zd 18 .add 8 1,Zm 8 18] []))))
def Ny:aj:=(.seq (.reg [Zn 4 (-1)] []) .ret)
def A76:aj:=(.seq (.reg [Zn 4 0] []) (.seqa (.reg [Zm 6 0,Zk 7 6,Zn 8 0] []) (.blk 0 (.loop DF)) [] [] Ny))
def V76:List RV:=[.t 4]
theorem m76:bh Tryz.prog 76 2 A76 V76=true:=by kernel_rfl
def A79:aj:=(.seq (.reg [Zo 4 (.mv (.c (.b false)))] []) (.seq (.reg [Zm 5 0,Zm 6 1,Zo 7 (.call 76 [(Zt 5),(Zt 6)]),Zd 8 .geq 7 0,Zm 4 8] []) .ret))
def V79:List RV:=[.t 4]
theorem m79:bh Tryz.prog 79 2 A79 V79=true:=by kernel_rfl
def A128:aj:=(.seq (.reg [Zo 2 (.box 4 (Zt 0)),Zn 4 0] []) (.seq (.seq (.reg [Zm 5 1] []) (.blk 0 (.seq (.reg [Za 7 0 2,Zl 8 7,Zb 9 .eql 5 8,Zm 6 9] []) (.cond (Zt 6) (.seq (.reg [Za 10 1 2,Zl 11 10,Zm 4 11] []) .ret) (.seq (.reg [Za 13 1 2,Zl 14 13,Zb 15 .eql 5 14,Zm 12 15] []) (.cond (Zt 12) (.seq (.reg [Za 16 0 2,Zl 17 16,Zm 4 17] []) .ret) .skip)))))) (.seq (.reg [Zn 4 (-1)] []) .ret)))
def Dc:List RV:=[.t 4]
theorem m128:bh Tryz.prog 128 2 A128 Dc=true:=by kernel_rfl
def Il:aj:=(.cond (Zt 35) (.seq (.reg [Zo 6 (.mv (.c (.lst .u 1 []))),Zn 7 0,Zo 8 (.mv (.c (.b false)))] [.s 6]) .ret) .skip)
def xf:aj:=(.seq (.reg [Zb 18 .lss 17 16] []) (.seq (.cond (Zt 18) .skip (.exit 0)) (.seq (.blk 1 (.seq (.reg [Zm 19 17,Zx 20 1 15 17,Zl 21 20,Zm 11 19,Zm 12 21] []) (.seq (.seqr (.reg [Zm 22 12,Za 23 1 3,Zl 24 23,Zk 25 24,Zd 26 .sub 25 1,Zo 27 (.call 70 [(Zt 22),(.c (.i 0)),(Zt 26)]),Zo 28 (.un .not (Zt 27)),Zm 29 28,⟨(some 30),.mv (Zt 2),(some (29,false))⟩,⟨(some 31),.mv (Zt 11),(some (29,false))⟩,⟨(some 32),.slc 1 (Zt 30) none (some (Zt 31)) none,(some (29,false))⟩,⟨(some 33),.mv (Zt 12),(some (29,false))⟩,⟨(some 34),.call 79 [(Zt 32),(Zt 33)],(some (29,false))⟩,Zo 35 (.pick (Zt 29) (.c (.b true)) (Zt 34))] []) [2,3,9,10,12,15,16,17,35] [3,9] Il) (.seq (.reg [Zm 36 9,Zm 37 10,Zo 38 (.bsl 1 false [(Zt 37)]),Zo 39 (.app 1 8 true (Zt 36) (Zt 38)),Zm 9 39] [.s 9]) (.seq (.reg [Za 40 1 3,Zl 41 40,Zm 42 12,Zx 43 4 41 42,Zo 44 (.load 4 true (Zt 43)),Zm 45 10,Zo 46 (.call 128 [(Zt 44),(Zt 45)]),Zm 10 46] []) (.seq (.reg [Zm 47 10,Zd 48 .lss 47 0] []) (.cond (Zt 48) (.seq (.reg [Zo 6 (.mv (.c (.lst .u 1 []))),Zn 7 0,Zo 8 (.mv (.c (.b false)))] [.s 6]) .ret) .skip))))))) (.reg [Zd 49 .add 17 1,Zm 17 49] []))))
def GZ:aj:=(.seq (.reg [Zm 50 9,Zm 51 10,Zm 6 50,Zm 7 51,Zo 8 (.mv (.c (.b true)))] [.s 6]) .ret)
def A113:aj:=(.seq (.reg [Zo 3 (.box 2 (Zt 0)),Zo 6 (.mv (.c (.lst .u 1 []))),Zn 7 0,Zo 8 (.mv (.c (.b false)))] [.s 6]) (.seq (.reg [Zo 13 (.bsl 1 false []),Zm 14 1,Zm 9 13,Zm 10 14] [.s 9]) (.seqa (.reg [Zm 15 2,Zk 16 15,Zn 17 0] []) (.blk 0 (.loop xf)) [9,10] [9] GZ)))
def Cn:List RV:=[.t 6,.t 7,.t 8]
theorem m113:bh Tryz.prog 113 3 A113 Cn=true:=by kernel_rfl
def vn:aj:=(.seq (.seq (.reg [Zm 12 4,Zm 13 0,Zk 14 13,Zb 15 .lss 12 14] []) (.cond (Zt 15) .skip (.exit 0))) (.seq (.blk 1 (.reg [Zm 18 3,Zm 19 0,Zm 20 4,Zx 21 1 19 20,Zl 22 21,Zo 23 (.mn (Zt 18) (Zt 22)),Zm 3 23] [])) (.reg [Zm 16 4,Zd 17 .add 16 1,Zm 4 17] [])))
def GU:aj:=(.seq (.reg [Zm 24 3,Zm 2 24] []) .ret)
def A114:aj:=(.seq (.reg [Zn 2 0] []) (.seq (.seq (.reg [Zm 5 0,Zk 6 5,Zd 7 .lss 6 1] []) (.cond (Zt 7) (.reg [Zo 8 (.bad),⟨none,.bad,none⟩] []) .skip)) (.seq (.reg [Zm 9 0,Zo 10 (.idx 1 (Zt 9) (.c (.i 0))),Zl 11 10,Zm 3 11] []) (.seqa (.reg [Zn 4 1] []) (.blk 0 (.loop vn)) [3] [] GU))))
def OY:List RV:=[.t 2]
theorem m114:bh Tryz.prog 114 1 A114 OY=true:=by kernel_rfl
def A55:aj:=(.seq (.reg [Zo 2 (.mv (.c (.lst .u 1 [])))] [.s 2]) (.seq (.seq (.reg [Zm 3 0,Zo 4 (.isn false (Zt 3))] []) (.cond (Zt 4) (.seq (.reg [Zo 2 (.mv (.c (.lst .u 1 [])))] [.s 2]) .ret) .skip)) (.seq (.reg [Zo 5 (.bsl 1 false []),Zm 6 0,Zo 7 (.app 1 8 false (Zt 5) (Zt 6)),Zm 2 7] [.s 2]) .ret)))
def V55:List RV:=[.t 2]
theorem m55:bh Tryz.prog 55 1 A55 V55=true:=by kernel_rfl
def oJ:aj:=(.seq (.seq (.reg [Zm 7 2,Zm 8 3,Zb 9 .lss 7 8] []) (.cond (Zt 9) .skip (.exit 0))) (.seq (.blk 1 (.drw [Zm 14 0,Zm 15 2,Zm 16 0,Zm 17 3,Zm 18 0,Zm 19 3,Zx 20 1 18 19,Zl 21 20,Zm 22 0,Zm 23 2,Zx 24 1 22 23,Zl 25 24,Zx 26 1 14 15,⟨none,.store 1 (Zt 26) (Zt 21),none⟩,Zx 27 1 16 17,⟨none,.store 1 (Zt 27) (Zt 25),none⟩] [])) (.reg [Zm 10 2,Zd 11 .add 10 1,Zm 12 3,Zd 13 .sub 12 1,Zm 2 11,Zm 3 13] [])))
def Ej:aj:=(.seq (.reg [Zm 4 0,Zk 5 4,Zd 6 .sub 5 1,Zn 2 0,Zm 3 6] []) (.blk 0 (.loop oJ)))
def wP:List RV:=[]
theorem Ri:bh Tryz.prog 115 1 Ej wP=true:=by kernel_rfl
def vS:aj:=(.seq (.reg [Zb 12 .lss 11 10] []) (.seq (.cond (Zt 12) .skip (.exit 0)) (.seq (.blk 1 (.seq (.reg [Zm 13 11,Zx 14 1 9 11,Zl 15 14,Zm 5 13,Zm 6 15] []) (.seq (.seq (.reg [Zm 16 5,Zm 17 1,Zk 18 17,Zb 19 .geq 16 18] []) (.cond (Zt 19) (.seq (.reg [Zn 4 1] []) .ret) .skip)) (.seq (.reg [Zm 20 1,Zm 21 5,Zx 22 1 20 21,Zl 23 22,Zm 7 23] []) (.seq (.reg [Zm 24 6,Zm 25 7,Zo 26 (.call 121 [(Zt 24),(Zt 25)]),Zm 8 26] []) (.seq (.reg [Zm 27 8,Zd 28 .neq 27 0] []) (.cond (Zt 28) (.seq (.reg [Zm 29 8,Zm 4 29] []) .ret) .skip))))))) (.reg [Zd 30 .add 11 1,Zm 11 30] []))))
def DM:aj:=(.seq (.seq (.reg [Zm 31 0,Zk 32 31,Zm 33 1,Zk 34 33,Zb 35 .lss 32 34] []) (.cond (Zt 35) (.seq (.reg [Zn 4 (-1)] []) .ret) .skip)) (.seq (.reg [Zn 4 0] []) .ret))
def A116:aj:=(.seq (.reg [Zn 4 0] []) (.seqa (.reg [Zm 9 0,Zk 10 9,Zn 11 0] []) (.blk 0 (.loop vS)) [0,1] [] DM))
def wU:List RV:=[.t 4]
theorem m116:bh Tryz.prog 116 2 A116 wU=true:=by kernel_rfl
def OH:aj:=(.cond (Zt 26) (.seq (.reg [Zo 4 (.mv (.c (.lst .u 1 []))),Zo 5 (.mv (.c (.b false)))] [.s 4]) .ret) .skip)
def Oo:aj:=(.cond (Zt 55) (.seq (.reg [Zo 4 (.mv (.c (.lst .u 1 []))),Zo 5 (.mv (.c (.b false)))] [.s 4]) .ret) .skip)
def IG:aj:=(.seq (.reg [Zb 59 .lss 58 57] []) (.seq (.cond (Zt 59) .skip (.exit 0)) (.seq (.blk 1 (.seq (.reg [Zm 60 58,Zx 61 1 56 58,Zl 62 61,Zm 10 60,Zm 11 62] []) (.seq (.reg [Zm 63 7,Zm 64 10,Zo 65 (.slc 1 (Zt 63) none (some (Zt 64)) none),Zm 66 11,Zo 67 (.call 79 [(Zt 65),(Zt 66)])] []) (.cond (Zt 67) (.seq (.reg [Zo 4 (.mv (.c (.lst .u 1 []))),Zo 5 (.mv (.c (.b false)))] [.s 4]) .ret) .skip)))) (.reg [Zd 68 .add 58 1,Zm 58 68] []))))
def OL:aj:=(.seq (.reg [Zm 69 1,Zo 70 (.call 55 [(Zt 69)]),Zm 12 70] [.s 12]) (.seq (.reg [Zm 71 12,Zo 72 (.callM 115 [(Zt 71)] [12])] []) (.seq (.reg [Zm 73 7,Zm 74 1,Zm 75 12,Zo 76 (.call 116 [(Zt 74),(Zt 75)]),Zd 77 .lss 76 0,Zm 4 73,Zm 5 77] [.s 4]) .ret)))
def A75:aj:=(.seq (.reg [Zo 2 (.box 2 (Zt 0)),Zo 4 (.mv (.c (.lst .u 1 []))),Zo 5 (.mv (.c (.b false)))] [.s 4]) (.seq (.seqr (.drw [Zm 13 1,Zk 14 13,Zd 15 .lss 14 2,Zm 16 15,⟨(some 17),.mv (Zt 1),(some (16,false))⟩,⟨(some 18),.idx 1 (Zt 17) (.c (.i 0)),(some (16,false))⟩,⟨(some 19),.load 1 false (Zt 18),(some (16,false))⟩,⟨(some 20),.fad 1 (Zt 2),(some (16,false))⟩,⟨(some 21),.load 1 false (Zt 20),(some (16,false))⟩,⟨(some 22),.len (Zt 21),(some (16,false))⟩,⟨(some 23),.bin .sub (Zt 22) (.c (.i 1)),(some (16,false))⟩,⟨(some 24),.call 70 [(Zt 19),(.c (.i 0)),(Zt 23)],(some (16,false))⟩,⟨(some 25),.un .not (Zt 24),(some (16,false))⟩,Zo 26 (.pick (Zt 16) (.c (.b true)) (Zt 25))] []) [1,2,26] [2] OH) (.seq (.drw [Za 27 1 2,Zl 28 27,Zm 29 1,Zo 30 (.idx 1 (Zt 29) (.c (.i 0))),Zl 31 30,Zx 32 4 28 31,Za 33 0 32,Zl 34 33,Zm 6 34] []) (.seq (.reg [Zo 36 (.load 2 true (Zt 2)),Zm 37 6,Zm 38 1,Zo 39 (.call 113 [(Zt 36),(Zt 37),(Zt 38)]),Zm 35 39,Ze 40 35 0,Ze 41 35 1,Ze 42 35 2,Zm 7 40,Zm 8 41,Zm 9 42] [.s 7]) (.seq (.seqr (.reg [Zm 43 9,Zo 44 (.un .not (Zt 43)),Zm 45 44,⟨(some 46),.mv (Zt 8),(some (45,false))⟩,⟨(some 47),.mv (Zt 6),(some (45,false))⟩,⟨(some 48),.bin .neq (Zt 46) (Zt 47),(some (45,false))⟩,Zo 49 (.pick (Zt 45) (.c (.b true)) (Zt 48)),Zm 50 49,⟨(some 51),.mv (Zt 7),(some (50,false))⟩,⟨(some 52),.call 114 [(Zt 51)],(some (50,false))⟩,⟨(some 53),.mv (Zt 6),(some (50,false))⟩,⟨(some 54),.bin .neq (Zt 52) (Zt 53),(some (50,false))⟩,Zo 55 (.pick (Zt 50) (.c (.b true)) (Zt 54))] []) [1,7,55] [7] Oo) (.seqa (.reg [Zm 56 7,Zk 57 56,Zn 58 0] []) (.blk 0 (.loop IG)) [1,7] [7] OL))))))
def V75:List RV:=[.t 4,.t 5]
theorem m75:bh Tryz.prog 75 2 A75 V75=true:=by kernel_rfl
def A88:aj:=(.seq (.reg [Zo 2 (.box 2 (Zt 0)),Zo 4 (.mv (.c (.lst .u 1 []))),Zo 5 (.mv (.c (.b false)))] [.s 4]) (.seq (.seq (.reg [Zo 8 (.load 2 true (Zt 2)),Zo 9 (.call 57 [(Zt 8)]),Zo 10 (.un .not (Zt 9))] []) (.cond (Zt 10) (.seq (.reg [Zo 4 (.mv (.c (.lst .u 1 []))),Zo 5 (.mv (.c (.b false)))] [.s 4]) .ret) .skip)) (.seq (.reg [Zo 12 (.load 2 true (Zt 2)),Zm 13 1,Zo 14 (.call 75 [(Zt 12),(Zt 13)]),Zm 11 14,Ze 15 11 0,Ze 16 11 1,Zm 6 15,Zm 7 16] [.s 6]) (.seq (.seq (.reg [Zm 17 7,Zo 18 (.un .not (Zt 17))] []) (.cond (Zt 18) (.seq (.reg [Zo 4 (.mv (.c (.lst .u 1 []))),Zo 5 (.mv (.c (.b false)))] [.s 4]) .ret) .skip)) (.seq (.reg [Zm 19 6,Zm 4 19,Zo 5 (.mv (.c (.b true)))] [.s 4]) .ret)))))
def V88:List RV:=[.t 4,.t 5]
theorem m88:bh Tryz.prog 88 2 A88 V88=true:=by kernel_rfl
def A40:aj:=(.seq (.reg [Zo 2 (.box 2 (Zt 0)),Zo 4 (.mv (.c (.b false)))] []) (.seq (.reg [Zo 8 (.load 2 true (Zt 2)),Zm 9 1,Zo 10 (.call 88 [(Zt 8),(Zt 9)]),Zm 7 10,Ze 11 7 0,Ze 12 7 1,Zm 5 11,Zm 6 12] [.s 5]) (.seq (.reg [Zm 13 6,Zm 4 13] []) .ret)))
def V40:List RV:=[.t 4]
theorem m40:bh Tryz.prog 40 2 A40 V40=true:=by kernel_rfl
def NF:aj:=(.seq (.reg [Zo 2 (.box 2 (Zt 0)),Zo 3 (.mv (.c (.b false)))] []) (.seq (.reg [Za 4 1 2,Zl 5 4,Zl 6 1,Zo 7 (.call 79 [(Zt 5),(Zt 6)]),Zm 3 7] []) .ret))
def Gn:List RV:=[.t 3]
theorem RP:bh Tryz.prog 78 2 NF Gn=true:=by kernel_rfl
def nO:aj:=(.seq (.reg [Zb 9 .lss 8 7] []) (.seq (.cond (Zt 9) .skip (.exit 0)) (.seq (.blk 1 (.seq (.reg [Zm 10 8,Zm 5 10] []) (.seq (.reg [Zm 11 1,Zm 12 0,Zm 13 5,Zx 14 2 12 13,Zo 15 (.load 2 true (Zt 14)),Zo 16 (.dynM (Zt 11) [(Zt 15)] [1000000001])] []) (.cond (Zt 16) (.seq (.reg [Zm 17 5,Zm 4 17] []) .ret) .skip)))) (.reg [Zd 18 .add 8 1,Zm 8 18] []))))
def si:aj:=(.seq (.reg [Zn 4 (-1)] []) .ret)
def Ez:aj:=(.seq (.reg [Zn 4 0] []) (.seqa (.reg [Zm 6 0,Zk 7 6,Zn 8 0] []) (.blk 0 (.loop nO)) [] [1000000000,1000000001] si))
def oe:List RV:=[.t 4]
theorem Pr:bh Tryz.prog 117 2 Ez oe=true:=by kernel_rfl
def qH:aj:=(.seq (.seq (.reg [Zm 16 6,Zm 17 0,Zk 18 17,Zb 19 .lss 16 18] []) (.cond (Zt 19) .skip (.exit 0))) (.seq (.blk 1 (.seq (.reg [Zm 22 0,Zm 23 6,Zx 24 2 22 23,Zo 25 (.load 2 true (Zt 24)),Zo 7 (.alloc (.agg [.i 0,.lst .u 1 []])),⟨none,.store 2 (Zt 7) (Zt 25),none⟩] []) (.seq (.reg [Zm 26 1,Zo 27 (.load 2 true (Zt 7)),Zo 28 (.dynM (Zt 26) [(Zt 27)] [1000000001]),Zo 29 (.un .not (Zt 28))] []) (.cond (Zt 29) (.seq (.reg [Zm 30 0,Zm 31 5,Zo 32 (.load 2 true (Zt 7)),Zx 33 2 30 31,⟨none,.store 2 (Zt 33) (Zt 32),none⟩] []) (.reg [Zm 34 5,Zd 35 .add 34 1,Zm 5 35] [])) .skip)))) (.reg [Zm 20 6,Zd 21 .add 20 1,Zm 6 21] [])))
def yA:aj:=(.seq (.reg [Zm 36 0,Zm 37 5,Zo 38 (.slc 2 (Zt 36) (some (Zt 37)) none none),⟨none,.clr 2 (.agg [.i 0,.sc (.slice none 0 0)]) (Zt 38),none⟩] []) (.seq (.reg [Zm 39 0,Zm 40 5,Zo 41 (.slc 2 (Zt 39) none (some (Zt 40)) none),Zm 4 41] [.s 4]) .ret))
def OE:aj:=(.seq (.reg [Zo 4 (.mv (.c (.lst .u 2 [])))] [.s 4]) (.seq (.reg [Zm 8 0,Zm 9 1,Zo 10 (.callM 117 [(Zt 8),(Zt 9)] [1000000000,1000000001]),Zm 5 10] []) (.seq (.seq (.reg [Zm 11 5,Zd 12 .eql 11 (-1)] []) (.cond (Zt 12) (.seq (.reg [Zm 13 0,Zm 4 13] [.s 4]) .ret) .skip)) (.seqa (.reg [Zm 14 5,Zd 15 .add 14 1,Zm 6 15] []) (.blk 0 (.loop qH)) [0,5] [1000000000,1000000001] yA))))
def xU:List RV:=[.t 4]
theorem Sp:bh Tryz.prog 77 2 OE xU=true:=by kernel_rfl
def vM:aj:=(.seq (.reg [Zb 12 .lss 11 10] []) (.seq (.cond (Zt 12) .skip (.exit 0)) (.seq (.blk 1 (.seq (.reg [Zx 13 1 9 11,Zl 14 13,Zm 7 14] []) (.reg [Zm 15 5,Za 16 1 2,Zl 17 16,Zm 18 7,Zx 19 4 17 18,Za 20 2 19,Zl 21 20,Zb 22 .add 15 21,Zm 5 22] []))) (.reg [Zd 23 .add 11 1,Zm 11 23] []))))
def Jo:aj:=(.seq (.reg [Zm 24 5,Zm 4 24] []) .ret)
def A122:aj:=(.seq (.reg [Zo 2 (.box 2 (Zt 0)),Zo 3 (.box 2 (Zt 1)),Zn 4 0] []) (.seq (.reg [Zn 5 0] []) (.seqa (.reg [Za 8 1 3,Zl 9 8,Zk 10 9,Zn 11 0] []) (.blk 0 (.loop vM)) [5] [] Jo)))
def Pv:List RV:=[.t 4]
theorem m122:bh Tryz.prog 122 2 A122 Pv=true:=by kernel_rfl
def A82:aj:=(.seq (.reg [Zo 3 (.box 2 (Zt 0)),Zo 4 (.box 2 (Zt 1)),Zo 5 (.box 2 (Zt 2)),Zn 6 0] []) (.seq (.drw [Zo 7 (.load 2 true (Zt 3)),Zo 8 (.load 2 true (Zt 4)),Zo 9 (.call 122 [(Zt 7),(Zt 8)]),Zo 10 (.load 2 true (Zt 3)),Zo 11 (.load 2 true (Zt 5)),Zo 12 (.call 122 [(Zt 10),(Zt 11)]),Zo 13 (.call 121 [(Zt 9),(Zt 12)]),Za 14 1 4,Zl 15 14,Zk 16 15,Za 17 1 5,Zl 18 17,Zk 19 18,Zo 20 (.call 121 [(Zt 16),(Zt 19)]),Za 21 1 4,Zl 22 21,Za 23 1 5,Zl 24 23,Zo 25 (.call 116 [(Zt 22),(Zt 24)]),Za 26 0 4,Zl 27 26,Za 28 0 5,Zl 29 28,Zo 30 (.call 121 [(Zt 27),(Zt 29)]),Zo 31 (.bsl 1 true [(Zt 13),(Zt 20),(Zt 25),(Zt 30)]),Zo 32 (.call 120 [(Zt 31)]),Zm 6 32] []) .ret))
def V82:List RV:=[.t 6]
theorem m82:bh Tryz.prog 82 3 A82 V82=true:=by kernel_rfl
def A81:aj:=(.seq (.reg [Zo 3 (.box 2 (Zt 0)),Zo 4 (.box 2 (Zt 1)),Zn 5 0] []) (.seq (.reg [Zo 6 (.load 2 true (Zt 2)),Zo 7 (.load 2 true (Zt 3)),Zo 8 (.load 2 true (Zt 4)),Zo 9 (.call 82 [(Zt 6),(Zt 7),(Zt 8)]),Zm 5 9] []) .ret))
def V81:List RV:=[.t 5]
theorem m81:bh Tryz.prog 81 3 A81 V81=true:=by kernel_rfl
def NR:aj:=(.cond (Zt 31) (.seq (.reg [Zo 6 (.mv (.c (.lst .u 2 []))),Zo 7 (.mv (.c (.b false)))] [.s 6]) .ret) .skip)
def Oh:aj:=(.cond (Zt 58) (.seq (.reg [Zo 6 (.mv (.c (.lst .u 2 []))),Zo 7 (.mv (.c (.b false)))] [.s 6]) .ret) .skip)
def Jt:aj:=(.seq (.seq (.reg [Zm 66 16,Zm 67 13,Zb 68 .neq 66 67] []) (.cond (Zt 68) .skip (.exit 0))) (.seq (.blk 1 (.drw [Za 73 1 14,Zl 74 73,Zm 75 1,Zm 76 16,Zx 77 1 75 76,Zl 78 77,Zo 79 (.bsl 1 true [(Zt 78)]),Zo 80 (.app 1 8 true (Zt 74) (Zt 79)),Za 81 1 14,⟨none,.store 1 (Zt 81) (Zt 80),none⟩] [.f false 500000897 14 1])) (.reg [Zm 69 16,Zd 70 .add 69 1,Zm 71 11,Zb 72 .rem 70 71,Zm 16 72] [])))
def FO:aj:=(.seq (.seq (.reg [Zm 83 17,Zm 84 13,Zb 85 .neq 83 84] []) (.cond (Zt 85) .skip (.exit 2))) (.seq (.blk 3 (.drw [Za 92 1 15,Zl 93 92,Zm 94 1,Zm 95 17,Zm 96 11,Zb 97 .add 95 96,Zd 98 .sub 97 1,Zm 99 11,Zb 100 .rem 98 99,Zx 101 1 94 100,Zl 102 101,Zo 103 (.bsl 1 true [(Zt 102)]),Zo 104 (.app 1 8 true (Zt 93) (Zt 103)),Za 105 1 15,⟨none,.store 1 (Zt 105) (Zt 104),none⟩] [.f false 500000961 15 1])) (.reg [Zm 86 17,Zm 87 11,Zb 88 .add 86 87,Zd 89 .sub 88 1,Zm 90 11,Zb 91 .rem 89 90,Zm 17 91] [])))
def Ov:aj:=(.seq (.reg [Zo 106 (.load 2 true (Zt 14)),Zo 107 (.load 2 true (Zt 15)),Zo 108 (.bsl 2 false [(Zt 106),(Zt 107)]),Zo 109 (.mkf 78 [(Zt 5)]),Zo 110 (.callM 77 [(Zt 108),(Zt 109)] [108,5]),Zm 18 110] [.s 18]) (.seq (.reg [Zm 111 18,Zo 112 (.mkf 81 [(Zt 3)]),Zo 113 (.callM 80 [(Zt 111),(Zt 112)] [18,3])] []) (.seq (.reg [Zm 114 18,Zm 6 114,Zo 7 (.mv (.c (.b true)))] [.s 6]) .ret)))
def NC:aj:=(.seqa (.reg [Zm 82 12,Zm 17 82] []) (.blk 2 (.loop FO)) [3,5,14,15] [3,5,14,15,500000897,500000961] Ov)
def A37:aj:=(.seq (.reg [Zo 3 (.box 2 (Zt 0)),Zo 5 (.box 1 (Zt 2)),Zo 6 (.mv (.c (.lst .u 2 []))),Zo 7 (.mv (.c (.b false)))] [.s 6]) (.seq (.seqr (.reg [Zo 19 (.load 2 true (Zt 3)),Zm 20 1,Zo 21 (.call 40 [(Zt 19),(Zt 20)]),Zo 22 (.un .not (Zt 21)),Zm 23 22,⟨(some 24),.load 1 false (Zt 5),(some (23,false))⟩,⟨(some 25),.fad 1 (Zt 3),(some (23,false))⟩,⟨(some 26),.load 1 false (Zt 25),(some (23,false))⟩,⟨(some 27),.len (Zt 26),(some (23,false))⟩,⟨(some 28),.bin .sub (Zt 27) (.c (.i 1)),(some (23,false))⟩,⟨(some 29),.call 70 [(Zt 24),(.c (.i 0)),(Zt 28)],(some (23,false))⟩,⟨(some 30),.un .not (Zt 29),(some (23,false))⟩,Zo 31 (.pick (Zt 23) (.c (.b true)) (Zt 30))] []) [1,3,5,31] [3,5] NR) (.seq (.reg [Zo 33 (.load 2 true (Zt 3)),Zm 34 1,Zo 35 (.call 75 [(Zt 33),(Zt 34)]),Zm 32 35,Ze 36 32 0,Ze 37 32 1,Zm 8 36,Zm 9 37] [.s 8]) (.seq (.reg [Za 38 1 3,Zl 39 38,Zl 40 5,Zx 41 4 39 40,Zo 42 (.load 4 true (Zt 41)),Zm 43 1,Zk 44 43,Zo 10 (.alloc (.agg [.i 0,.i 0,.i 0,.i 0])),⟨none,.store 4 (Zt 10) (Zt 42),none⟩,Zm 11 44] []) (.seq (.drw [Zm 45 8,Za 46 0 10,Zl 47 46,Zo 48 (.call 76 [(Zt 45),(Zt 47)]),Zm 49 8,Za 50 1 10,Zl 51 50,Zo 52 (.call 76 [(Zt 49),(Zt 51)]),Zm 12 48,Zm 13 52] []) (.seq (.seqr (.reg [Zm 53 12,Zd 54 .lss 53 0,Zm 55 54,⟨(some 56),.mv (Zt 13),(some (55,false))⟩,⟨(some 57),.bin .lss (Zt 56) (.c (.i 0)),(some (55,false))⟩,Zo 58 (.pick (Zt 55) (.c (.b true)) (Zt 57))] []) [1,3,5,10,11,12,13,58] [3,5,10] Oh) (.seq (.drw [Zo 59 (.fdv [] 0 (Zt 10)),Zo 60 (.ldv [] 1 false (Zt 59)),Zo 61 (.build [.i 0,.lst .u 1 []] [(0,1,(Zt 60))]),Zo 62 (.fdv [] 0 (Zt 10)),Zo 63 (.ldv [] 1 false (Zt 62)),Zo 64 (.build [.i 0,.lst .u 1 []] [(0,1,(Zt 63))]),Zo 14 (.alloc (.agg [.i 0,.lst .u 1 []])),Zo 15 (.alloc (.agg [.i 0,.lst .u 1 []])),⟨none,.stv 2 (Zt 14) (Zt 61),none⟩,⟨none,.store 2 (Zt 15) (Zt 64),none⟩] [.f false 500000897 14 1,.f false 500000961 15 1]) (.seqa (.reg [Zm 65 12,Zm 16 65] []) (.blk 0 (.loop Jt)) [1,3,5,11,12,13,14,15] [3,5,14,15,500000897,500000961] NC))))))))
def V37:List RV:=[.t 6,.t 7]
theorem m37:bh Tryz.prog 37 3 A37 V37=true:=by kernel_rfl
def Fa:aj:=(.cond (Zt 43) (.seq (.reg [Zm 44 8,Zm 6 44,Zo 7 (.mv (.c (.b false)))] [.s 6]) .ret) .skip)
def xc:aj:=(.seq (.seq (.reg [Zm 13 10,Zm 14 1,Zk 15 14,Zb 16 .lss 13 15] []) (.cond (Zt 16) .skip (.exit 0))) (.seq (.blk 1 (.seq (.seqr (.drw [Zm 19 1,Zm 20 10,Zx 21 1 19 20,Zl 22 21,Za 23 1 3,Zl 24 23,Zk 25 24,Zd 26 .sub 25 1,Zo 27 (.call 72 [(Zt 22),(.c (.i 0)),(Zt 26)]),Zo 28 (.un .not (Zt 27)),Zm 29 28,⟨(some 30),.mv (Zt 1),(some (29,false))⟩,⟨(some 31),.mv (Zt 10),(some (29,false))⟩,⟨(some 32),.slc 1 (Zt 30) none (some (Zt 31)) none,(some (29,false))⟩,⟨(some 33),.mv (Zt 1),(some (29,false))⟩,⟨(some 34),.mv (Zt 10),(some (29,false))⟩,⟨(some 35),.idx 1 (Zt 33) (Zt 34),(some (29,false))⟩,⟨(some 36),.load 1 false (Zt 35),(some (29,false))⟩,⟨(some 37),.call 83 [(Zt 32),(Zt 36)],(some (29,false))⟩,Zo 38 (.pick (Zt 29) (.c (.b true)) (Zt 37)),Zm 39 38,⟨(some 40),.mv (Zt 8),(some (39,false))⟩,⟨(some 41),.mv (Zt 9),(some (39,false))⟩,⟨(some 42),.call 83 [(Zt 40),(Zt 41)],(some (39,false))⟩,Zo 43 (.pick (Zt 39) (.c (.b true)) (Zt 42))] []) [1,2,3,8,9,10,43] [3,8] Fa) (.seq (.reg [Zm 45 8,Zm 46 9,Zo 47 (.bsl 1 false [(Zt 46)]),Zo 48 (.app 1 8 true (Zt 45) (Zt 47)),Zm 8 48] [.s 8]) (.seq (.drw [Zo 49 (.load 2 true (Zt 3)),Zm 50 1,Zm 51 10,Zx 52 1 50 51,Zl 53 52,Zm 54 9,Zo 55 (.call 123 [(Zt 49),(Zt 53),(Zt 54)]),Zm 9 55] []) (.seq (.reg [Zm 56 9,Zd 57 .lss 56 0] []) (.cond (Zt 57) (.seq (.reg [Zm 58 8,Zm 6 58,Zo 7 (.mv (.c (.b false)))] [.s 6]) .ret) .skip)))))) (.reg [Zm 17 10,Zd 18 .add 17 1,Zm 10 18] [])))
def EQ:aj:=(.seq (.reg [Zm 59 8,Zm 60 9,Zm 61 2,Zb 62 .eql 60 61,Zm 63 62,⟨(some 64),.mv (Zt 1),(some (63,true))⟩,⟨(some 65),.len (Zt 64),(some (63,true))⟩,⟨(some 66),.bin .gtr (Zt 65) (.c (.i 1)),(some (63,true))⟩,Zo 67 (.pick (Zt 63) (Zt 66) (.c (.b false))),Zm 6 59,Zm 7 67] [.s 6]) .ret)
def A141:aj:=(.seq (.reg [Zo 3 (.box 2 (Zt 0)),Zo 6 (.mv (.c (.lst .u 1 []))),Zo 7 (.mv (.c (.b false)))] [.s 6]) (.seq (.reg [Zo 11 (.bsl 1 false []),Zm 8 11] [.s 8]) (.seq (.reg [Zm 12 2,Zm 9 12] []) (.seqa (.reg [Zn 10 0] []) (.blk 0 (.loop xc)) [1,2,8,9] [8] EQ))))
def xi:List RV:=[.t 6,.t 7]
theorem m141:bh Tryz.prog 141 3 A141 xi=true:=by kernel_rfl
def vW:aj:=(.seq (.seq (.reg [Zm 26 9,Zm 27 6,Zk 28 27,Zb 29 .lss 26 28] []) (.cond (Zt 29) .skip (.exit 2))) (.seq (.blk 3 (.reg [Zm 32 8,Zm 33 32,⟨(some 34),.mv (Zt 6),(some (33,true))⟩,⟨(some 35),.mv (Zt 9),(some (33,true))⟩,⟨(some 36),.idx 1 (Zt 34) (Zt 35),(some (33,true))⟩,⟨(some 37),.load 1 false (Zt 36),(some (33,true))⟩,⟨(some 38),.mv (Zt 5),(some (33,true))⟩,⟨(some 39),.bin .geq (Zt 37) (Zt 38),(some (33,true))⟩,Zo 40 (.pick (Zt 33) (Zt 39) (.c (.b false))),Zm 8 40] [])) (.reg [Zm 30 9,Zd 31 .add 30 1,Zm 9 31] [])))
def FY:aj:=(.seq (.reg [Zm 41 8,Zm 42 41,⟨(some 43),.mv (Zt 1),(some (42,true))⟩,⟨(some 44),.call 108 [(Zt 43)],(some (42,true))⟩,⟨(some 45),.mv (Zt 1),(some (42,true))⟩,⟨(some 46),.call 142 [(Zt 44),(Zt 45)],(some (42,true))⟩,⟨(some 47),.un .not (Zt 46),(some (42,true))⟩,Zo 48 (.pick (Zt 42) (Zt 47) (.c (.b false))),Zm 4 48] []) .ret)
def xl:aj:=(.seq (.seq (.reg [Zm 10 5,Za 11 0 2,Zl 12 11,Zk 13 12,Zb 14 .lss 10 13] []) (.cond (Zt 14) .skip (.exit 0))) (.seq (.blk 1 (.seq (.reg [Zo 18 (.load 2 true (Zt 2)),Zm 19 1,Zm 20 5,Zo 21 (.call 141 [(Zt 18),(Zt 19),(Zt 20)]),Zm 17 21,Ze 22 17 0,Ze 23 17 1,Zm 6 22,Zm 7 23] [.s 6]) (.seq (.seq (.reg [Zm 24 7,Zo 25 (.un .not (Zt 24))] []) (.cond (Zt 25) (.exit 1) .skip)) (.seq (.reg [Zo 8 (.mv (.c (.b true)))] []) (.seqa (.reg [Zn 9 0] []) (.blk 2 (.loop vW)) [1,8] [] FY))))) (.reg [Zm 15 5,Zd 16 .add 15 1,Zm 5 16] [])))
def Eb:aj:=(.seq (.reg [Zo 4 (.mv (.c (.b false)))] []) .ret)
def A111:aj:=(.seq (.reg [Zo 2 (.box 2 (Zt 0)),Zo 4 (.mv (.c (.b false)))] []) (.seqa (.reg [Zn 5 0] []) (.blk 0 (.loop xl)) [] [] Eb))
def BB:List RV:=[.t 4]
theorem m111:bh Tryz.prog 111 2 A111 BB=true:=by kernel_rfl
def A71:aj:=(.seq (.reg [Zo 2 (.box 2 (Zt 0)),Zo 4 (.mv (.c (.b false)))] []) (.seq (.reg [Zo 5 (.load 2 true (Zt 2)),Zo 6 (.call 59 [(Zt 5)]),Zm 7 6,⟨(some 8),.load 2 true (Zt 2),(some (7,true))⟩,⟨(some 9),.mv (Zt 1),(some (7,true))⟩,⟨(some 10),.call 111 [(Zt 8),(Zt 9)],(some (7,true))⟩,Zo 11 (.pick (Zt 7) (Zt 10) (.c (.b false))),Zm 4 11] []) .ret))
def V71:List RV:=[.t 4]
theorem m71:bh Tryz.prog 71 2 A71 V71=true:=by kernel_rfl
def wO:aj:=(.seq (.seq (.reg [Zm 8 5,Za 9 0 2,Zl 10 9,Zk 11 10,Zb 12 .lss 8 11] []) (.cond (Zt 12) .skip (.exit 0))) (.seq (.blk 1 (.seq (.reg [Zo 16 (.load 2 true (Zt 2)),Zm 17 1,Zm 18 5,Zo 19 (.call 141 [(Zt 16),(Zt 17),(Zt 18)]),Zm 15 19,Ze 20 15 0,Ze 21 15 1,Zm 6 20,Zm 7 21] [.s 6]) (.seq (.reg [Zm 22 7] []) (.cond (Zt 22) (.seq (.reg [Zm 23 6,Zm 4 23] [.s 4]) .ret) .skip)))) (.reg [Zm 13 5,Zd 14 .add 13 1,Zm 5 14] [])))
def FP:aj:=(.seq (.reg [Zo 24 (.bsl 1 false []),Zm 4 24] [.s 4]) .ret)
def A112:aj:=(.seq (.reg [Zo 2 (.box 2 (Zt 0)),Zo 4 (.mv (.c (.lst .u 1 [])))] [.s 4]) (.seqa (.reg [Zn 5 0] []) (.blk 0 (.loop wO)) [] [] FP))
def DG:List RV:=[.t 4]
theorem m112:bh Tryz.prog 112 2 A112 DG=true:=by kernel_rfl
def OA:aj:=(.cond (Zt 30) (.reg [Zm 49 7,Zm 50 9,Zo 51 (.bsl 1 false [(Zt 50)]),Zo 52 (.app 1 8 true (Zt 49) (Zt 51)),Zm 7 52] [.s 7]) .skip)
def EI:aj:=(.seq (.seq (.reg [Zm 15 9,Za 16 1 2,Zl 17 16,Zk 18 17,Zb 19 .lss 15 18] []) (.cond (Zt 19) .skip (.exit 0))) (.seq (.blk 1 (.blk 2 (.seq (.reg [Zm 23 1,Zm 24 9,Zo 25 (.call 83 [(Zt 23),(Zt 24)]),Zm 22 25] []) (.cond (Zt 22) (.reg [Zm 26 6,Zm 27 9,Zo 28 (.bsl 1 false [(Zt 27)]),Zo 29 (.app 1 8 true (Zt 26) (Zt 28)),Zm 6 29] [.s 6]) (.seqr (.reg [Zm 31 8,Za 32 1 2,Zl 33 32,Zm 34 9,Zx 35 4 33 34,Za 36 0 35,Zl 37 36,Zo 38 (.call 83 [(Zt 31),(Zt 37)]),Zm 39 38,⟨(some 40),.mv (Zt 8),(some (39,true))⟩,⟨(some 41),.fad 1 (Zt 2),(some (39,true))⟩,⟨(some 42),.load 1 false (Zt 41),(some (39,true))⟩,⟨(some 43),.mv (Zt 9),(some (39,true))⟩,⟨(some 44),.idx 4 (Zt 42) (Zt 43),(some (39,true))⟩,⟨(some 45),.fad 1 (Zt 44),(some (39,true))⟩,⟨(some 46),.load 1 false (Zt 45),(some (39,true))⟩,⟨(some 47),.call 83 [(Zt 40),(Zt 46)],(some (39,true))⟩,Zo 48 (.pick (Zt 39) (Zt 47) (.c (.b false))),Zm 30 48] []) [1,2,6,7,8,9,30] [2,6,7,8] OA))))) (.reg [Zm 20 9,Zd 21 .add 20 1,Zm 9 21] [])))
def NI:aj:=(.seq (.reg [Zm 53 6,Zm 54 7,Zm 4 53,Zm 5 54] [.s 4,.s 5]) .ret)
def A73:aj:=(.seq (.reg [Zo 2 (.box 2 (Zt 0)),Zo 4 (.mv (.c (.lst .u 1 []))),Zo 5 (.mv (.c (.lst .u 1 [])))] [.s 4,.s 5]) (.seq (.reg [Zo 10 (.bsl 1 false []),Zo 11 (.bsl 1 false []),Zm 6 10,Zm 7 11] [.s 6,.s 7]) (.seq (.reg [Zo 12 (.load 2 true (Zt 2)),Zm 13 1,Zo 14 (.call 112 [(Zt 12),(Zt 13)]),Zm 8 14] [.s 8]) (.seqa (.reg [Zn 9 0] []) (.blk 0 (.loop EI)) [6,7] [6,7] NI))))
def V73:List RV:=[.t 4,.t 5]
theorem m73:bh Tryz.prog 73 2 A73 V73=true:=by kernel_rfl
def Dn:aj:=(.seq (.seq (.reg [Zm 16 9,Zm 17 10,Zx 18 1 16 17,Zl 19 18,Zm 20 2,Zb 21 .neq 19 20] []) (.cond (Zt 21) .skip (.exit 0))) (.blk 1 (.reg [Zm 22 10,Zd 23 .add 22 1,Zm 10 23] [])))
def DU:aj:=(.seq (.seq (.reg [Zm 27 12,Zm 28 3,Zb 29 .neq 27 28] []) (.cond (Zt 29) .skip (.exit 2))) (.blk 3 (.seq (.drw [Za 30 1 11,Zl 31 30,Zm 32 1,Zm 33 10,Zx 34 1 32 33,Zl 35 34,Zo 36 (.bsl 1 true [(Zt 35)]),Zo 37 (.app 1 8 true (Zt 31) (Zt 36)),Za 38 1 11,⟨none,.store 1 (Zt 38) (Zt 37),none⟩] [.f false 500000705 11 1]) (.seq (.drw [Zo 39 (.load 2 true (Zt 4)),Zm 40 1,Zm 41 10,Zx 42 1 40 41,Zl 43 42,Zm 44 12,Zo 45 (.call 123 [(Zt 39),(Zt 43),(Zt 44)]),Zm 12 45] []) (.reg [Zm 46 10,Zd 47 .add 46 1,Zm 48 1,Zk 49 48,Zb 50 .rem 47 49,Zm 10 50] [])))))
def NV:aj:=(.seq (.reg [Zo 51 (.load 2 true (Zt 11)),⟨none,.store 2 (Zt 8) (Zt 51),none⟩] [.f false 500000513 8 1]) .ret)
def NG:aj:=(.seq (.reg [Zm 24 2,Zo 25 (.build [.i 0,.lst .u 1 []] [(0,1,(Zt 24))]),Zo 11 (.alloc (.agg [.i 0,.lst .u 1 []])),⟨none,.store 2 (Zt 11) (Zt 25),none⟩] [.f false 500000705 11 1]) (.seq (.reg [Zm 26 2,Zm 12 26] []) (.seqr (.blk 2 (.loop DU)) [8,11] [8,11,500000705] NV)))
def A84:aj:=(.seq (.reg [Zo 4 (.box 2 (Zt 0)),Zo 8 (.alloc (.agg [.i 0,.lst .u 1 []]))] []) (.seq (.reg [Zo 13 (.load 2 true (Zt 4)),Zm 14 1,Zo 15 (.call 112 [(Zt 13),(Zt 14)]),Zm 9 15] [.s 9]) (.seq (.reg [Zn 10 0] []) (.seqr (.blk 0 (.loop Dn)) [1,2,3,4,8,10] [4,8] NG))))
def V84:List RV:=[.c 8 2 true]
theorem m84:bh Tryz.prog 84 4 A84 V84=true:=by kernel_rfl
def Ji:aj:=(.cond (Zt 25) (.seq (.reg [Zm 26 6,Zm 4 26,Zo 5 (.mv (.c (.b false)))] [.s 4]) .ret) .skip)
def Fr:aj:=(.cond (Zt 65) (.seq (.reg [Zm 66 6,Zm 4 66,Zo 5 (.mv (.c (.b false)))] [.s 4]) .ret) .skip)
def vm:aj:=(.seq (.seq (.reg [Zm 27 7,Za 28 1 3,Zl 29 28,Zk 30 29,Zb 31 .lss 27 30] []) (.cond (Zt 31) .skip (.exit 0))) (.seq (.blk 1 (.seq (.seq (.drw [Za 34 1 3,Zl 35 34,Zm 36 7,Zx 37 1 35 36,Zl 38 37,Za 39 1 2,Zl 40 39,Zk 41 40,Zd 42 .sub 41 1,Zo 43 (.call 72 [(Zt 38),(.c (.i 0)),(Zt 42)]),Zo 44 (.un .not (Zt 43))] []) (.cond (Zt 44) (.seq (.reg [Zm 45 6,Zm 4 45,Zo 5 (.mv (.c (.b false)))] [.s 4]) .ret) .skip)) (.seq (.drw [Zo 46 (.load 2 true (Zt 2)),Za 47 1 3,Zl 48 47,Zm 49 7,Zx 50 1 48 49,Zl 51 50,Zm 52 6,Zm 53 6,Zk 54 53,Zd 55 .sub 54 1,Zx 56 1 52 55,Zl 57 56,Zo 58 (.call 123 [(Zt 46),(Zt 51),(Zt 57)]),Zm 8 58] []) (.seq (.seqr (.reg [Zm 59 8,Zd 60 .lss 59 0,Zm 61 60,⟨(some 62),.mv (Zt 6),(some (61,false))⟩,⟨(some 63),.mv (Zt 8),(some (61,false))⟩,⟨(some 64),.call 83 [(Zt 62),(Zt 63)],(some (61,false))⟩,Zo 65 (.pick (Zt 61) (.c (.b true)) (Zt 64))] []) [2,3,6,7,8,65] [2,3,6] Fr) (.reg [Zm 67 6,Zm 68 8,Zo 69 (.bsl 1 false [(Zt 68)]),Zo 70 (.app 1 8 true (Zt 67) (Zt 69)),Zm 6 70] [.s 6]))))) (.reg [Zm 32 7,Zd 33 .add 32 1,Zm 7 33] [])))
def JJ:aj:=(.seq (.reg [Zm 71 6,Zm 4 71,Zo 5 (.mv (.c (.b true)))] [.s 4]) .ret)
def A154:aj:=(.seq (.reg [Zo 2 (.box 2 (Zt 0)),Zo 3 (.box 2 (Zt 1)),Zo 4 (.mv (.c (.lst .u 1 []))),Zo 5 (.mv (.c (.b false)))] [.s 4]) (.seq (.reg [Za 9 0 3,Zl 10 9,Zo 11 (.bsl 1 false [(Zt 10)]),Zm 6 11] [.s 6]) (.seq (.seqr (.reg [Za 12 0 3,Zl 13 12,Za 14 0 2,Zl 15 14,Zk 16 15,Zd 17 .sub 16 1,Zo 18 (.call 72 [(Zt 13),(.c (.i 0)),(Zt 17)]),Zo 19 (.un .not (Zt 18)),Zm 20 19,⟨(some 21),.fad 1 (Zt 3),(some (20,false))⟩,⟨(some 22),.load 1 false (Zt 21),(some (20,false))⟩,⟨(some 23),.len (Zt 22),(some (20,false))⟩,⟨(some 24),.bin .eql (Zt 23) (.c (.i 0)),(some (20,false))⟩,Zo 25 (.pick (Zt 20) (.c (.b true)) (Zt 24))] []) [2,3,6,25] [2,3,6] Ji) (.seqa (.reg [Zn 7 0] []) (.blk 0 (.loop vm)) [6] [6] JJ))))
def wV:List RV:=[.t 4,.t 5]
theorem m154:bh Tryz.prog 154 2 A154 wV=true:=by kernel_rfl
def A124:aj:=(.seq (.reg [Zo 2 (.box 2 (Zt 0)),Zo 3 (.box 2 (Zt 1)),Zo 4 (.mv (.c (.b false)))] []) (.seq (.seq (.reg [Zo 7 (.load 2 true (Zt 2)),Zo 8 (.call 59 [(Zt 7)]),Zo 9 (.un .not (Zt 8))] []) (.cond (Zt 9) (.seq (.reg [Zo 4 (.mv (.c (.b false)))] []) .ret) .skip)) (.seq (.reg [Zo 11 (.load 2 true (Zt 2)),Zo 12 (.load 2 true (Zt 3)),Zo 13 (.call 154 [(Zt 11),(Zt 12)]),Zm 10 13,Ze 14 10 0,Ze 15 10 1,Zm 5 14,Zm 6 15] [.s 5]) (.seq (.reg [Zm 16 6,Zm 4 16] []) .ret))))
def KD:List RV:=[.t 4]
theorem m124:bh Tryz.prog 124 2 A124 KD=true:=by kernel_rfl
def A155:aj:=(.seq (.reg [Zo 2 (.box 2 (Zt 0)),Zo 3 (.box 2 (Zt 1)),Zo 4 (.mv (.c (.lst .u 1 [])))] [.s 4]) (.seq (.reg [Zo 8 (.load 2 true (Zt 2)),Zo 9 (.load 2 true (Zt 3)),Zo 10 (.call 154 [(Zt 8),(Zt 9)]),Zm 7 10,Ze 11 7 0,Ze 12 7 1,Zm 5 11,Zm 6 12] [.s 5]) (.seq (.reg [Zm 13 5,Zm 4 13] [.s 4]) .ret)))
def Px:List RV:=[.t 4]
theorem m155:bh Tryz.prog 155 2 A155 Px=true:=by kernel_rfl
def A125:aj:=(.seq (.reg [Zo 2 (.box 2 (Zt 0)),Zo 3 (.box 2 (Zt 1)),Zn 4 0] []) (.seq (.reg [Zo 6 (.load 2 true (Zt 2)),Zo 7 (.load 2 true (Zt 3)),Zo 8 (.call 155 [(Zt 6),(Zt 7)]),Zm 5 8] [.s 5]) (.seq (.reg [Zm 9 5,Zm 10 5,Zk 11 10,Zd 12 .sub 11 1,Zx 13 1 9 12,Zl 14 13,Zm 4 14] []) .ret)))
def PN:List RV:=[.t 4]
theorem m125:bh Tryz.prog 125 2 A125 PN=true:=by kernel_rfl
def IR:aj:=(.seq (.seq (.reg [Zm 21 7,Zd 22 .geq 21 0] []) (.cond (Zt 22) .skip (.exit 0))) (.seq (.blk 1 (.drw [Za 25 1 6,Zl 26 25,Za 27 1 3,Zl 28 27,Zm 29 7,Zx 30 1 28 29,Zl 31 30,Zo 32 (.bsl 1 true [(Zt 31)]),Zo 33 (.app 1 8 true (Zt 26) (Zt 32)),Za 34 1 6,⟨none,.store 1 (Zt 34) (Zt 33),none⟩] [.f false 500000385 6 1])) (.reg [Zm 23 7,Zd 24 .sub 23 1,Zm 7 24] [])))
def Oa:aj:=(.seq (.reg [Zo 35 (.load 2 true (Zt 6)),⟨none,.store 2 (Zt 4) (Zt 35),none⟩,Zo 5 (.mv (.c (.b true)))] [.f false 500000257 4 1]) .ret)
def A85:aj:=(.seq (.reg [Zo 2 (.box 2 (Zt 0)),Zo 3 (.box 2 (Zt 1)),Zo 4 (.alloc (.agg [.i 0,.lst .u 1 []])),Zo 5 (.mv (.c (.b false)))] []) (.seq (.seq (.reg [Zo 8 (.load 2 true (Zt 2)),Zo 9 (.load 2 true (Zt 3)),Zo 10 (.call 124 [(Zt 8),(Zt 9)]),Zo 11 (.un .not (Zt 10))] []) (.cond (Zt 11) (.seq (.reg [Zo 12 (.build [.i 0,.lst .u 1 []] []),⟨none,.store 2 (Zt 4) (Zt 12),none⟩,Zo 5 (.mv (.c (.b false)))] [.f false 500000257 4 1]) .ret) .skip)) (.seq (.reg [Zo 13 (.load 2 true (Zt 2)),Zo 14 (.load 2 true (Zt 3)),Zo 15 (.call 125 [(Zt 13),(Zt 14)]),Zo 16 (.build [.i 0,.lst .u 1 []] [(0,1,(Zt 15))]),Zo 6 (.alloc (.agg [.i 0,.lst .u 1 []])),⟨none,.store 2 (Zt 6) (Zt 16),none⟩] [.f false 500000385 6 1]) (.seqa (.reg [Za 17 1 3,Zl 18 17,Zk 19 18,Zd 20 .sub 19 1,Zm 7 20] []) (.blk 0 (.loop IR)) [4,6] [4,6,500000385] Oa))))
def V85:List RV:=[.c 4 2 true,.t 5]
theorem m85:bh Tryz.prog 85 2 A85 V85=true:=by kernel_rfl
def wG:aj:=(.seq (.seq (.reg [Zm 7 6,Za 8 1 3,Zl 9 8,Zk 10 9,Zb 11 .lss 7 10] []) (.cond (Zt 11) .skip (.exit 0))) (.seq (.blk 1 (.drw [Zm 14 5,Za 15 1 2,Zl 16 15,Za 17 1 3,Zl 18 17,Zm 19 6,Zx 20 1 18 19,Zl 21 20,Zx 22 4 16 21,Za 23 2 22,Zl 24 23,Zb 25 .add 14 24,Zm 5 25] [])) (.reg [Zm 12 6,Zd 13 .add 12 1,Zm 6 13] [])))
def GA:aj:=(.seq (.reg [Zm 26 5,Zm 4 26] []) .ret)
def A126:aj:=(.seq (.reg [Zo 2 (.box 2 (Zt 0)),Zo 3 (.box 2 (Zt 1)),Zn 4 0] []) (.seq (.reg [Zn 5 0] []) (.seqa (.reg [Zn 6 0] []) (.blk 0 (.loop wG)) [5] [] GA)))
def PM:List RV:=[.t 4]
theorem m126:bh Tryz.prog 126 2 A126 PM=true:=by kernel_rfl
def A127:aj:=(.seq (.reg [Zn 2 0] []) (.seq (.blk 0 (.seq (.reg [Zm 4 0,Zd 5 .lss 4 0,Zm 3 5] []) (.cond (Zt 3) (.seq (.reg [Zn 2 (-1)] []) .ret) (.seq (.reg [Zm 7 0,Zd 8 .gtr 7 0,Zm 6 8] []) (.cond (Zt 6) (.seq (.reg [Zn 2 1] []) .ret) .skip))))) (.seq (.reg [Zn 2 0] []) .ret)))
def Fk:List RV:=[.t 2]
theorem m127:bh Tryz.prog 127 1 A127 Fk=true:=by kernel_rfl
def Dt:aj:=(.seq (.seq (.reg [Zm 32 9,Za 33 1 4,Zl 34 33,Zk 35 34,Zb 36 .lss 32 35] []) (.cond (Zt 36) .skip (.exit 0))) (.seq (.blk 1 (.seq (.drw [Za 39 1 4,Zl 40 39,Zm 41 9,Zx 42 1 40 41,Zl 43 42,Za 44 1 5,Zl 45 44,Zm 46 9,Zx 47 1 45 46,Zl 48 47,Zb 49 .neq 43 48] []) (.cond (Zt 49) (.seq (.drw [Za 50 1 4,Zl 51 50,Zm 52 9,Zx 53 1 51 52,Zl 54 53,Za 55 1 5,Zl 56 55,Zm 57 9,Zx 58 1 56 57,Zl 59 58,Zb 60 .sub 54 59,Zo 61 (.call 127 [(Zt 60)]),Zm 6 61] []) .ret) .skip))) (.reg [Zm 37 9,Zd 38 .add 37 1,Zm 9 38] [])))
def NA:aj:=(.seq (.reg [Za 62 0 4,Zl 63 62,Za 64 0 5,Zl 65 64,Zb 66 .sub 63 65,Zo 67 (.call 127 [(Zt 66)]),Zm 6 67] []) .ret)
def A86:aj:=(.seq (.reg [Zo 3 (.box 2 (Zt 0)),Zo 4 (.box 2 (Zt 1)),Zo 5 (.box 2 (Zt 2)),Zn 6 0] []) (.seq (.seq (.drw [Zo 10 (.load 2 true (Zt 3)),Zo 11 (.load 2 true (Zt 4)),Zo 12 (.call 126 [(Zt 10),(Zt 11)]),Zo 13 (.load 2 true (Zt 3)),Zo 14 (.load 2 true (Zt 5)),Zo 15 (.call 126 [(Zt 13),(Zt 14)]),Zb 16 .sub 12 15,Zm 7 16] []) (.seq (.reg [Zm 17 7,Zd 18 .neq 17 0] []) (.cond (Zt 18) (.seq (.reg [Zm 19 7,Zo 20 (.call 127 [(Zt 19)]),Zm 6 20] []) .ret) .skip))) (.seq (.seq (.reg [Za 21 1 4,Zl 22 21,Zk 23 22,Za 24 1 5,Zl 25 24,Zk 26 25,Zb 27 .sub 23 26,Zm 8 27] []) (.seq (.reg [Zm 28 8,Zd 29 .neq 28 0] []) (.cond (Zt 29) (.seq (.reg [Zm 30 8,Zo 31 (.call 127 [(Zt 30)]),Zm 6 31] []) .ret) .skip))) (.seqa (.reg [Zn 9 0] []) (.blk 0 (.loop Dt)) [4,5] [4,5] NA))))
def V86:List RV:=[.t 6]
theorem m86:bh Tryz.prog 86 3 A86 V86=true:=by kernel_rfl
def Oz:aj:=(.cond (Zt 29) (.seq (.reg [Zm 30 8,Zm 6 30,Zo 7 (.mv (.c (.b false)))] [.s 6]) .ret) .skip)
def OQ:aj:=(.cond (Zt 46) (.seq (.reg [Zm 47 8,Zm 6 47,Zo 7 (.mv (.c (.b false)))] [.s 6]) .ret) .skip)
def NP:aj:=(.seq (.seq (.reg [Za 89 1 13,Zl 90 89,Zm 91 2,Zo 92 (.call 83 [(Zt 90),(Zt 91)]),Zo 93 (.un .not (Zt 92))] []) (.cond (Zt 93) (.reg [Zm 94 8,Zo 95 (.load 2 true (Zt 13)),Zo 96 (.bsl 2 false [(Zt 95)]),Zo 97 (.app 2 32 true (Zt 94) (Zt 96)),Zm 8 97] [.s 8]) .skip)) (.seq (.reg [Zm 98 8,Zm 6 98,Zo 7 (.mv (.c (.b true)))] [.s 6]) .ret))
def OO:aj:=(.seqr (.seq (.reg [Za 80 1 12,Zl 81 80,Zm 82 2,Zo 83 (.call 83 [(Zt 81),(Zt 82)]),Zo 84 (.un .not (Zt 83))] []) (.cond (Zt 84) (.reg [Zm 85 8,Zo 86 (.load 2 true (Zt 12)),Zo 87 (.bsl 2 false [(Zt 86)]),Zo 88 (.app 2 32 true (Zt 85) (Zt 87)),Zm 8 88] [.s 8]) .skip)) [2,8,13] [8,13,500000833] NP)
def A38:aj:=(.seq (.reg [Zo 3 (.box 2 (Zt 0)),Zo 6 (.mv (.c (.lst .u 2 []))),Zo 7 (.mv (.c (.b false)))] [.s 6]) (.seq (.reg [Zo 16 (.bsl 2 false []),Zm 8 16] [.s 8]) (.seq (.seqr (.reg [Zo 17 (.load 2 true (Zt 3)),Zm 18 1,Zo 19 (.call 71 [(Zt 17),(Zt 18)]),Zo 20 (.un .not (Zt 19)),Zm 21 20,⟨(some 22),.mv (Zt 2),(some (21,false))⟩,⟨(some 23),.fad 1 (Zt 3),(some (21,false))⟩,⟨(some 24),.load 1 false (Zt 23),(some (21,false))⟩,⟨(some 25),.len (Zt 24),(some (21,false))⟩,⟨(some 26),.bin .sub (Zt 25) (.c (.i 1)),(some (21,false))⟩,⟨(some 27),.call 72 [(Zt 22),(.c (.i 0)),(Zt 26)],(some (21,false))⟩,⟨(some 28),.un .not (Zt 27),(some (21,false))⟩,Zo 29 (.pick (Zt 21) (.c (.b true)) (Zt 28))] []) [1,2,3,8,29] [3,8] Oz) (.seq (.reg [Zo 32 (.load 2 true (Zt 3)),Zm 33 1,Zo 34 (.call 73 [(Zt 32),(Zt 33)]),Zm 31 34,Ze 35 31 0,Ze 36 31 1,Zm 9 35,Zm 10 36] [.s 9,.s 10]) (.seq (.seqr (.reg [Zm 37 9,Zm 38 2,Zo 39 (.call 83 [(Zt 37),(Zt 38)]),Zo 40 (.un .not (Zt 39)),Zm 41 40,⟨(some 42),.mv (Zt 10),(some (41,true))⟩,⟨(some 43),.mv (Zt 2),(some (41,true))⟩,⟨(some 44),.call 83 [(Zt 42),(Zt 43)],(some (41,true))⟩,⟨(some 45),.un .not (Zt 44),(some (41,true))⟩,Zo 46 (.pick (Zt 41) (Zt 45) (.c (.b false)))] []) [1,2,3,8,46] [3,8] OQ) (.seq (.reg [Za 48 1 3,Zl 49 48,Zm 50 2,Zx 51 4 49 50,Zo 52 (.load 4 true (Zt 51)),Zo 11 (.alloc (.agg [.i 0,.i 0,.i 0,.i 0])),⟨none,.store 4 (Zt 11) (Zt 52),none⟩] []) (.seq (.reg [Zo 53 (.load 2 true (Zt 3)),Zm 54 1,Za 55 0 11,Zl 56 55,Za 57 1 11,Zl 58 57,Zo 59 (.call 84 [(Zt 53),(Zt 54),(Zt 56),(Zt 58)]),Zo 12 (.alloc (.agg [.i 0,.lst .u 1 []])),⟨none,.store 2 (Zt 12) (Zt 59),none⟩] [.f false 500000769 12 1]) (.seq (.drw [Zo 61 (.load 2 true (Zt 3)),Zo 62 (.load 2 true (Zt 3)),Zm 63 1,Za 64 1 11,Zl 65 64,Za 66 0 11,Zl 67 66,Zo 68 (.call 84 [(Zt 62),(Zt 63),(Zt 65),(Zt 67)]),Zo 69 (.call 85 [(Zt 61),(Zt 68)]),Zm 60 69,Ze 70 60 0,Ze 71 60 1,Zo 13 (.alloc (.agg [.i 0,.lst .u 1 []])),⟨none,.store 2 (Zt 13) (Zt 70),none⟩,Zm 14 71] [.f false 500000833 13 1]) (.seqr (.seq (.reg [Zo 72 (.load 2 true (Zt 3)),Zo 73 (.load 2 true (Zt 13)),Zo 74 (.load 2 true (Zt 12)),Zo 75 (.call 86 [(Zt 72),(Zt 73),(Zt 74)]),Zd 76 .lss 75 0] []) (.cond (Zt 76) (.seq (.reg [Zo 77 (.load 2 true (Zt 12)),Zo 15 (.alloc (.agg [.i 0,.lst .u 1 []])),⟨none,.store 2 (Zt 15) (Zt 77),none⟩] [.f false 500000961 15 1]) (.seq (.reg [Zo 78 (.load 2 true (Zt 13)),⟨none,.store 2 (Zt 12) (Zt 78),none⟩] [.f false 500000769 12 1]) (.reg [Zo 79 (.load 2 true (Zt 15)),⟨none,.store 2 (Zt 13) (Zt 79),none⟩] [.f false 500000833 13 1]))) .skip)) [2,8,12,13] [8,12,13,500000769,500000833] OO)))))))))
def V38:List RV:=[.t 6,.t 7]
theorem m38:bh Tryz.prog 38 3 A38 V38=true:=by kernel_rfl
def Nz:aj:=(.cond (Zt 23) (.seq (.reg [Zo 4 (.mv (.c (.lst .u 1 []))),Zo 5 (.mv (.c (.b false)))] [.s 4]) .ret) .skip)
def NZ:aj:=(.cond (Zt 56) (.seq (.reg [Zo 4 (.mv (.c (.lst .u 1 []))),Zo 5 (.mv (.c (.b false)))] [.s 4]) .ret) .skip)
def Ei:aj:=(.seq (.reg [Zb 33 .lss 32 31] []) (.seq (.cond (Zt 33) .skip (.exit 0)) (.seq (.blk 1 (.seq (.reg [Zx 34 1 30 32,Zl 35 34,Zm 9 35] []) (.seq (.seq (.reg [Zm 36 9,Za 37 1 2,Zl 38 37,Zk 39 38,Zd 40 .sub 39 1,Zo 41 (.call 70 [(Zt 36),(.c (.i 0)),(Zt 40)]),Zo 42 (.un .not (Zt 41))] []) (.cond (Zt 42) (.seq (.reg [Zo 4 (.mv (.c (.lst .u 1 []))),Zo 5 (.mv (.c (.b false)))] [.s 4]) .ret) .skip)) (.seq (.reg [Za 43 1 2,Zl 44 43,Zm 45 9,Zx 46 4 44 45,Zo 47 (.load 4 true (Zt 46)),Zm 48 7,Zo 49 (.call 128 [(Zt 47),(Zt 48)]),Zm 7 49] []) (.seq (.seqr (.reg [Zm 50 7,Zd 51 .lss 50 0,Zm 52 51,⟨(some 53),.mv (Zt 6),(some (52,false))⟩,⟨(some 54),.mv (Zt 7),(some (52,false))⟩,⟨(some 55),.call 79 [(Zt 53),(Zt 54)],(some (52,false))⟩,Zo 56 (.pick (Zt 52) (.c (.b true)) (Zt 55))] []) [2,6,7,30,31,32,56] [2,6] NZ) (.reg [Zm 57 6,Zm 58 7,Zo 59 (.bsl 1 false [(Zt 58)]),Zo 60 (.app 1 8 true (Zt 57) (Zt 59)),Zm 6 60] [.s 6])))))) (.reg [Zd 61 .add 32 1,Zm 32 61] []))))
def NN:aj:=(.seq (.reg [Zm 62 6,Zm 4 62,Zo 5 (.mv (.c (.b true)))] [.s 4]) .ret)
def A87:aj:=(.seq (.reg [Zo 2 (.box 2 (Zt 0)),Zo 3 (.box 2 (Zt 1)),Zo 4 (.mv (.c (.lst .u 1 []))),Zo 5 (.mv (.c (.b false)))] [.s 4]) (.seq (.seqr (.reg [Za 10 0 3,Zl 11 10,Za 12 0 2,Zl 13 12,Zk 14 13,Zd 15 .sub 14 1,Zo 16 (.call 70 [(Zt 11),(.c (.i 0)),(Zt 15)]),Zo 17 (.un .not (Zt 16)),Zm 18 17,⟨(some 19),.fad 1 (Zt 3),(some (18,false))⟩,⟨(some 20),.load 1 false (Zt 19),(some (18,false))⟩,⟨(some 21),.len (Zt 20),(some (18,false))⟩,⟨(some 22),.bin .eql (Zt 21) (.c (.i 0)),(some (18,false))⟩,Zo 23 (.pick (Zt 18) (.c (.b true)) (Zt 22))] []) [2,3,23] [2,3] Nz) (.seq (.drw [Za 24 0 3,Zl 25 24,Zo 26 (.bsl 1 true [(Zt 25)]),Za 27 0 3,Zl 28 27,Zm 6 26,Zm 7 28] [.s 6]) (.seqa (.reg [Za 29 1 3,Zl 30 29,Zk 31 30,Zn 32 0] []) (.blk 0 (.loop Ei)) [6] [6] NN))))
def V87:List RV:=[.t 4,.t 5]
theorem m87:bh Tryz.prog 87 2 A87 V87=true:=by kernel_rfl
def A39:aj:=(.seq (.reg [Zo 2 (.box 2 (Zt 0)),Zo 3 (.box 2 (Zt 1)),Zo 4 (.mv (.c (.lst .u 1 []))),Zo 5 (.mv (.c (.b false)))] [.s 4]) (.seq (.seq (.reg [Zo 6 (.load 2 true (Zt 2)),Zo 7 (.call 57 [(Zt 6)]),Zo 8 (.un .not (Zt 7))] []) (.cond (Zt 8) (.seq (.reg [Zo 4 (.mv (.c (.lst .u 1 []))),Zo 5 (.mv (.c (.b false)))] [.s 4]) .ret) .skip)) (.seq (.reg [Zo 9 (.load 2 true (Zt 2)),Zo 10 (.load 2 true (Zt 3)),Zo 11 (.call 87 [(Zt 9),(Zt 10)]),Ze 12 11 0,Ze 13 11 1,Zm 4 12,Zm 5 13] [.s 4]) .ret)))
def V39:List RV:=[.t 4,.t 5]
theorem m39:bh Tryz.prog 39 2 A39 V39=true:=by kernel_rfl
def Hb:aj:=(.seq (.seq (.reg [Zm 6 5,Zm 7 0,Zk 8 7,Zb 9 .lss 6 8] []) (.cond (Zt 9) .skip (.exit 0))) (.seq (.blk 1 (.seq (.reg [Zm 12 0,Zm 13 5,Zx 14 1 12 13,Zl 15 14,Zm 16 1,Zb 17 .eql 15 16] []) (.cond (Zt 17) (.seq (.reg [Zo 4 (.mv (.c (.b true)))] []) .ret) .skip))) (.reg [Zm 10 5,Zd 11 .add 10 1,Zm 5 11] [])))
def Oe:aj:=(.seq (.reg [Zo 4 (.mv (.c (.b false)))] []) .ret)
def A27:aj:=(.seq (.reg [Zo 4 (.mv (.c (.b false)))] []) (.seqa (.reg [Zn 5 0] []) (.blk 0 (.loop Hb)) [] [] Oe))
def V27:List RV:=[.t 4]
theorem m27:bh Tryz.prog 27 2 A27 V27=true:=by kernel_rfl
def DD:aj:=(.seq (.reg [Zm 19 2,Zm 20 0,Zo 21 (.conv .u8 (Zt 20)),Zo 22 (.stri (.c (.z ⟨#[0,1,2,2,3,3,3,3,4,4,4,4,4,4,4,4,5,5,5,5,5,5,5,5,5,5,5,5,5,5,5,5,6,6,6,6,6,6,6,6,6,6,6,6,6,6,6,6,6,6,6,6,6,6,6,6,6,6,6,6,6,6,6,6,7,7,7,7,7,7,7,7,7,7,7,7,7,7,7,7,7,7,7,7,7,7,7,7,7,7,7,7,7,7,7,7,7,7,7,7,7,7,7,7,7,7,7,7,7,7,7,7,7,7,7,7,7,7,7,7,7,7,7,7,7,7,7,7,8,8,8,8,8,8,8,8,8,8,8,8,8,8,8,8,8,8,8,8,8,8,8,8,8,8,8,8,8,8,8,8,8,8,8,8,8,8,8,8,8,8,8,8,8,8,8,8,8,8,8,8,8,8,8,8,8,8,8,8,8,8,8,8,8,8,8,8,8,8,8,8,8,8,8,8,8,8,8,8,8,8,8,8,8,8,8,8,8,8,8,8,8,8,8,8,8,8,8,8,8,8,8,8,8,8,8,8,8,8,8,8,8,8,8,8,8,8,8,8,8,8,8,8,8,8,8,8]⟩)) (Zt 21)),Zo 23 (.conv .i64 (Zt 22)),Zb 24 .add 19 23,Zm 2 24] []) .ret)
def Jh:aj:=(.seqr (.seq (.reg [Zm 13 0,Zo 14 (.bin .geq (Zt 13) (.c (.sc (.int .u64 256))))] []) (.cond (Zt 14) (.seq (.reg [Zm 15 0,Zo 16 (.bin .shr (Zt 15) (.c (.sc (.int .u64 8)))),Zm 0 16] []) (.reg [Zm 17 2,Zd 18 .add 17 8,Zm 2 18] [])) .skip)) [0,2] [] DD)
def FV:aj:=(.seqr (.seq (.reg [Zm 7 0,Zo 8 (.bin .geq (Zt 7) (.c (.sc (.int .u64 65536))))] []) (.cond (Zt 8) (.seq (.reg [Zm 9 0,Zo 10 (.bin .shr (Zt 9) (.c (.sc (.int .u64 16)))),Zm 0 10] []) (.reg [Zm 11 2,Zd 12 .add 11 16,Zm 2 12] [])) .skip)) [0,2] [] Jh)
def A152:aj:=(.seq (.reg [Zn 2 0] []) (.seqr (.seq (.reg [Zm 3 0,Zo 4 (.bin .geq (Zt 3) (.c (.sc (.int .u64 4294967296))))] []) (.cond (Zt 4) (.seq (.reg [Zm 5 0,Zo 6 (.bin .shr (Zt 5) (.c (.sc (.int .u64 32)))),Zm 0 6] []) (.reg [Zn 2 32] [])) .skip)) [0,2] [] FV))
def Qi:List RV:=[.t 2]
theorem m152:bh Tryz.prog 152 1 A152 Qi=true:=by kernel_rfl
def A119:aj:=(.seq (.reg [Zn 2 0] []) (.seq (.cond (.c (.b false)) (.seq (.reg [Zm 3 0,Zo 4 (.conv .u32 (Zt 3)),Zo 5 (.call 151 [(Zt 4)]),Zm 2 5] []) .ret) .skip) (.seq (.reg [Zm 6 0,Zo 7 (.call 152 [(Zt 6)]),Zm 2 7] []) .ret)))
def Qf:List RV:=[.t 2]
theorem m119:bh Tryz.prog 119 1 A119 Qf=true:=by kernel_rfl
def A164:aj:=(.seq (.reg [Zo 4 (.mv (.c (.b false)))] []) (.seq (.reg [Zm 5 0,Zo 6 (.call 153 [(Zt 5)]),Zm 7 6,⟨(some 8),.mv (Zt 1),(some (7,true))⟩,⟨(some 9),.call 153 [(Zt 8)],(some (7,true))⟩,⟨(some 10),.un .not (Zt 9),(some (7,true))⟩,Zo 11 (.pick (Zt 7) (Zt 10) (.c (.b false))),Zm 12 11,⟨(some 13),.mv (Zt 0),(some (12,false))⟩,⟨(some 14),.mv (Zt 1),(some (12,false))⟩,⟨(some 15),.bin .lss (Zt 13) (Zt 14),(some (12,false))⟩,Zo 16 (.pick (Zt 12) (.c (.b true)) (Zt 15)),Zm 4 16] []) .ret))
def GB:List RV:=[.t 4]
theorem m164:bh Tryz.prog 164 2 A164 GB=true:=by kernel_rfl
def sP:aj:=(.cond (Zt 30) .skip (.exit 2))
def oz:aj:=(.seq (.seqr (.drw [Zm 16 7,Zm 17 1,Zb 18 .gtr 16 17,Zm 19 18,⟨(some 20),.mv (Zt 0),(some (19,true))⟩,⟨(some 21),.mv (Zt 7),(some (19,true))⟩,⟨(some 22),.idx 1 (Zt 20) (Zt 21),(some (19,true))⟩,⟨(some 23),.load 1 false (Zt 22),(some (19,true))⟩,⟨(some 24),.mv (Zt 0),(some (19,true))⟩,⟨(some 25),.mv (Zt 7),(some (19,true))⟩,⟨(some 26),.bin .sub (Zt 25) (.c (.i 1)),(some (19,true))⟩,⟨(some 27),.idx 1 (Zt 24) (Zt 26),(some (19,true))⟩,⟨(some 28),.load 1 false (Zt 27),(some (19,true))⟩,⟨(some 29),.call 164 [(Zt 23),(Zt 28)],(some (19,true))⟩,Zo 30 (.pick (Zt 19) (Zt 29) (.c (.b false)))] []) [0,1,2,6,7,30] [1000000000] sP) (.seq (.blk 3 (.drw [Zm 33 0,Zm 34 7,Zm 35 0,Zm 36 7,Zd 37 .sub 36 1,Zm 38 0,Zm 39 7,Zd 40 .sub 39 1,Zx 41 1 38 40,Zl 42 41,Zm 43 0,Zm 44 7,Zx 45 1 43 44,Zl 46 45,Zx 47 1 33 34,⟨none,.store 1 (Zt 47) (Zt 42),none⟩,Zx 48 1 35 37,⟨none,.store 1 (Zt 48) (Zt 46),none⟩] [])) (.reg [Zm 31 7,Zd 32 .sub 31 1,Zm 7 32] [])))
def uX:aj:=(.reg [Zm 13 6,Zd 14 .add 13 1,Zm 6 14] [])
def mT:aj:=(.seq (.seq (.reg [Zm 10 6,Zm 11 2,Zb 12 .lss 10 11] []) (.cond (Zt 12) .skip (.exit 0))) (.seqr (.blk 1 (.seq (.reg [Zm 15 6,Zm 7 15] []) (.blk 2 (.loop oz)))) [0,1,2,6] [1000000000] uX))
def Gy:aj:=(.seq (.reg [Zm 8 1,Zd 9 .add 8 1,Zm 6 9] []) (.blk 0 (.loop mT)))
def xd:List RV:=[]
theorem PB:bh Tryz.prog 158 3 Gy xd=true:=by kernel_rfl
def nD:aj:=(.blk 1 (.seq (.reg [Zm 19 2,Zm 20 1,Zb 21 .sub 19 20,Zm 10 21] []) (.seq (.seq (.reg [Zm 22 10,Zd 23 .leq 22 12] []) (.cond (Zt 23) (.seq (.reg [Zm 24 0,Zm 25 1,Zm 26 2,Zo 27 (.callM 158 [(Zt 24),(Zt 25),(Zt 26)] [1000000000])] []) .ret) .skip)) (.seq (.seq (.reg [Zm 28 3,Zd 29 .eql 28 0] []) (.cond (Zt 29) (.seq (.reg [Zm 30 0,Zm 31 1,Zm 32 2,Zo 33 (.call 159 [(Zt 30),(Zt 31),(Zt 32)])] []) .ret) .skip)) (.seq (.seq (.reg [Zm 34 8,Zo 35 (.un .not (Zt 34))] []) (.cond (Zt 35) (.seq (.reg [Zm 36 0,Zm 37 1,Zm 38 2,Zo 39 (.call 160 [(Zt 36),(Zt 37),(Zt 38)])] []) (.reg [Zm 40 3,Zd 41 .sub 40 1,Zm 3 41] [])) .skip)) (.seq (.reg [Zm 43 0,Zm 44 1,Zm 45 2,Zo 46 (.call 161 [(Zt 43),(Zt 44),(Zt 45)]),Zm 42 46,Ze 47 42 0,Ze 48 42 1,Zm 11 47,Zm 12 48] []) (.seq (.seq (.reg [Zm 49 12,Zd 50 .eql 49 2] []) (.cond (Zt 50) (.seq (.reg [Zm 51 0,Zm 52 1,Zm 53 2,Zo 54 (.call 162 [(Zt 51),(Zt 52),(Zt 53)])] []) (.seq (.reg [Zm 55 2,Zd 56 .sub 55 1,Zm 57 11,Zm 58 1,Zb 59 .sub 57 58,Zb 60 .sub 56 59,Zm 11 60] []) (.reg [Zn 12 1] []))) .skip)) (.seq (.seq (.reg [Zm 61 8,Zm 62 61,⟨(some 63),.mv (Zt 9),(some (62,true))⟩,Zo 64 (.pick (Zt 62) (Zt 63) (.c (.b false))),Zm 65 64,⟨(some 66),.mv (Zt 12),(some (65,true))⟩,⟨(some 67),.bin .eql (Zt 66) (.c (.i 1)),(some (65,true))⟩,Zo 68 (.pick (Zt 65) (Zt 67) (.c (.b false)))] []) (.cond (Zt 68) (.seq (.reg [Zm 69 0,Zm 70 1,Zm 71 2,Zo 72 (.call 163 [(Zt 69),(Zt 70),(Zt 71)])] []) (.cond (Zt 72) .ret .skip)) .skip)) (.seq (.seq (.drw [Zm 73 1,Zd 74 .gtr 73 0,Zm 75 74,⟨(some 76),.mv (Zt 0),(some (75,true))⟩,⟨(some 77),.mv (Zt 1),(some (75,true))⟩,⟨(some 78),.bin .sub (Zt 77) (.c (.i 1)),(some (75,true))⟩,⟨(some 79),.idx 1 (Zt 76) (Zt 78),(some (75,true))⟩,⟨(some 80),.load 1 false (Zt 79),(some (75,true))⟩,⟨(some 81),.mv (Zt 0),(some (75,true))⟩,⟨(some 82),.mv (Zt 11),(some (75,true))⟩,⟨(some 83),.idx 1 (Zt 81) (Zt 82),(some (75,true))⟩,⟨(some 84),.load 1 false (Zt 83),(some (75,true))⟩,⟨(some 85),.call 164 [(Zt 80),(Zt 84)],(some (75,true))⟩,⟨(some 86),.un .not (Zt 85),(some (75,true))⟩,Zo 87 (.pick (Zt 75) (Zt 86) (.c (.b false)))] []) (.cond (Zt 87) (.seq (.reg [Zm 88 0,Zm 89 1,Zm 90 2,Zm 91 11,Zo 92 (.call 165 [(Zt 88),(Zt 89),(Zt 90),(Zt 91)]),Zm 13 92] []) (.seq (.reg [Zm 93 13,Zm 1 93] []) (.exit 1))) .skip)) (.seq (.reg [Zm 95 0,Zm 96 1,Zm 97 2,Zm 98 11,Zo 99 (.call 166 [(Zt 95),(Zt 96),(Zt 97),(Zt 98)]),Zm 94 99,Ze 100 94 0,Ze 101 94 1,Zm 14 100,Zm 15 101] []) (.seq (.reg [Zm 102 15,Zm 9 102] []) (.seq (.reg [Zm 103 14,Zm 104 1,Zb 105 .sub 103 104,Zm 106 2,Zm 107 14,Zb 108 .sub 106 107,Zm 16 105,Zm 17 108] []) (.seq (.reg [Zm 109 10,Zd 110 .quo 109 8,Zm 18 110] []) (.seq (.reg [Zm 111 16,Zm 112 17,Zb 113 .lss 111 112] []) (.cond (Zt 113) (.seq (.reg [Zm 114 16,Zm 115 18,Zb 116 .geq 114 115,Zm 8 116] []) (.seq (.reg [Zm 117 0,Zm 118 1,Zm 119 14,Zm 120 3,Zo 121 (.call 138 [(Zt 117),(Zt 118),(Zt 119),(Zt 120)])] []) (.reg [Zm 122 14,Zd 123 .add 122 1,Zm 1 123] []))) (.seq (.reg [Zm 124 17,Zm 125 18,Zb 126 .geq 124 125,Zm 8 126] []) (.seq (.reg [Zm 127 0,Zm 128 14,Zd 129 .add 128 1,Zm 130 2,Zm 131 3,Zo 132 (.call 138 [(Zt 127),(Zt 129),(Zt 130),(Zt 131)])] []) (.reg [Zm 133 14,Zm 2 133] []))))))))))))))))))
def GK:aj:=(.seq (.reg [Zo 8 (.mv (.c (.b true)))] []) (.seq (.reg [Zo 9 (.mv (.c (.b true)))] []) (.blk 0 (.loop nD))))
def ry:List RV:=[]
theorem Pa:bh Tryz.prog 138 4 GK ry=true:=by kernel_rfl
def Js:aj:=(.seq (.reg [Zm 3 0,Zk 4 3,Zm 2 4] []) (.reg [Zm 5 0,Zm 6 2,Zm 7 2,Zo 8 (.conv .u64 (Zt 7)),Zo 9 (.call 119 [(Zt 8)]),Zo 10 (.callM 138 [(Zt 5),(.c (.i 0)),(Zt 6),(Zt 9)] [1000000000])] []))
def vt:List RV:=[]
theorem Qz:bh Tryz.prog 106 1 Js vt=true:=by kernel_rfl
def OI:aj:=(.cond (Zt 46) (.reg [Zm 47 7,Zm 48 10,Zo 49 (.bsl 1 false [(Zt 48)]),Zo 50 (.app 1 8 true (Zt 47) (Zt 49)),Zm 7 50] [.s 7]) .skip)
def GG:aj:=(.seq (.reg [Zb 27 .lss 26 25] []) (.seq (.cond (Zt 27) .skip (.exit 0)) (.seq (.blk 1 (.seq (.reg [Zm 28 26,Zx 29 4 24 26,Zo 30 (.load 4 true (Zt 29)),Zo 11 (.alloc (.agg [.i 0,.i 0,.i 0,.i 0])),Zm 10 28,⟨none,.store 4 (Zt 11) (Zt 30),none⟩] []) (.seqr (.reg [Zm 31 1,Zm 32 10,Zo 33 (.call 79 [(Zt 31),(Zt 32)]),Zo 34 (.un .not (Zt 33)),Zm 35 34,⟨(some 36),.mv (Zt 8),(some (35,true))⟩,⟨(some 37),.fad 0 (Zt 11),(some (35,true))⟩,⟨(some 38),.load 1 false (Zt 37),(some (35,true))⟩,⟨(some 39),.call 79 [(Zt 36),(Zt 38)],(some (35,true))⟩,Zo 40 (.pick (Zt 35) (Zt 39) (.c (.b false))),Zm 41 40,⟨(some 42),.mv (Zt 8),(some (41,true))⟩,⟨(some 43),.fad 1 (Zt 11),(some (41,true))⟩,⟨(some 44),.load 1 false (Zt 43),(some (41,true))⟩,⟨(some 45),.call 79 [(Zt 42),(Zt 44)],(some (41,true))⟩,Zo 46 (.pick (Zt 41) (Zt 45) (.c (.b false)))] []) [1,6,7,8,10,24,25,26,46] [6,7,8] OI))) (.reg [Zd 51 .add 26 1,Zm 26 51] []))))
def OM:aj:=(.seq (.reg [Zm 52 6,Zm 53 7,Zm 4 52,Zm 5 53] [.s 4,.s 5]) .ret)
def A64:aj:=(.seq (.reg [Zo 2 (.box 2 (Zt 0)),Zo 4 (.mv (.c (.lst .u 1 []))),Zo 5 (.mv (.c (.lst .u 1 [])))] [.s 4,.s 5]) (.seq (.reg [Zm 12 1,Zo 13 (.call 55 [(Zt 12)]),Zo 14 (.bsl 1 false []),Zm 6 13,Zm 7 14] [.s 6,.s 7]) (.seq (.reg [Zm 15 6,Zo 16 (.callM 106 [(Zt 15)] [6])] []) (.seq (.reg [Zo 18 (.load 2 true (Zt 2)),Zm 19 1,Zo 20 (.call 75 [(Zt 18),(Zt 19)]),Zm 17 20,Ze 21 17 0,Ze 22 17 1,Zm 8 21,Zm 9 22] [.s 8]) (.seqa (.reg [Za 23 1 2,Zl 24 23,Zk 25 24,Zn 26 0] []) (.blk 0 (.loop GG)) [6,7] [6,7] OM)))))
def V64:List RV:=[.t 4,.t 5]
theorem m64:bh Tryz.prog 64 2 A64 V64=true:=by kernel_rfl
def A31:aj:=(.seq (.reg [Zo 2 (.box 2 (Zt 0)),Zo 4 (.mv (.c (.lst .u 1 []))),Zo 5 (.mv (.c (.lst .u 1 []))),Zo 6 (.mv (.c (.b false)))] [.s 4,.s 5]) (.seq (.seq (.reg [Zo 9 (.load 2 true (Zt 2)),Zm 10 1,Zo 11 (.call 40 [(Zt 9),(Zt 10)]),Zo 12 (.un .not (Zt 11))] []) (.cond (Zt 12) (.seq (.reg [Zo 4 (.mv (.c (.lst .u 1 []))),Zo 5 (.mv (.c (.lst .u 1 []))),Zo 6 (.mv (.c (.b false)))] [.s 4,.s 5]) .ret) .skip)) (.seq (.reg [Zo 14 (.load 2 true (Zt 2)),Zm 15 1,Zo 16 (.call 64 [(Zt 14),(Zt 15)]),Zm 13 16,Ze 17 13 0,Ze 18 13 1,Zm 7 17,Zm 8 18] [.s 7,.s 8]) (.seq (.reg [Zm 19 7,Zm 20 8,Zm 4 19,Zm 5 20,Zo 6 (.mv (.c (.b true)))] [.s 4,.s 5]) .ret))))
def V31:List RV:=[.t 4,.t 5,.t 6]
theorem m31:bh Tryz.prog 31 2 A31 V31=true:=by kernel_rfl
def sH:aj:=(.cond (Zt 35) (.exit 1) .skip)
def ni:aj:=(.seq (.reg [Zb 21 .lss 20 19] []) (.seq (.cond (Zt 21) .skip (.exit 0)) (.seq (.blk 1 (.seq (.reg [Zm 22 20,Zx 23 4 18 20,Zo 24 (.load 4 true (Zt 23)),Zo 12 (.alloc (.agg [.i 0,.i 0,.i 0,.i 0])),Zm 11 22,⟨none,.store 4 (Zt 12) (Zt 24),none⟩] []) (.seq (.reg [Zo 25 (.load 4 true (Zt 12)),Zm 26 1,Zo 27 (.call 128 [(Zt 25),(Zt 26)]),Zm 13 27] []) (.seq (.seqr (.reg [Zm 28 13,Zm 29 0,Zb 30 .lss 28 29,Zm 31 30,⟨(some 32),.mv (Zt 3),(some (31,false))⟩,⟨(some 33),.mv (Zt 11),(some (31,false))⟩,⟨(some 34),.call 79 [(Zt 32),(Zt 33)],(some (31,false))⟩,Zo 35 (.pick (Zt 31) (.c (.b true)) (Zt 34))] []) [0,1,2,3,4,5,6,11,13,18,19,20,35] [470000128,1000000001,1000000002,1000000004] sH) (.seq (.reg [Zm 36 3,Zm 37 3,Zk 38 37,Zm 39 3,Zk 40 39,Zo 41 (.slc 1 (Zt 36) none (some (Zt 38)) (some (Zt 40))),Zm 42 11,Zo 43 (.bsl 1 false [(Zt 42)]),Zo 44 (.app 1 8 true (Zt 41) (Zt 43)),Zm 14 44] [.s 14]) (.seq (.reg [Zm 45 13,Zm 46 0,Zb 47 .eql 45 46] []) (.cond (Zt 47) (.seq (.reg [Zo 49 (.load 2 true (Zt 4)),Zm 50 14,Zo 51 (.call 75 [(Zt 49),(Zt 50)]),Zm 48 51,Ze 52 48 0,Ze 53 48 1,Zm 15 52,Zm 16 53] [.s 15]) (.seq (.reg [Zm 54 16] []) (.cond (Zt 54) (.reg [Zl 55 5,Zm 56 14,Zo 57 (.bsl 1 false [(Zt 56)]),Zo 58 (.app 1 24 true (Zt 55) (Zt 57)),⟨none,.store 1 (Zt 5) (Zt 58),none⟩] [.f true 470000128 1000000002 0]) .skip))) (.seq (.reg [Zm 59 2,Zm 60 13,Zb 61 .shr 59 60,Zd 62 .and 61 1,Zd 63 .eql 62 0] []) (.cond (Zt 63) (.drw [Zl 64 6,Zm 65 0,Zm 66 13,Zm 67 2,Zm 68 13,Zo 69 (.bin .shl (.c (.i 1)) (Zt 68)),Zb 70 .or 67 69,Zm 71 14,Zo 72 (.dynM (Zt 64) [(Zt 65),(Zt 66),(Zt 70),(Zt 71)] [14,1000000001,1000000002,470000128,1000000004])] [.f true 470000128 1000000002 0]) .skip))))))))) (.reg [Zd 73 .add 20 1,Zm 20 73] []))))
def Du:aj:=(.seq (.reg [Za 17 1 4,Zl 18 17,Zk 19 18,Zn 20 0] [.z 3,.f true 470000128 1000000002 0]) (.blk 0 (.loop ni)))
def wQ:List RV:=[]
theorem OW:bh Tryz.prog 129 7 Du wQ=true:=by kernel_rfl
def uL:aj:=(.cond (Zt 35) (.exit 1) .skip)
def oS:aj:=(.seq (.reg [Zb 21 .lss 20 19] []) (.seq (.cond (Zt 21) .skip (.exit 0)) (.seq (.blk 1 (.seq (.reg [Zm 22 20,Zx 23 4 18 20,Zo 24 (.load 4 true (Zt 23)),Zo 12 (.alloc (.agg [.i 0,.i 0,.i 0,.i 0])),Zm 11 22,⟨none,.store 4 (Zt 12) (Zt 24),none⟩] []) (.seq (.reg [Zo 25 (.load 4 true (Zt 12)),Zm 26 1,Zo 27 (.call 128 [(Zt 25),(Zt 26)]),Zm 13 27] []) (.seq (.seqr (.reg [Zm 28 13,Zm 29 0,Zb 30 .lss 28 29,Zm 31 30,⟨(some 32),.mv (Zt 3),(some (31,false))⟩,⟨(some 33),.mv (Zt 11),(some (31,false))⟩,⟨(some 34),.call 79 [(Zt 32),(Zt 33)],(some (31,false))⟩,Zo 35 (.pick (Zt 31) (.c (.b true)) (Zt 34))] []) [0,1,2,3,4,5,6,11,13,18,19,20,35] [470000064,1000000000,1000000001,1000000003] uL) (.seq (.reg [Zm 36 3,Zm 37 3,Zk 38 37,Zm 39 3,Zk 40 39,Zo 41 (.slc 1 (Zt 36) none (some (Zt 38)) (some (Zt 40))),Zm 42 11,Zo 43 (.bsl 1 false [(Zt 42)]),Zo 44 (.app 1 8 true (Zt 41) (Zt 43)),Zm 14 44] [.s 14]) (.seq (.reg [Zm 45 13,Zm 46 0,Zb 47 .eql 45 46] []) (.cond (Zt 47) (.seq (.reg [Zo 49 (.load 2 true (Zt 4)),Zm 50 14,Zo 51 (.call 75 [(Zt 49),(Zt 50)]),Zm 48 51,Ze 52 48 0,Ze 53 48 1,Zm 15 52,Zm 16 53] [.s 15]) (.seq (.reg [Zm 54 16] []) (.cond (Zt 54) (.reg [Zl 55 5,Zm 56 14,Zo 57 (.bsl 1 false [(Zt 56)]),Zo 58 (.app 1 24 true (Zt 55) (Zt 57)),⟨none,.store 1 (Zt 5) (Zt 58),none⟩] [.f true 470000064 1000000001 0]) .skip))) (.seq (.reg [Zm 59 2,Zm 60 13,Zb 61 .shr 59 60,Zd 62 .and 61 1,Zd 63 .eql 62 0] []) (.cond (Zt 63) (.drw [Zl 64 6,Zm 65 0,Zm 66 13,Zm 67 2,Zm 68 13,Zo 69 (.bin .shl (.c (.i 1)) (Zt 68)),Zb 70 .or 67 69,Zm 71 14,Zo 72 (.dynM (Zt 64) [(Zt 65),(Zt 66),(Zt 70),(Zt 71)] [14,1000000000,1000000001,470000064,1000000003])] [.f true 470000064 1000000001 0]) .skip))))))))) (.reg [Zd 73 .add 20 1,Zm 20 73] []))))
def II:aj:=(.seq (.reg [Za 17 1 4,Zl 18 17,Zk 19 18,Zn 20 0] [.z 3,.f true 470000064 1000000001 0]) (.blk 0 (.loop oS)))
def vU:List RV:=[]
theorem Rv:bh Tryz.prog 129 7 II vU=true:=by kernel_rfl
def A131:aj:=(.seq (.reg [Zn 4 0] []) (.seq (.reg [Zm 5 0,Zk 6 5,Zm 7 1,Zk 8 7,Zo 9 (.call 121 [(Zt 6),(Zt 8)]),Zm 10 0,Zm 11 1,Zo 12 (.call 116 [(Zt 10),(Zt 11)]),Zo 13 (.bsl 1 false [(Zt 9),(Zt 12)]),Zo 14 (.call 120 [(Zt 13)]),Zm 4 14] []) .ret))
def Rr:List RV:=[.t 4]
theorem m131:bh Tryz.prog 131 2 A131 Rr=true:=by kernel_rfl
def FR:aj:=(.seq (.reg [Zb 12 .lss 11 10] []) (.seq (.cond (Zt 12) .skip (.exit 0)) (.seq (.blk 1 (.seq (.reg [Zm 13 11,Zm 5 13] []) (.drw [Zl 14 4,Zm 15 5,Zm 16 5,Zm 17 5,Zo 18 (.bin .shl (.c (.i 1)) (Zt 17)),Zo 19 (.dynM (Zt 14) [(Zt 15),(Zt 16),(Zt 18),(.c (.lst .u 1 []))] [1,3,500000192,4])] [.f false 500000192 3 0]))) (.reg [Zd 20 .add 11 1,Zm 11 20] []))))
def NL:aj:=(.seq (.reg [Zl 21 3,Zo 22 (.callM 130 [(Zt 21),(.c (.fn 131 []))] [500000192])] []) (.seq (.reg [Zl 23 3,Zm 2 23] [.s 2]) .ret))
def A89:aj:=(.seq (.reg [Zo 1 (.box 2 (Zt 0)),Zo 2 (.mv (.c (.lst .u 1 [])))] [.s 2]) (.seq (.reg [Zo 6 (.bsl 1 false []),Zo 3 (.alloc (.lst .u 1 [])),⟨none,.store 1 (Zt 3) (Zt 6),none⟩] [.f false 500000192 3 0]) (.seq (.reg [Zo 4 (.alloc (.sc .nilFunc))] []) (.seq (.reg [Zo 7 (.mkf 129 [(Zt 1),(Zt 3),(Zt 4)]),⟨none,.store 1 (Zt 4) (Zt 7),none⟩] []) (.seqa (.reg [Za 8 0 1,Zl 9 8,Zk 10 9,Zn 11 0] []) (.blk 0 (.loop FR)) [3] [3,500000192] NL)))))
def V89:List RV:=[.t 2]
theorem m89:bh Tryz.prog 89 1 A89 V89=true:=by kernel_rfl
def A41:aj:=(.seq (.reg [Zo 1 (.box 2 (Zt 0)),Zo 2 (.mv (.c (.lst .u 1 []))),Zo 3 (.mv (.c (.b false)))] [.s 2]) (.seq (.seq (.reg [Zo 5 (.load 2 true (Zt 1)),Zo 6 (.call 57 [(Zt 5)]),Zo 7 (.un .not (Zt 6))] []) (.cond (Zt 7) (.seq (.reg [Zo 2 (.mv (.c (.lst .u 1 []))),Zo 3 (.mv (.c (.b false)))] [.s 2]) .ret) .skip)) (.seq (.reg [Zo 8 (.load 2 true (Zt 1)),Zo 9 (.call 89 [(Zt 8)]),Zm 4 9] [.s 4]) (.seq (.seq (.reg [Zm 10 4,Zk 11 10,Zd 12 .gtr 11 60] []) (.cond (Zt 12) (.seq (.reg [Zo 2 (.mv (.c (.lst .u 1 []))),Zo 3 (.mv (.c (.b false)))] [.s 2]) .ret) .skip)) (.seq (.reg [Zm 13 4,Zm 2 13,Zo 3 (.mv (.c (.b true)))] [.s 2]) .ret)))))
def V41:List RV:=[.t 2,.t 3]
theorem m41:bh Tryz.prog 41 1 A41 V41=true:=by kernel_rfl
def Ik:aj:=(.seq (.seq (.reg [Zm 11 5,Zm 12 0,Zk 13 12,Zb 14 .lss 11 13] []) (.cond (Zt 14) .skip (.exit 0))) (.seq (.blk 1 (.seq (.drw [Zm 17 0,Zm 18 5,Zx 19 1 17 18,Zl 20 19,Zm 21 1,Zm 22 5,Zx 23 1 21 22,Zl 24 23,Zb 25 .neq 20 24] []) (.cond (Zt 25) (.seq (.reg [Zo 4 (.mv (.c (.b false)))] []) .ret) .skip))) (.reg [Zm 15 5,Zd 16 .add 15 1,Zm 5 16] [])))
def OG:aj:=(.seq (.reg [Zo 4 (.mv (.c (.b true)))] []) .ret)
def A26:aj:=(.seq (.reg [Zo 4 (.mv (.c (.b false)))] []) (.seq (.seq (.reg [Zm 6 0,Zk 7 6,Zm 8 1,Zk 9 8,Zb 10 .neq 7 9] []) (.cond (Zt 10) (.seq (.reg [Zo 4 (.mv (.c (.b false)))] []) .ret) .skip)) (.seqa (.reg [Zn 5 0] []) (.blk 0 (.loop Ik)) [] [] OG)))
def V26:List RV:=[.t 4]
theorem m26:bh Tryz.prog 26 2 A26 V26=true:=by kernel_rfl
def A7R1:aj:=(.cond (Zt 52) (.seq (.reg [Zo 2 (.mv (.c (.b false)))] []) .ret) .skip)
def A7R2:aj:=(.cond (Zt 105) (.seq (.reg [Zo 2 (.mv (.c (.b false)))] []) .ret) .skip)
def Qe:aj:=(.seq (.seq (.reg [Zm 53 10,Zm 54 6,Zk 55 54,Zb 56 .lss 53 55] []) (.cond (Zt 56) .skip (.exit 0))) (.seq (.blk 1 (.seq (.drw [Zo 60 (.load 2 true (Zt 3)),Zm 61 6,Zm 62 10,Zx 63 2 61 62,Zo 64 (.load 2 true (Zt 63)),Zo 65 (.call 39 [(Zt 60),(Zt 64)]),Zm 59 65,Ze 66 59 0,Ze 67 59 1,Zm 11 66,Zm 12 67] [.s 11]) (.seqr (.drw [Zm 68 12,Zo 69 (.un .not (Zt 68)),Zm 70 69,⟨(some 71),.mv (Zt 6),(some (70,false))⟩,⟨(some 72),.mv (Zt 10),(some (70,false))⟩,⟨(some 73),.idx 2 (Zt 71) (Zt 72),(some (70,false))⟩,⟨(some 74),.fad 1 (Zt 73),(some (70,false))⟩,⟨(some 75),.load 1 false (Zt 74),(some (70,false))⟩,⟨(some 76),.mv (Zt 5),(some (70,false))⟩,⟨(some 77),.call 27 [(Zt 75),(Zt 76)],(some (70,false))⟩,Zo 78 (.pick (Zt 70) (.c (.b true)) (Zt 77)),Zm 79 78,⟨(some 80),.mv (Zt 11),(some (79,false))⟩,⟨(some 81),.idx 1 (Zt 80) (.c (.i 0)),(some (79,false))⟩,⟨(some 82),.load 1 false (Zt 81),(some (79,false))⟩,⟨(some 83),.fad 1 (Zt 3),(some (79,false))⟩,⟨(some 84),.load 1 false (Zt 83),(some (79,false))⟩,⟨(some 85),.mv (Zt 5),(some (79,false))⟩,⟨(some 86),.idx 4 (Zt 84) (Zt 85),(some (79,false))⟩,⟨(some 87),.fad 0 (Zt 86),(some (79,false))⟩,⟨(some 88),.load 1 false (Zt 87),(some (79,false))⟩,⟨(some 89),.bin .neq (Zt 82) (Zt 88),(some (79,false))⟩,Zo 90 (.pick (Zt 79) (.c (.b true)) (Zt 89)),Zm 91 90,⟨(some 92),.mv (Zt 11),(some (91,false))⟩,⟨(some 93),.mv (Zt 11),(some (91,false))⟩,⟨(some 94),.len (Zt 93),(some (91,false))⟩,⟨(some 95),.bin .sub (Zt 94) (.c (.i 1)),(some (91,false))⟩,⟨(some 96),.idx 1 (Zt 92) (Zt 95),(some (91,false))⟩,⟨(some 97),.load 1 false (Zt 96),(some (91,false))⟩,⟨(some 98),.fad 1 (Zt 3),(some (91,false))⟩,⟨(some 99),.load 1 false (Zt 98),(some (91,false))⟩,⟨(some 100),.mv (Zt 5),(some (91,false))⟩,⟨(some 101),.idx 4 (Zt 99) (Zt 100),(some (91,false))⟩,⟨(some 102),.fad 1 (Zt 101),(some (91,false))⟩,⟨(some 103),.load 1 false (Zt 102),(some (91,false))⟩,⟨(some 104),.bin .neq (Zt 97) (Zt 103),(some (91,false))⟩,Zo 105 (.pick (Zt 91) (.c (.b true)) (Zt 104))] []) [3,4,5,6,7,10,105] [3,4,6] A7R2))) (.reg [Zm 57 10,Zd 58 .add 57 1,Zm 10 58] [])))
def A7R5:aj:=(.cond (Zt 137) (.seq (.reg [Zo 2 (.mv (.c (.b false)))] []) .ret) .skip)
def A7R6:aj:=(.cond (Zt 157) (.seq (.reg [Zo 2 (.mv (.c (.b false)))] []) .ret) .skip)
def A7R7:aj:=(.cond (Zt 182) (.seq (.reg [Zo 2 (.mv (.c (.b false)))] []) .ret) .skip)
def PY:aj:=(.seq (.seq (.reg [Zm 158 20,Zm 159 16,Zk 160 159,Zb 161 .lss 158 160] []) (.cond (Zt 161) .skip (.exit 2))) (.seq (.blk 3 (.seqr (.drw [Zm 164 16,Zm 165 20,Zx 166 1 164 165,Zl 167 166,Zm 168 18,Zm 169 20,Zx 170 1 168 169,Zl 171 170,Zo 172 (.call 26 [(Zt 167),(Zt 171)]),Zo 173 (.un .not (Zt 172)),Zm 174 173,⟨(some 175),.load 2 true (Zt 3),(some (174,false))⟩,⟨(some 176),.mv (Zt 16),(some (174,false))⟩,⟨(some 177),.mv (Zt 20),(some (174,false))⟩,⟨(some 178),.idx 1 (Zt 176) (Zt 177),(some (174,false))⟩,⟨(some 179),.load 1 false (Zt 178),(some (174,false))⟩,⟨(some 180),.call 40 [(Zt 175),(Zt 179)],(some (174,false))⟩,⟨(some 181),.un .not (Zt 180),(some (174,false))⟩,Zo 182 (.pick (Zt 174) (.c (.b true)) (Zt 181))] []) [3,16,18,20,182] [3,16,18] A7R7)) (.reg [Zm 162 20,Zd 163 .add 162 1,Zm 20 163] [])))
def A7R9:aj:=(.seq (.reg [Zo 2 (.mv (.c (.b true)))] []) .ret)
def A7R4:aj:=(.seq (.reg [Zo 107 (.load 2 true (Zt 3)),Zm 108 4,Zo 109 (.call 31 [(Zt 107),(Zt 108)]),Zm 106 109,Ze 110 106 0,Ze 111 106 1,Ze 112 106 2,Zm 13 110,Zm 14 111,Zm 15 112] [.s 13,.s 14]) (.seq (.seq (.reg [Zm 113 15,Zo 114 (.load 2 true (Zt 3)),Zm 115 4,Zo 116 (.call 40 [(Zt 114),(Zt 115)]),Zo 117 (.beq true (Zt 113) (Zt 116))] []) (.cond (Zt 117) (.seq (.reg [Zo 2 (.mv (.c (.b false)))] []) .ret) .skip)) (.seq (.seqr (.reg [Zm 118 15,Zm 119 118,⟨(some 120),.mv (Zt 13),(some (119,true))⟩,⟨(some 121),.len (Zt 120),(some (119,true))⟩,⟨(some 122),.mv (Zt 4),(some (119,true))⟩,⟨(some 123),.len (Zt 122),(some (119,true))⟩,⟨(some 124),.bin .neq (Zt 121) (Zt 123),(some (119,true))⟩,⟨(some 125),.mv (Zt 124),(some (119,true))⟩,⟨(some 126),.mv (Zt 7),(some (125,false))⟩,⟨(some 127),.mv (Zt 126),(some (125,false))⟩,⟨(some 128),.mv (Zt 6),(some (127,true))⟩,⟨(some 129),.len (Zt 128),(some (127,true))⟩,⟨(some 130),.bin .eql (Zt 129) (.c (.i 2)),(some (127,true))⟩,⟨(some 131),.mv (Zt 14),(some (127,true))⟩,⟨(some 132),.mv (Zt 5),(some (127,true))⟩,⟨(some 133),.call 27 [(Zt 131),(Zt 132)],(some (127,true))⟩,⟨(some 134),.beq true (Zt 130) (Zt 133),(some (127,true))⟩,⟨(some 135),.pick (Zt 127) (Zt 134) (.c (.b false)),(some (125,false))⟩,⟨(some 136),.pick (Zt 125) (.c (.b true)) (Zt 135),(some (119,true))⟩,Zo 137 (.pick (Zt 119) (Zt 136) (.c (.b false)))] []) [3,137] [3] A7R5) (.seq (.reg [Zo 139 (.load 2 true (Zt 3)),Zo 140 (.call 41 [(Zt 139)]),Zm 138 140,Ze 141 138 0,Ze 142 138 1,Zm 16 141,Zm 17 142] [.s 16]) (.seq (.reg [Zo 144 (.load 2 true (Zt 3)),Zo 145 (.callM 42 [(Zt 144)] []),Zm 143 145,Ze 146 143 0,Ze 147 143 1,Zm 18 146,Zm 19 147] [.s 18]) (.seq (.seqr (.reg [Zm 148 17,Zm 149 19,Zo 150 (.beq true (Zt 148) (Zt 149)),Zm 151 150,⟨(some 152),.mv (Zt 16),(some (151,false))⟩,⟨(some 153),.len (Zt 152),(some (151,false))⟩,⟨(some 154),.mv (Zt 18),(some (151,false))⟩,⟨(some 155),.len (Zt 154),(some (151,false))⟩,⟨(some 156),.bin .neq (Zt 153) (Zt 155),(some (151,false))⟩,Zo 157 (.pick (Zt 151) (.c (.b true)) (Zt 156))] []) [3,16,18,157] [3,16,18] A7R6) (.seqa (.reg [Zn 20 0] []) (.blk 2 (.loop PY)) [] [] A7R9)))))))
def A7:aj:=(.seq (.reg [Zo 2 (.mv (.c (.b false)))] []) (.seq (.seq (.reg [Zm 21 0,Zo 22 (.call 22 [(Zt 21)])] []) (.cond (Zt 22) (.seq (.reg [Zo 2 (.mv (.c (.b true)))] []) .ret) .skip)) (.seq (.reg [Zm 24 0,Zo 25 (.callM 36 [(Zt 24)] []),Zm 23 25,Ze 26 23 0,Ze 27 23 1,Ze 28 23 2,Zo 3 (.alloc (.agg [.lst .u 1 [],.lst .u 4 []])),⟨none,.store 2 (Zt 3) (Zt 26),none⟩,Zm 4 27,Zm 5 28] [.s 4]) (.seq (.reg [Zo 30 (.load 2 true (Zt 3)),Zm 31 4,Zm 32 5,Zo 33 (.call 37 [(Zt 30),(Zt 31),(Zt 32)]),Zm 29 33,Ze 34 29 0,Ze 35 29 1,Zm 6 34,Zm 7 35] [.s 6]) (.seq (.seq (.reg [Zo 37 (.load 2 true (Zt 3)),Zm 38 4,Zm 39 5,Zo 40 (.call 38 [(Zt 37),(Zt 38),(Zt 39)]),Zm 36 40,Ze 41 36 0,Ze 42 36 1,Zm 8 41,Zm 9 42] [.s 8]) (.seqr (.reg [Zm 43 7,Zm 44 9,Zo 45 (.beq true (Zt 43) (Zt 44)),Zm 46 45,⟨(some 47),.mv (Zt 6),(some (46,false))⟩,⟨(some 48),.len (Zt 47),(some (46,false))⟩,⟨(some 49),.mv (Zt 8),(some (46,false))⟩,⟨(some 50),.len (Zt 49),(some (46,false))⟩,⟨(some 51),.bin .neq (Zt 48) (Zt 50),(some (46,false))⟩,Zo 52 (.pick (Zt 46) (.c (.b true)) (Zt 51))] []) [3,4,5,6,7,52] [3,4,6] A7R1)) (.seqa (.reg [Zn 10 0] []) (.blk 0 (.loop Qe)) [3,4,5,6,7] [3,4,6] A7R4))))))
def V7:List RV:=[.t 2]
theorem m7:bh Tryz.prog 7 1 A7 V7=true:=by kernel_rfl
end Vs

