/-
  Part of the proof that the law FnSurvival returns true at every input; no condition beside the row's own.
-/
import Derived.Test.YtfmhphgpijjejaaGreatSe
import Derived.Test.YtfmhphgpijjejaaGreatCa
set_option linter.defProp false
set_option linter.unusedSimpArgs false
set_option linter.unusedVariables false
namespace Vs
open Go
def lQ(xs:(List ByteArray)):Nat:=xs.length+(xs.map fun x=>x.size).sum
def pD(xs:(List ay)):Nat:=xs.length
def bC(x:ah):Nat:=lQ x.Nodes+pD x.Fibers
def gj(xs:(List Int)):Nat:=xs.length
def zV(x:ar):Nat:=gj x.Fibers
def gR(x:af):Nat:=zV x.Work+zV x.Spare
def bM(xs:(List af)):Nat:=xs.length+(xs.map fun x=>gR x).sum
end Vs

namespace Vs
open Go
def wi(x a b:Int):Bool:=decide (a<=x)&&decide (x<=b)
theorem cG{x a b:Int}:wi x a b=true↔a<=x/\x<=b:=by simp[wi]
theorem nA{x a b:Int}:wi x a b=false↔¬(a<=x/\x<=b):=by rw[<-cG];simp
theorem eP(x a b:Int):M_h x a b=some (wi x a b):=by
 unfold M_h wi;by_cases h:a<=x<;>simp[h]
theorem iv(x a b:Int):M_c x a b=some (wi x a b):=by
 unfold M_c wi;by_cases h:a<=x<;>simp[h]
def qq(c:UInt8):Bool:=decide (97<=c.toNat)&&decide (c.toNat<=122)
def uD(c:UInt8):Bool:=decide (48<=c.toNat)&&decide (c.toNat<=57)
def fM(i:Nat)(c:UInt8):Bool:=!qq c&&(!uD c||i==0)
def oa(s:ByteArray):Bool:=!dV fM s.data.toList&&wi s.size 1 8
theorem oH(s:ByteArray)(i:Nat):sd s (i:Int)=s.data.toList[i]?:=by
 unfold sd;rw[if_pos (by omega),Int.toNat_natCast];by_cases h:i<s.size
 ·have h2:i<s.data.toList.length:=by simpa using h
  rw[getElem?_pos s i h,List.getElem?_eq_getElem h2];rfl
 ·have h2:¬i<s.data.toList.length:=by simpa using h
  rw[getElem?_neg s i h,List.getElem?_eq_none (Nat.le_of_not_lt h2)]
theorem eV(s:ByteArray):s.size=s.data.toList.length:=by show s.data.size=s.data.toList.length;rw[Array.length_toList]
theorem xg(c:UInt8):qq c=(decide (97<=(c.toNat:Int))&&decide ((c.toNat:Int)<=122)):=by
 unfold qq;congr 1<;>exact decide_eq_decide.2 (by omega)
theorem MV(c:UInt8):uD c=(decide (48<=(c.toNat:Int))&&decide ((c.toNat:Int)<=57)):=by
 unfold uD;congr 1<;>exact decide_eq_decide.2 (by omega)
theorem Kb(s:ByteArray)(hl:s.size<=1048576):Ha s=some (oa s):=by
 unfold Ha oa;rw[eV] at*
 rw[cZ (f:=Da s) s.data.toList fM (.inr false) (.inl ()) (fun i c hc _=>by
  have hlt:=(List.getElem?_eq_some_iff.1 hc).1;have h1:decide ((i:Int)<s.size)=true:=decide_eq_true (by rw[eV];omega);simp only[Da,h1,cond_true,oH,hc,Option.bind_some,fM,xg,MV];rw[aE (by omega) (by omega)];have hi:((i:Int)==0)=(i==0):=by rw[Bool.eq_iff_iff];simp
  rw[hi];cases decide (97<=(c.toNat:Int))<;>cases decide ((c.toNat:Int)<=122)<;>cases decide (48<=(c.toNat:Int))<;>cases decide ((c.toNat:Int)<=57)<;>cases(i==0)<;>rfl) (by simp[Da]) (by omega)]
 rw[<-eV];cases dV fM s.data.toList<;>simp[eP]
theorem Mu(c:UInt8):IP (c.toNat:Int)=some (qq c||uD c):=by
 unfold IP;simp only[xg,MV];cases decide (97<=(c.toNat:Int))<;>cases decide ((c.toNat:Int)<=122)<;>cases decide (48<=(c.toNat:Int))<;>rfl
theorem fstc(c:UInt8):(cond (decide ((c.toNat:Int)<97)) (some true) (some (decide (122<(c.toNat:Int)))):Option Bool)=some (!qq c):=by
 rw[xg];by_cases h1:(c.toNat:Int)<97
 ·have h2:¬97<=(c.toNat:Int):=by omega
  simp[h1,h2]
 ·have h2:97<=(c.toNat:Int):=by omega
  simp only[h1,decide_false,cond_false,h2,decide_true,Bool.true_and];by_cases h3:122<(c.toNat:Int)
  ·have h4:¬(c.toNat:Int)<=122:=by omega
   simp[h3,h4]
  ·have h4:(c.toNat:Int)<=122:=by omega
   simp[h3,h4]
theorem KY(s:ByteArray)(hl:s.size<=1048576):LY s=some (oa s):=by
 unfold LY oa;simp only[iv,Option.bind_some];rcases bt (wi s.size 1 8) with hw|hw
 ·simp only[hw,Bool.not_true,cond_false,Bool.and_true];have hs:0<s.data.toList.length:=by rw[<-eV];have:=(cG.1 hw).1;omega
  have h0:s.data.toList[0]?=some s.data.toList[0]:=List.getElem?_eq_getElem hs;have g0:sd s 0=some s.data.toList[0]:=by rw[<-h0];exact oH s 0
  simp only[g0,Option.bind_some];have key:=cZ (f:=M_a s) s.data.toList (fun _ c=>!(qq c||uD c)) (.inr false) (.inl ()) (fun i c hc _=>by
   have hlt:=(List.getElem?_eq_some_iff.1 hc).1;have h1:decide ((i:Int)<s.size)=true:=decide_eq_true (by rw[eV];omega);rw[eV] at hl;simp only[M_a,h1,cond_true,oH,hc,Option.bind_some,Mu];rw[aE (by omega) (by omega)];cases qq c<;>cases uD c<;>rfl) (by simp[M_a]) (by rw[eV] at hl;omega)
  rw[fstc];simp only[Option.bind_some,key];rcases bt (qq s.data.toList[0]) with hL|hL
  ·simp only[hL,Bool.not_true,cond_false];have e:dV (fun _ c=>!(qq c||uD c)) s.data.toList=dV fM s.data.toList:=by
    refine wO fun i c hc _=>?_;unfold fM;by_cases hi:i=0
    ·subst hi;rw[h0] at hc;cases hc;rw[hL];rfl
    ·have:(i==0)=false:=by simpa using hi
     rw[this];cases qq c<;>cases uD c<;>rfl
   rw[e];cases dV fM s.data.toList<;>rfl
  ·have:dV fM s.data.toList=true:=fl.2 ⟨0,_,h0,by unfold fM;rw[hL];simp⟩;simp only[hL,this,Bool.not_false,cond_true,Bool.not_true]
 ·simp[hw]
def Uz(v:ByteArray)(xs:List ByteArray):Option (Nat×ByteArray):=dA (fun _ x=>x.toList==v.toList) xs
def NM(v:ByteArray)(xs:List ByteArray):Int:=match Uz v xs with|some q=>(q.1:Int)|none=>-1
theorem Kd(xs:List ByteArray)(v:ByteArray)(hl:xs.length<=1048576):IX xs v=some (NM v xs):=by
 unfold IX NM;rw[dF (f:=BX xs v) xs (fun _ x=>x.toList==v.toList) (fun i _=>(i:Int)) () (fun i x hx _=>by
  have hlt:=(List.getElem?_eq_some_iff.1 hx).1;have h1:decide ((i:Int)<xs.length)=true:=by simp[hlt]
  simp only[BX,h1,cond_true,aQ,hx,Option.bind_some];rw[aE (by omega) (by omega)];cases x.toList==v.toList<;>rfl) (by simp[BX]) (by omega)]
 unfold Uz;cases dA (fun _ x=>x.toList==v.toList) xs<;>rfl
theorem sW(xs:List ByteArray)(v:ByteArray)(hl:xs.length<=1048576):Mg xs v=some (xs.any fun x=>x.toList==v.toList):=by
 unfold Mg PP;rw[dF (f:=BS xs v) xs (fun _ x=>x.toList==v.toList) (fun i _=>(i:Int)) () (fun i x hx _=>by
  have hlt:=(List.getElem?_eq_some_iff.1 hx).1;have h1:decide ((i:Int)<xs.length)=true:=by simp[hlt]
  simp only[BS,h1,cond_true,aQ,hx,Option.bind_some];rw[aE (by omega) (by omega),show(v.toList==x.toList)=(x.toList==v.toList) from Bool.beq_comm ..];cases x.toList==v.toList<;>rfl) (by simp[BS]) (by omega)]
 cases e:dA (fun _ x=>x.toList==v.toList) xs with
 | none =>
   have:=eh.1 e;have h:(xs.any fun x=>x.toList==v.toList)=false:=by
    rw[<-tp (fun x:ByteArray=>x.toList==v.toList),cD];exact this
   rw[h];rfl
 | some q =>
   obtain⟨i,x⟩:=q;obtain⟨h1,h2,_⟩:=dD.1 e;have h:(xs.any fun x=>x.toList==v.toList)=true:=List.any_eq_true.2 ⟨x,List.mem_of_getElem? h1,h2⟩;rw[h];simp
def dC(x y:Int):Int:=if x<y then -1 else if y<x then 1 else 0
theorem WI(x y:Int):uT x y=some (dC x y):=by
 unfold uT um dC;by_cases h:x<y
 ·simp[h]
 ·by_cases h2:y<x<;>simp[h,h2]
def vL(f g:ay):Int:=if f.A≠g.A then dC f.A g.A else if f.B≠g.B then dC f.B g.B else if f.Length≠g.Length then dC f.Length g.Length else dC f.Risk g.Risk
theorem dL{x y:Int}:dC x y=0↔x=y:=by
 unfold dC;split
 ·simp;omega
 ·split
  ·simp;omega
  ·simp;omega
theorem mZ(f g:ay):FC f g=some (vL f g):=by
 unfold FC;simp only[WI,Option.bind_some,bnd];unfold QZ;have key:=dF (f:=DW [dC f.A g.A,dC f.B g.B,dC f.Length g.Length,dC f.Risk g.Risk]) [dC f.A g.A,dC f.B g.B,dC f.Length g.Length,dC f.Risk g.Risk] (fun _ x=>x !=0) (fun _ x=>x) () (fun i x hx _=>by
  have hlt:=(List.getElem?_eq_some_iff.1 hx).1;have h1:decide ((i:Int)<([dC f.A g.A,dC f.B g.B,dC f.Length g.Length,dC f.Risk g.Risk].length:Nat))=true:=decide_eq_true (by omega);simp only[List.length_cons,List.length_nil] at hlt;simp only[DW,h1,cond_true,aQ,hx,Option.bind_some];rw[aE (by omega) (by omega)];cases x !=0<;>rfl) (by simp[DW]) (by simp)
 rw[key];unfold vL dA;simp only[List.zipIdx_cons,List.zipIdx_nil,List.find?_cons,List.find?_nil];by_cases h1:f.A=g.A
 ·rw[dL.2 h1];by_cases h2:f.B=g.B
  ·rw[dL.2 h2];by_cases h3:f.Length=g.Length
   ·rw[dL.2 h3];by_cases h4:f.Risk=g.Risk
    ·simp[h1,h2,h3,h4,dL.2]
    ·have:(dC f.Risk g.Risk !=0)=true:=bne_iff_ne.2 fun e=>h4 (dL.1 e);simp[h1,h2,h3,this]
   ·have:(dC f.Length g.Length !=0)=true:=bne_iff_ne.2 fun e=>h3 (dL.1 e);simp[h1,h2,h3,this]
  ·have:(dC f.B g.B !=0)=true:=bne_iff_ne.2 fun e=>h2 (dL.1 e);simp[h1,h2,this]
 ·have:(dC f.A g.A !=0)=true:=bne_iff_ne.2 fun e=>h1 (dL.1 e);simp[h1,this]
end Vs

namespace Vs
open Go
theorem ze{α:Type}(xs:List α)(i:Nat)(h:i<=xs.length):slT xs (i:Int)=some (xs.take i):=by
 unfold slT;rw[if_pos ⟨by omega,by simpa using h⟩];simp
theorem zL{n:ah}(h:bC n<=1048576):n.Nodes.length<=1048576/\n.Fibers.length<=1048576/\∀x∈n.Nodes,x.size<=1048576:=by
 unfold bC lQ pD at h;refine⟨by omega,by omega,fun x hx=>?_⟩;obtain⟨i,hi,rfl⟩:=List.getElem_of_mem hx;have:n.Nodes[i].size<=(n.Nodes.map fun x:ByteArray=>x.size).sum:=xM (fun x:ByteArray=>x.size) (xs:=n.Nodes) (i:=i) (x:=n.Nodes[i]) (by simp[hi]);omega
def iG(n:ah)(i:Nat)(x:ByteArray):Bool:=!oa x||(n.Nodes.take i).any fun y=>y.toList==x.toList
def vX(m:Nat)(f:ay):Bool:=decide (f.A<0)||decide (f.B<=f.A)||decide ((m:Int)<=f.B)||!wi f.Length 1 5000||!wi f.Risk 0 9
def gE(n:ah)(i:Nat)(f:ay):Bool:=vX n.Nodes.length f||(decide (0<i)&&match n.Fibers[i-1]? with|some g=>decide (0<vL g f)|none=>false)
def bK(n:ah):Bool:=!dV (iG n) n.Nodes&&!dV (gE n) n.Fibers&&wi n.Nodes.length 2 8&&decide (n.Fibers.length<=14)
theorem gY(n:ah)(hz:bC n<=1048576):BG n=some (bK n):=by
 obtain⟨h1,h2,h3⟩:=zL hz;unfold BG bK;rw[cZ (f:=Cb n) n.Nodes (iG n) (.inr false) (.inl ()) (fun i x hx _=>by
  have hlt:=(List.getElem?_eq_some_iff.1 hx).1;have e1:decide ((i:Int)<n.Nodes.length)=true:=by simp[hlt]
  simp only[Cb,e1,cond_true,aQ,hx,Option.bind_some,Kb x (h3 x (List.mem_of_getElem? hx)),ze n.Nodes i (Nat.le_of_lt hlt),sW (n.Nodes.take i) x (by simp;omega),iG];rw[aE (by omega) (by omega)];rcases bt (oa x) with e|e<;>rcases bt ((n.Nodes.take i).any (fun y=>y.toList==x.toList)) with e'|e'<;>simp only[e,e']<;>rfl) (by simp[Cb]) (by omega)]
 rcases bt (dV (iG n) n.Nodes) with hN|hN
 ·simp[hN]
 ·simp only[hN,Bool.false_eq_true,if_false,Option.bind_some,Bool.not_false,Bool.true_and];rw[cZ (f:=Ci n) n.Fibers (gE n) (.inr false) (.inl ()) (fun i x hx _=>by
   have hlt:=(List.getElem?_eq_some_iff.1 hx).1;have e1:decide ((i:Int)<n.Fibers.length)=true:=by simp[hlt]
   simp only[Ci,e1,cond_true,aQ,hx,Option.bind_some,eP];rw[aE (n:=(i:Int)+1) (by omega) (by omega)];unfold gE vX;cases decide (x.A<0)
   ·cases decide (x.B<=x.A)
    ·cases decide ((n.Nodes.length:Int)<=x.B)
     ·cases wi x.Length 1 5000
      ·rfl
      ·cases wi x.Risk 0 9
       ·rfl
       ·by_cases hi:0<i
        ·have hi':decide ((0:Int)<(i:Int))=true:=by simp[hi]
         have hp:n.Fibers[i-1]?=some n.Fibers[i-1]:=List.getElem?_eq_getElem (by omega);have hw:IntKind.wrap .i64 ((i:Int)-1)=((i-1:Nat):Int):=by rw[aE (by omega) (by omega)];omega
         simp only[hi',cond_true,cond_false,Bool.not_true,hw,aQ,hp,Option.bind_some,mZ,hi,decide_true,Bool.true_and,Bool.false_or];cases decide (0<vL n.Fibers[i-1] x)<;>rfl
        ·have hi':decide ((0:Int)<(i:Int))=false:=by simp;omega
         simp[hi',hi]
     ·rfl
    ·rfl
   ·rfl) (by simp[Ci]) (by omega)]
  rcases bt (dV (gE n) n.Fibers) with hF|hF
  ·simp[hF]
  ·simp only[hF,Bool.false_eq_true,if_false,Option.bind_some,Bool.not_false,Bool.true_and,eP];have e:decide ((n.Fibers.length:Int)<=14)=decide (n.Fibers.length<=14):=decide_eq_decide.2 (by omega);rw[e];cases wi n.Nodes.length 2 8<;>rfl
theorem GZ(n:ah)(i:Nat)(x:ByteArray)(hx:n.Nodes[i]?=some x):
 (NM x n.Nodes !=(i:Int))=(n.Nodes.take i).any fun y=>y.toList==x.toList:=by
 unfold NM;cases e:Uz x n.Nodes with
 | none =>
   have:=eh.1 e i x hx;simp at this
 | some q =>
   obtain⟨j,y⟩:=q;obtain⟨h1,h2,h3⟩:=dD.1 e;simp only;by_cases hj:j=i
   ·subst hj;have:((n.Nodes.take j).any fun y=>y.toList==x.toList)=false:=by
     rw[List.any_eq_false];intro z hz;obtain⟨k,hk,rfl⟩:=List.getElem_of_mem hz;simp only[List.length_take] at hk;have:=h3 k (n.Nodes.take j)[k] (by omega) (by rw[List.getElem_take];exact List.getElem?_eq_getElem (by omega));rw[this];simp
    rw[this];simp
   ·have hji:j<i:=by
     rcases Nat.lt_trichotomy j i with h|h|h
     ·exact h
     ·exact(hj h).elim
     ·have:=h3 i x h hx;simp at this
    have:((n.Nodes.take i).any fun y=>y.toList==x.toList)=true:=List.any_eq_true.2 ⟨y,by
     have:(n.Nodes.take i)[j]?=some y:=by rw[List.getElem?_take,if_pos hji];exact h1
     exact List.mem_of_getElem? this,h2⟩
    rw[this];simp;omega
theorem AE(f:ay)(m:Nat)(hm:m<=8)(hm2:2<=m):Ia f (m:Int)=some (!vX m f):=by
 unfold Ia vX;simp only[iv,Option.bind_some];rw[aE (n:=(m:Int)-1) (by omega) (by omega)];rcases bt (wi f.A 0 ((m:Int)-1)) with h1|h1
 ·have h2:=cG.1 h1;rw[aE (n:=f.A+1) (by omega) (by omega)];rcases bt (wi f.B (f.A+1) ((m:Int)-1)) with h3|h3
  ·have h4:=cG.1 h3;have a1:decide (f.A<0)=false:=by simp;omega
   have a2:decide (f.B<=f.A)=false:=by simp;omega
   have a3:decide ((m:Int)<=f.B)=false:=by simp;omega
   simp only[h1,h3,a1,a2,a3,cond_true,Bool.false_or];cases wi f.Length 1 5000<;>cases wi f.Risk 0 9<;>rfl
  ·have h4:=nA.1 h3;simp only[h1,h3,cond_true,cond_false];by_cases a2:f.B<=f.A
   ·simp[a2]
   ·have a3:(m:Int)<=f.B:=by omega
    simp[a3]
 ·have h2:=nA.1 h1;simp only[h1,cond_false];by_cases a1:f.A<0
  ·simp[a1]
  ·by_cases a2:f.B<=f.A
   ·simp[a2]
   ·have a3:(m:Int)<=f.B:=by omega
    simp[a3]
structure td(m:Int)(f:ay):Prop where
 a0:0<=f.A
 ab:f.A<f.B
 bm:f.B<m
 l1:1<=f.Length
 l2:f.Length<=5000
 r0:0<=f.Risk
 r9:f.Risk<=9
theorem nj{m:Nat}{f:ay}(h:vX m f=false):td m f:=by
 unfold vX at h;simp only[Bool.or_eq_false_iff,decide_eq_false_iff_not,Bool.not_eq_false',cG] at h;obtain⟨⟨⟨⟨h1,h2⟩,h3⟩,h4,h5⟩,h6,h7⟩:=h;exact⟨by omega,by omega,by omega,h4,h5,h6,h7⟩
theorem GH(f g:ay)(m:Nat)(hm:m<=8)(hf:td m f)(hg:td m g):∃r,uY f g=some r/\decide (0<r)=decide (0<vL f g):=by
 obtain⟨a1,a2,a3,a4,a5,a6,a7⟩:=hf;obtain⟨b1,b2,b3,b4,b5,b6,b7⟩:=hg;have sgn:∀x y:Int,decide (0<x-y)=decide (0<dC x y):=by
  intro x y;unfold dC;by_cases h:x<y
  ·rw[if_pos h];exact decide_eq_decide.2 (by omega)
  ·rw[if_neg h];by_cases h2:y<x
   ·rw[if_pos h2];exact decide_eq_decide.2 (by omega)
   ·rw[if_neg h2];exact decide_eq_decide.2 (by omega)
 unfold uY vL;rw[aE (n:=f.A-g.A) (by omega) (by omega),aE (n:=f.B-g.B) (by omega) (by omega),aE (n:=f.Length-g.Length) (by omega) (by omega),aE (n:=f.Risk-g.Risk) (by omega) (by omega)];by_cases h1:f.A=g.A
 ·have e1:(f.A !=g.A)=false:=by rw[h1];simp
  by_cases h2:f.B=g.B
  ·have e2:(f.B !=g.B)=false:=by rw[h2];simp
   by_cases h3:f.Length=g.Length
   ·have e3:(f.Length !=g.Length)=false:=by rw[h3];simp
    exact⟨f.Risk-g.Risk,by simp only[e1,e2,e3,cond_false],by simp only[h1,h2,h3,ne_eq,not_true,if_false];exact sgn _ _⟩
   ·have e3:(f.Length !=g.Length)=true:=bne_iff_ne.2 h3;exact⟨f.Length-g.Length,by simp only[e1,e2,e3,cond_false,cond_true],by simp only[h1,h2,h3,ne_eq,not_true,not_false_eq_true,if_false,if_true];exact sgn _ _⟩
  ·have e2:(f.B !=g.B)=true:=bne_iff_ne.2 h2;exact⟨f.B-g.B,by simp only[e1,e2,cond_false,cond_true],by simp only[h1,h2,ne_eq,not_true,not_false_eq_true,if_false,if_true];exact sgn _ _⟩
 ·have e1:(f.A !=g.A)=true:=bne_iff_ne.2 h1;exact⟨f.A-g.A,by simp only[e1,cond_true],by simp only[h1,ne_eq,not_false_eq_true,if_true];exact sgn _ _⟩
theorem pf(n:ah)(hz:bC n<=1048576):xV n=some (bK n):=by
 obtain⟨z1,z2,z3⟩:=zL hz;unfold xV bK;simp only[iv,Option.bind_some];rcases bt (wi n.Nodes.length 2 8) with hw|hw
 ·have hw2:=cG.1 hw;have e:decide (14<(n.Fibers.length:Int))=!decide (n.Fibers.length<=14):=by
   rw[<-decide_not];exact decide_eq_decide.2 (by omega)
  simp only[hw,e,Bool.not_true,cond_false,Option.bind_some,Bool.and_true];rcases bt (decide (n.Fibers.length<=14)) with h14|h14
  ·simp only[h14,Bool.not_true,cond_false,Bool.and_true];rw[cZ (f:=M_g n) n.Nodes (iG n) (.inr false) (.inl ()) (fun i x hx _=>by
    have hlt:=(List.getElem?_eq_some_iff.1 hx).1;have e1:decide ((i:Int)<n.Nodes.length)=true:=by simp[hlt]
    simp only[M_g,e1,cond_true,aQ,hx,Option.bind_some,KY x (z3 x (List.mem_of_getElem? hx)),Kd n.Nodes x z1,GZ n i x hx,iG];rw[aE (by omega) (by omega)];rcases bt (oa x) with e|e<;>rcases bt ((n.Nodes.take i).any (fun y=>y.toList==x.toList)) with e'|e'<;>simp only[e,e']<;>rfl) (by simp[M_g]) (by omega)]
   rcases bt (dV (iG n) n.Nodes) with hN|hN
   ·simp[hN]
   ·simp only[hN,Bool.false_eq_true,if_false,Option.bind_some,Bool.not_false,Bool.true_and];rw[cZ (f:=Be n) n.Fibers (gE n) (.inr false) (.inl ()) (fun i x hx hprev=>by
     have hlt:=(List.getElem?_eq_some_iff.1 hx).1;have e1:decide ((i:Int)<n.Fibers.length)=true:=by simp[hlt]
     simp only[Be,e1,cond_true,aQ,hx,Option.bind_some,AE x n.Nodes.length (by omega) (by omega),Bool.not_not];rw[aE (n:=(i:Int)+1) (by omega) (by omega)];unfold gE;rcases bt (vX n.Nodes.length x) with h1|h1
     ·simp[h1]
     ·simp only[h1,cond_false,Bool.false_or];by_cases hi:0<i
      ·have hi':decide ((0:Int)<(i:Int))=true:=by simp[hi]
       have hp:n.Fibers[i-1]?=some n.Fibers[i-1]:=List.getElem?_eq_getElem (by omega);have hw:IntKind.wrap .i64 ((i:Int)-1)=((i-1:Nat):Int):=by rw[aE (by omega) (by omega)];omega
       have hb:=hprev (i-1) n.Fibers[i-1] (by omega) hp;unfold gE at hb;simp only[Bool.or_eq_false_iff] at hb;obtain⟨r,r1,r2⟩:=GH n.Fibers[i-1] x n.Nodes.length (by omega) (nj hb.1) (nj h1);simp only[hi',cond_true,hw,aQ,hp,Option.bind_some,r1,r2,hi,decide_true,Bool.true_and];cases decide (0<vL n.Fibers[i-1] x)<;>rfl
      ·have hi':decide ((0:Int)<(i:Int))=false:=by simp;omega
       simp[hi',hi]) (by simp[Be]) (by omega)]
    cases dV (gE n) n.Fibers<;>rfl
  ·simp[h14]
 ·simp[hw]
end Vs

namespace Vs
open Go
theorem cC{n:ah}(h:bK n=true):2<=n.Nodes.length/\n.Nodes.length<=8/\n.Fibers.length<=14:=by
 unfold bK at h;simp only[Bool.and_eq_true,decide_eq_true_eq,cG] at h;omega
theorem qy{n:ah}(h:bK n=true){i:Nat}{f:ay}(hf:n.Fibers[i]?=some f):td n.Nodes.length f:=by
 unfold bK at h;simp only[Bool.and_eq_true,Bool.not_eq_true'] at h;have:=cD.1 h.1.1.2 i f hf;unfold gE at this;simp only[Bool.or_eq_false_iff] at this;exact nj this.1
def cB(r:Int):Nat->List ay->List Int
 |_,[]=>[]
 |i,f::fs=>if f.Risk=r then(i:Int)::cB r (i+1) fs else cB r (i+1) fs
theorem jH(r:Int)(i:Nat)(f:ay)(fs:List ay):cB r i (f::fs)=if f.Risk=r then(i:Int)::cB r (i+1) fs else cB r (i+1) fs:=rfl
theorem lH(r:Int):∀(fs:List ay)(i:Nat),(cB r i fs).length<=fs.length
 |[],i=>by simp[cB]
 | f :: fs, i => by
   have:=lH r fs (i+1);rw[jH];split<;>simp<;>omega
theorem jG(r:Int):∀(fs:List ay)(i:Nat)(x:Int),x∈cB r i fs↔∃j f,fs[j]?=some f/\f.Risk=r/\x=((i+j:Nat):Int)
 |[],i,x=>by simp[cB]
 | f :: fs, i, x => by
   have ih:=jG r fs (i+1) x;have step:(∃j g,(f::fs)[j]?=some g/\g.Risk=r/\x=((i+j:Nat):Int))↔(f.Risk=r/\x=(i:Int))\/∃j g,fs[j]?=some g/\g.Risk=r/\x=((i+1+j:Nat):Int):=by
    constructor
    ·rintro⟨j,g,h1,h2,h3⟩;cases j with
     |zero=>simp at h1;subst h1;exact .inl ⟨h2,h3⟩
     |succ j=>exact .inr ⟨j,g,by simpa using h1,h2,by rw[h3];congr 1;omega⟩
    ·rintro(⟨h1,h2⟩|⟨j,g,h1,h2,h3⟩)
     ·exact⟨0,f,rfl,h1,h2⟩
     ·exact⟨j+1,g,by simpa using h1,h2,by rw[h3];congr 1;omega⟩
   rw[step,<-ih];rw[jH];split
   ·rename_i h;simp[h]
   ·rename_i h;simp[h]
theorem qV(r:Int):∀(fs:List ay)(i:Nat)(acc:List Int),bB (fun i(f:ay)(a:List Int)=>(.inl (if f.Risk=r then a++[(i:Int)] else a):List Int⊕List Int)) (fun a=>a) i fs acc=acc++cB r i fs
 |[],i,acc=>by simp[bB,cB]
 | f :: fs, i, acc => by
   simp only[bB];rw[qV r fs (i+1)];rw[jH];split<;>simp
def fh:List Int:=[1,2,3,4,5,6,7,8,9]
def aX(n:ah):List (List Int):=((fh.map fun r=>cB r 0 n.Fibers).filter fun l=>decide (0<l.length))++(cB 0 0 n.Fibers).map fun i=>[i]
theorem fg(n:ah)(h:n.Fibers.length<=14):(aX n).length<=23:=by
 have:=lH 0 n.Fibers 0;have h2:=List.length_filter_le (fun l:List Int=>decide (0<l.length)) (fh.map fun r=>cB r 0 n.Fibers);have h3:(fh.map fun r=>cB r 0 n.Fibers).length=9:=rfl;unfold aX;simp only[List.length_append,List.length_map];omega
theorem pn{f:Int×List Int->Option ((Int×List Int)⊕List Int)}(fs:List ay)(r:Int)(hl:fs.length<=1048576)
 (h1:∀(i:Nat) x(a:List Int),fs[i]?=some x->a.length<=i->f ((i:Int),a)=some (.inl (((i+1:Nat):Int),if x.Risk=r then a++[(i:Int)] else a)))
 (h2:∀a,f ((fs.length:Int),a)=some (.inr a)):bn f N0 (0,[])=some (cB r 0 fs):=by
 have:=cb (f:=f) fs (fun i(a:List Int)=>((i:Int),a)) (fun i x a=>.inl (if x.Risk=r then a++[(i:Int)] else a)) (fun a=>a) (fun i a=>a.length<=i) (fun i a x hx hI=>by
  refine .inl ⟨_,rfl,?_,h1 i x a hx hI⟩;split<;>first|omega|(simp only[List.length_append,List.length_cons,List.length_nil];omega)) (fun a _=>h2 a) [] (by simp) (by omega)
 rw[show bn f N0 (0,[])=_ from this,qV];rfl
theorem pb{f:Int×List (List Int)->Option ((Int×List (List Int))⊕List (List Int))}(fs:List ay)(G:List (List Int))(hl:fs.length<=1048576)(hG:G.length<=100)
 (h1:∀(i:Nat) x(a:List (List Int)),fs[i]?=some x->a.length<=100+i->f ((i:Int),a)=some (.inl (((i+1:Nat):Int),if x.Risk=0 then a++[[(i:Int)]] else a)))
 (h2:∀a,f ((fs.length:Int),a)=some (.inr a)):bn f N0 (0,G)=some (G++(cB 0 0 fs).map fun i=>[i]):=by
 have:=cb (f:=f) fs (fun i(a:List (List Int))=>((i:Int),a)) (fun i x a=>.inl (if x.Risk=0 then a++[[(i:Int)]] else a)) (fun a=>a) (fun i a=>a.length<=100+i) (fun i a x hx hI=>by
  refine .inl ⟨_,rfl,?_,h1 i x a hx hI⟩;split<;>first|omega|(simp only[List.length_append,List.length_cons,List.length_nil];omega)) (fun a _=>h2 a) G (by omega) (by omega)
 rw[show bn f N0 (0,G)=_ from this];have gen:∀(fs:List ay)(i:Nat)(acc:List (List Int)),bB (fun i(f:ay)(a:List (List Int))=>(.inl (if f.Risk=0 then a++[[(i:Int)]] else a):List (List Int)⊕List (List Int))) (fun a=>a) i fs acc=acc++(cB 0 i fs).map fun i=>[i]:=by
  intro fs;induction fs with
  |nil=>intro i acc;simp[bB,cB]
  | cons f fs ih =>
    intro i acc;simp only[bB];rw[ih (i+1)];rw[jH];split<;>simp
 rw[gen]
theorem lV{f:Int×List (List Int)->Option ((Int×List (List Int))⊕List (List Int))}(fs:List ay)
 (h1:∀(r:Int)(a:List (List Int)),1<=r->r<=9->a.length<=10->f (r,a)=some (.inl (r+1,if 0<(cB r 0 fs).length then a++[cB r 0 fs] else a)))
 (h2:∀a,f (10,a)=some (.inr a)):bn f N0 (1,[])=some ((fh.map fun r=>cB r 0 fs).filter fun l=>decide (0<l.length)):=by
 have:=cb (f:=f) fh (fun i(a:List (List Int))=>((i:Int)+1,a)) (fun i r a=>.inl (if 0<(cB r 0 fs).length then a++[cB r 0 fs] else a)) (fun a=>a) (fun i a=>a.length<=i) (fun i a r hr hI=>by
  have hi:i<9:=by have:=(List.getElem?_eq_some_iff.1 hr).1;simpa[fh] using this
  have e:(i:Int)+1=r:=by
   rcases i with _|_|_|_|_|_|_|_|_|i<;>first|(simp[fh] at hr;omega)|omega
  refine .inl ⟨_,rfl,?_,?_⟩
  ·split<;>first|omega|(simp only[List.length_append,List.length_cons,List.length_nil];omega)
  ·rw[e,h1 r a (by omega) (by omega) (by omega)];have:((i+1:Nat):Int)+1=r+1:=by omega
   rw[this]) (fun a _=>by have:=h2 a;simpa[fh] using this) [] (by simp) (by simp[fh])
 rw[show bn f N0 (1,[])=_ from this];have gen:∀(rs:List Int)(i:Nat)(acc:List (List Int)),bB (fun(_:Nat)(r:Int)(a:List (List Int))=>(.inl (if 0<(cB r 0 fs).length then a++[cB r 0 fs] else a):List (List Int)⊕List (List Int))) (fun a=>a) i rs acc=
  acc++(rs.map fun r=>cB r 0 fs).filter fun l=>decide (0<l.length):=by
  intro rs;induction rs with
  |nil=>intro i acc;simp[bB]
  | cons r rs ih =>
    intro i acc;simp only[bB];rw[ih (i+1),List.map_cons,List.filter_cons];by_cases h:0<(cB r 0 fs).length
    ·simp[h]
    ·simp[h]
 rw[gen];rfl
theorem jx(n:ah)(h:n.Fibers.length<=14):sG n=some (aX n):=by
 unfold sG;rw[lV (f:=AD n) n.Fibers (fun r a hr1 hr9 ha=>by
  have e1:decide (r<=9)=true:=by simp[hr9]
  simp only[AD,e1,cond_true];rw[pn (f:=Av n (r,a)) n.Fibers r (by omega) (fun i x b hx hb=>by
   have hlt:=(List.getElem?_eq_some_iff.1 hx).1;have e1:decide ((i:Int)<n.Fibers.length)=true:=by simp[hlt]
   simp only[Av,e1,cond_true,aQ,hx,Option.bind_some,bnd];rw[aU (by omega),aE (by omega) (by omega)];by_cases e:x.Risk=r
   ·simp[e]
   ·simp[e,gW]) (fun a=>by simp[Av])]
  simp only[Option.bind_some,bnd];rw[aU (by omega),aE (by omega) (by omega)];by_cases e:0<(cB r 0 n.Fibers).length
  ·have e':decide ((0:Int)<((cB r 0 n.Fibers).length:Int))=true:=by simpa using e
   simp only[e',cond_true,if_pos e,Option.bind_some]
  ·have e':decide ((0:Int)<((cB r 0 n.Fibers).length:Int))=false:=by simpa using e
   simp only[e',cond_false,if_neg e]) (fun a=>by simp[AD])]
 simp only[Option.bind_some];have hl:=List.length_filter_le (fun l:List Int=>decide (0<l.length)) (fh.map fun r=>cB r 0 n.Fibers);have hl9:(fh.map fun r=>cB r 0 n.Fibers).length=9:=rfl;rw[pb (f:=BU n) n.Fibers _ (by omega) (by omega) (fun i x a hx ha=>by
  have hlt:=(List.getElem?_eq_some_iff.1 hx).1;have e1:decide ((i:Int)<n.Fibers.length)=true:=by simp[hlt]
  simp only[BU,e1,cond_true,aQ,hx,Option.bind_some,bnd];rw[aU (by omega),aE (by omega) (by omega)];by_cases e:x.Risk=0
  ·simp[e]
  ·simp[e,gW]) (fun a=>by simp[BU])]
 rfl
theorem ro(n:ah)(h:n.Fibers.length<=14)(i:Nat)(f:ay)(hf:n.Fibers[i]?=some f)(hr:f.Risk≠0):pO n (i:Int)=some (cB f.Risk 0 n.Fibers):=by
 unfold pO;have e:(f.Risk==0)=false:=by simpa using hr
 simp only[aQ,hf,Option.bind_some,e,cond_false];rw[pn (f:=M_d n (i:Int)) n.Fibers f.Risk (by omega) (fun j x b hx hb=>by
  have hlt:=(List.getElem?_eq_some_iff.1 hx).1;have e1:decide ((j:Int)<n.Fibers.length)=true:=by simp[hlt]
  simp only[M_d,e1,cond_true,aQ,hx,hf,Option.bind_some,bnd];rw[aU (by omega),aE (by omega) (by omega)];by_cases e:x.Risk=f.Risk
  ·simp[e]
  ·simp[e,gW]) (fun a=>by simp[M_d])]
 rfl
theorem kR{r:Int}{fs:List ay}:0<(cB r 0 fs).length↔∃(j:Nat)(f:ay),fs[j]?=some f/\f.Risk=r:=by
 constructor
 ·intro h;obtain⟨x,hx⟩:=List.exists_mem_of_length_pos h;obtain⟨j,f,h1,h2,_⟩:=(jG r fs 0 x).1 hx;exact⟨j,f,h1,h2⟩
 ·rintro⟨j,f,h1,h2⟩;exact List.length_pos_of_mem ((jG r fs 0 _).2 ⟨j,f,h1,h2,rfl⟩)
theorem nU(n:ah)(h:n.Fibers.length<=14):sT n=some (aX n):=by
 unfold sT;rw[lV (f:=M_e n) n.Fibers (fun r a hr1 hr9 ha=>by
  have e1:decide (r<=9)=true:=by simp[hr9]
  simp only[M_e,e1,cond_true];have key:bn (M_l n (r,a)) N0 0=some (if 0<(cB r 0 n.Fibers).length then a++[cB r 0 n.Fibers] else a):=by
   rw[cZ (f:=M_l n (r,a)) n.Fibers (fun _ f=>decide (f.Risk=r)) (a++[cB r 0 n.Fibers]) a (fun i x hx _=>by
    have hlt:=(List.getElem?_eq_some_iff.1 hx).1;have e1:decide ((i:Int)<n.Fibers.length)=true:=by simp[hlt]
    simp only[M_l,e1,cond_true,aQ,hx,Option.bind_some,bnd];by_cases e:x.Risk=r
    ·have e0:x.Risk≠0:=by omega
     have e2:(x.Risk==r)=true:=by simp[e]
     rw[ro n h i x hx e0];simp only[e2,cond_true,Option.bind_some];rw[aU (by omega)];simp[e]
    ·have e2:(x.Risk==r)=false:=by simp[e]
     simp only[e2,cond_false];rw[aE (by omega) (by omega)];simp[e]) (by simp[M_l]) (by omega)]
   by_cases hp:0<(cB r 0 n.Fibers).length
   ·rw[if_pos hp];obtain⟨j,f,h1,h2⟩:=kR.1 hp;have:dV (fun _(f:ay)=>decide (f.Risk=r)) n.Fibers=true:=fl.2 ⟨j,f,h1,by simp[h2]⟩;rw[this];rfl
   ·rw[if_neg hp];have:dV (fun _(f:ay)=>decide (f.Risk=r)) n.Fibers=false:=cD.2 fun i x hx=>by
     simp only[decide_eq_false_iff_not];intro e;exact hp (kR.2 ⟨i,x,hx,e⟩)
    rw[this];rfl
  rw[key];simp only[Option.bind_some];rw[aE (by omega) (by omega)]) (fun a=>by simp[M_e])]
 simp only[Option.bind_some];have hl:=List.length_filter_le (fun l:List Int=>decide (0<l.length)) (fh.map fun r=>cB r 0 n.Fibers);have hl9:(fh.map fun r=>cB r 0 n.Fibers).length=9:=rfl;rw[pb (f:=M_k n) n.Fibers _ (by omega) (by omega) (fun i x a hx ha=>by
  have hlt:=(List.getElem?_eq_some_iff.1 hx).1;have e1:decide ((i:Int)<n.Fibers.length)=true:=by simp[hlt]
  simp only[M_k,e1,cond_true,aQ,hx,Option.bind_some,bnd];rw[aU (by omega),aE (by omega) (by omega)];by_cases e:x.Risk=0
  ·simp[e]
  ·simp[e,gW]) (fun a=>by simp[M_k])]
 rfl
end Vs

namespace Vs
open Go
theorem ue{r:Int}{fs:List ay}(h:fs.length<=14):∀x∈cB r 0 fs,0<=x/\x<14:=by
 intro x hx;obtain⟨j,f,hj,_,rfl⟩:=(jG r fs 0 x).1 hx;have:=(List.getElem?_eq_some_iff.1 hj).1;omega
theorem eY{n:ah}(h:n.Fibers.length<=14):∀g∈aX n,g.length<=14/\∀x∈g,0<=x/\x<14:=by
 intro g hg;unfold aX at hg;rw[List.mem_append] at hg;rcases hg with hg|hg
 ·obtain⟨r,_,rfl⟩:=List.mem_map.1 (List.mem_filter.1 hg).1;exact⟨Nat.le_trans (lH ..) h,ue h⟩
 ·obtain⟨x,hx,rfl⟩:=List.mem_map.1 hg;exact⟨by simp,fun y hy=>by rw[List.mem_singleton.1 hy];exact ue h x hx⟩
theorem IG{n:ah}(h:bK n=true):∀f∈n.Fibers,f.A<n.Nodes.length/\f.B<n.Nodes.length:=by
 intro f hf;obtain⟨i,hi⟩:=List.getElem?_of_mem hf;obtain⟨h1,h2,h3⟩:=qy h hi;omega
def gA(n:ah)(e:Int):Int:=match n.Fibers[e.toNat]? with|some f=>f.Risk|none=>0
def jZ(n:ah)(e:Int):List Int:=if gA n e=0 then [e] else cB (gA n e) 0 n.Fibers
def oU(n:ah)(x y:Int):Prop:=x=y\/(gA n x≠0/\gA n x=gA n y)
def iV(n:ah)(e:Int):Prop:=0<=e/\e<(n.Fibers.length:Int)
theorem sY{n:ah}{e:Int}(h:iV n e):∃f,n.Fibers[e.toNat]?=some f/\gA n e=f.Risk:=by
 have hlt:e.toNat<n.Fibers.length:=by have:=h.1;have:=h.2;omega
 refine⟨_,List.getElem?_eq_getElem hlt,?_⟩;unfold gA;rw[List.getElem?_eq_getElem hlt]
theorem oi{n:ah}{r x:Int}:x∈cB r 0 n.Fibers↔iV n x/\gA n x=r:=by
 rw[jG];constructor
 ·rintro⟨j,f,h1,h2,rfl⟩;have:=(List.getElem?_eq_some_iff.1 h1).1;refine⟨⟨by omega,by omega⟩,?_⟩;unfold gA;rw[show((0+j:Nat):Int).toNat=j by omega,h1];exact h2
 ·rintro⟨h,hr⟩;obtain⟨f,h1,h2⟩:=sY h;exact⟨x.toNat,f,h1,by rw[<-h2];exact hr,by have:=h.1;omega⟩
theorem lz{n:ah}{x y:Int}(hy:iV n y):y∈jZ n x↔oU n x y:=by
 unfold jZ oU;by_cases h:gA n x=0
 ·rw[if_pos h,List.mem_singleton];exact⟨fun e=>.inl e.symm,fun e=>e.elim Eq.symm fun q=>(q.1 h).elim⟩
 ·rw[if_neg h,oi];constructor
  ·exact fun q=>.inr ⟨h,q.2.symm⟩
  ·rintro(rfl|q)
   ·exact⟨hy,rfl⟩
   ·exact⟨hy,q.2.symm⟩
theorem iw{n:ah}{g:List Int}(hg:g∈aX n){x y:Int}(hx:x∈g)(hfx:iV n x)(hfy:iV n y):y∈g↔oU n x y:=by
 unfold aX at hg;rw[List.mem_append] at hg;rcases hg with hg|hg
 ·obtain⟨h1,_⟩:=List.mem_filter.1 hg;obtain⟨r,hr,rfl⟩:=List.mem_map.1 h1;have hr0:r≠0:=by unfold fh at hr;simp at hr;omega
  rw[oi] at hx⊢;unfold oU;constructor
  ·exact fun q=>.inr ⟨by rw[hx.2];exact hr0,by rw[hx.2,q.2]⟩
  ·rintro(rfl|q)
   ·exact hx
   ·exact⟨hfy,by rw[<-q.2,hx.2]⟩
 ·obtain⟨z,hz,rfl⟩:=List.mem_map.1 hg;rw[List.mem_singleton] at hx⊢;subst hx;have h0:=(oi.1 hz).2;unfold oU;exact⟨fun e=>.inl e.symm,fun e=>e.elim Eq.symm fun q=>(q.1 h0).elim⟩
theorem Lx{n:ah}(h:bK n=true){x:Int}(hx:iV n x):∃g∈aX n,x∈g:=by
 obtain⟨f,h1,h2⟩:=sY hx;have hf:=qy h h1;obtain⟨_,_,_,_,_,_,_⟩:=hf;unfold aX;by_cases h0:gA n x=0
 ·exact⟨[x],List.mem_append_right _ (List.mem_map.2 ⟨x,oi.2 ⟨hx,h0⟩,rfl⟩),by simp⟩
 ·have hm:x∈cB (gA n x) 0 n.Fibers:=oi.2 ⟨hx,rfl⟩;refine⟨_,List.mem_append_left _ (List.mem_filter.2 ⟨List.mem_map.2 ⟨gA n x,?_,rfl⟩,by simpa using List.length_pos_of_mem hm⟩),hm⟩;unfold fh;rw[h2] at h0⊢;simp only[List.mem_cons,List.not_mem_nil,or_false];omega
def lg(n:ah)(e:Int):Int:=match dA (fun _(g:List Int)=>decide (e∈g)) (aX n) with|some q=>(q.1:Int)|none=>-1
theorem tK{n:ah}(h:bK n=true){x y:Int}(hx:iV n x)(hy:iV n y):lg n x=lg n y↔oU n x y:=by
 obtain⟨g,hg,hm⟩:=Lx h hx;constructor
 ·intro e;unfold lg at e;cases hf:dA (fun _(g:List Int)=>decide (x∈g)) (aX n) with
  | none =>
    obtain⟨i,hi⟩:=List.getElem?_of_mem hg;have:=eh.1 hf i g hi;simp[hm] at this
  | some q =>
    obtain⟨i,gx⟩:=q;obtain⟨k1,k2,_⟩:=dD.1 hf;rw[hf] at e;cases hf2:dA (fun _(g:List Int)=>decide (y∈g)) (aX n) with
    |none=>rw[hf2] at e;simp only at e;omega
    | some q2 =>
      obtain⟨j,gy⟩:=q2;obtain⟨m1,m2,_⟩:=dD.1 hf2;rw[hf2] at e;have hij:i=j:=by simp only at e;omega
      subst hij;rw[k1] at m1;cases m1;exact(iw (List.mem_of_getElem? k1) (by simpa using k2) hx hy).1 (by simpa using m2)
 ·intro e;have e':oU n y x:=e.elim (fun q=>.inl q.symm) fun q=>.inr ⟨by rw[<-q.2];exact q.1,q.2.symm⟩;have key:∀g∈aX n,(x∈g↔y∈g):=fun g hg=>⟨fun q=>(iw hg q hx hy).2 e,fun q=>(iw hg q hy hx).2 e'⟩;have:dA (fun _(g:List Int)=>decide (y∈g)) (aX n)=dA (fun _(g:List Int)=>decide (x∈g)) (aX n):=by
   cases hf:dA (fun _(g:List Int)=>decide (x∈g)) (aX n) with
   | none =>
     rw[eh] at hf⊢;intro i z hz;have:=hf i z hz;simp only[decide_eq_false_iff_not] at this⊢;exact fun q=>this ((key z (List.mem_of_getElem? hz)).2 q)
   | some q =>
     obtain⟨i,gx⟩:=q;rw[dD] at hf⊢;obtain⟨k1,k2,k3⟩:=hf;simp only[decide_eq_true_eq,decide_eq_false_iff_not] at k2 k3⊢;exact⟨k1,(key gx (List.mem_of_getElem? k1)).1 k2,fun j z hj hz q=>k3 j z hj hz ((key z (List.mem_of_getElem? hz)).2 q)⟩
  unfold lg;rw[this]
def apP(n:ah)(a b:List Int):Bool:=!a.any fun x=>b.any fun y=>decide (y∈jZ n x)
theorem BK{n:ah}(h:bK n=true){a b:List Int}(ha:∀x∈a,iV n x)(hb:∀x∈b,iV n x):(!(a.map (lg n)).any fun x=>decide (x∈b.map (lg n)))=apP n a b:=by
 unfold apP;congr 1;rw[Bool.eq_iff_iff];simp only[List.any_eq_true,List.mem_map,decide_eq_true_eq];constructor
 ·rintro⟨_,⟨x,hx,rfl⟩,y,hy,e⟩;exact⟨x,hx,y,hy,(lz (hb y hy)).2 ((tK h (ha x hx) (hb y hy)).1 e.symm)⟩
 ·rintro⟨x,hx,y,hy,e⟩;exact⟨_,⟨x,hx,rfl⟩,y,hy,((tK h (ha x hx) (hb y hy)).2 ((lz (hb y hy)).1 e)).symm⟩
end Vs

namespace Vs
open Go
def je(f:ay)(v:Int):Int:=if v=f.A then f.B else if v=f.B then f.A else -1
def dd(n:ah)(e v:Int):Int:=match n.Fibers[e.toNat]? with|some f=>je f v|none=>-1
end Vs

namespace Vs
open Go
theorem fJ(l:List Int)(x:Int)(hl:l.length<=1048576):M_m l x=some (l.any fun y=>y==x):=by
 unfold M_m;rw[gb (f:=Bb l x) l (fun y=>y==x) (.inr true) (.inl ()) (fun i y hy=>by
  have hlt:=(List.getElem?_eq_some_iff.1 hy).1;have h1:decide ((i:Int)<l.length)=true:=by simp[hlt]
  simp only[Bb,h1,cond_true,aQ,hy,Option.bind_some];rw[aE (by omega) (by omega)];cases y==x<;>rfl) (by simp[Bb]) (by omega)]
 cases l.any fun y=>y==x<;>rfl
theorem oI{n:ah}{e:Int}(h:wi e 0 ((n.Fibers.length:Int)-1)=true):∃f,bw n.Fibers e=some f/\n.Fibers[e.toNat]?=some f:=by
 rw[cG] at h;have hlt:e.toNat<n.Fibers.length:=by omega
 refine⟨n.Fibers[e.toNat],?_,List.getElem?_eq_getElem hlt⟩;have h3:=aQ n.Fibers e.toNat;rw[Int.toNat_of_nonneg h.1] at h3;rw[h3];exact List.getElem?_eq_getElem hlt
theorem jN(n:ah)(e v:Int)(h:wi e 0 ((n.Fibers.length:Int)-1)=true):sm n e v=some (dd n e v):=by
 obtain⟨f,h1,h2⟩:=oI h;unfold sm dd je;rw[h1,h2];simp only[Option.bind_some];by_cases a:v=f.A
 ·rw[show(v==f.A)=true from by simpa using a,cond_true,if_pos a]
 ·rw[show(v==f.A)=false from by simpa using a,cond_false,if_neg a];by_cases b:v=f.B
  ·rw[show(v==f.B)=true from by simpa using b,cond_true,if_pos b]
  ·rw[show(v==f.B)=false from by simpa using b,cond_false,if_neg b]
end Vs

namespace Vs
open Go
theorem nk(xs:List Int)(v:Int)(hl:xs.length<=1048576):uK xs v=some (decide (v∈xs)):=by
 unfold uK PZ;rw[dF (f:=AW xs v) xs (fun _ x=>v==x) (fun i _=>(i:Int)) () (fun i x hx _=>by
  have hlt:=(List.getElem?_eq_some_iff.1 hx).1;have h1:decide ((i:Int)<xs.length)=true:=by simp[hlt]
  simp only[AW,h1,cond_true,aQ,hx,Option.bind_some];rw[aE (by omega) (by omega)];cases v==x<;>rfl) (by simp[AW]) (by omega)]
 cases e:dA (fun _ x=>v==x) xs with
 | none =>
   have:=eh.1 e;have h:¬v∈xs:=fun hm=>by
    obtain⟨i,hi⟩:=List.getElem?_of_mem hm;have:=this i v hi;simp at this
   rw[decide_eq_false h];rfl
 | some q =>
   obtain⟨i,x⟩:=q;obtain⟨h1,h2,_⟩:=dD.1 e;have h:v∈xs:=by
    have:=eq_of_beq h2;rw[this];exact List.mem_of_getElem? h1
   rw[decide_eq_true h];simp
theorem xx(f:ay)(v:Int):Ku f v=some (je f v):=by
 unfold Ku je;by_cases a:v=f.A
 ·rw[show(v==f.A)=true from by simpa using a,cond_true,if_pos a]
 ·rw[show(v==f.A)=false from by simpa using a,cond_false,if_neg a];by_cases b:v=f.B
  ·rw[show(v==f.B)=true from by simpa using b,cond_true,if_pos b]
  ·rw[show(v==f.B)=false from by simpa using b,cond_false,if_neg b]
theorem kS(l:List Int)(e:Int):decide (e∈l)=l.any fun x=>x==e:=by
 rw[Bool.eq_iff_iff,decide_eq_true_iff,List.any_eq_true];constructor
 ·intro h;exact⟨e,h,by simp⟩
 ·rintro⟨x,hx,he⟩;rw[<-eq_of_beq he];exact hx
end Vs

namespace Vs
open Go
theorem lW{α A B C:Type}(s1:Nat->α->A->A⊕B)(s2:Nat->α->A->A⊕C)(f1:A->B)(f2:A->C)(R:B->C->Prop)(h:∀i x a,(∃a',s1 i x a=.inl a'/\s2 i x a=.inl a')\/∃b c,s1 i x a=.inr b/\s2 i x a=.inr c/\R b c)(hf:∀a,R (f1 a) (f2 a)):
 ∀(xs:List α)(i:Nat)(a:A),R (bB s1 f1 i xs a) (bB s2 f2 i xs a)
 |[],_,a=>hf a
 | x :: xs, i, a => by
   simp only[bB];rcases h i x a with⟨a',h1,h2⟩|⟨b,c,h1,h2,h3⟩
   ·rw[h1,h2];exact lW s1 s2 f1 f2 R h hf xs (i+1) a'
   ·rw[h1,h2];exact h3
def qg(n:ah)(e:Int)(a:Int×List Int):Bool:=!wi e 0 ((n.Fibers.length:Int)-1)||decide (dd n e a.1<0)||decide (dd n e a.1∈a.2)
def nP(n:ah)(_:Nat)(e:Int)(a:Int×List Int):(Int×List Int)⊕Option (List Int):=if qg n e a then .inr none else .inl (dd n e a.1,a.2++[dd n e a.1])
def gQ(n:ah)(r:ar):Option (List Int):=if !wi r.Start 0 ((n.Nodes.length:Int)-1)||decide (r.Fibers.length=0) then none else bB (nP n) (fun a=>some a.2) 0 r.Fibers (r.Start,[r.Start])
def GN(n:ah)(_:Nat)(e:Int)(a:Int×List Int):(Int×List Int)⊕((List Int)⊕(List Int×Bool)):=if qg n e a then .inr (.inr ([],false)) else .inl (dd n e a.1,a.2++[dd n e a.1])
def Ih(n:ah)(_:Nat)(e:Int)(a:Int×List Int):(Int×List Int)⊕((List Int)⊕(List Int×Bool)):=if qg n e a then .inr (.inr (a.2,false)) else .inl (dd n e a.1,a.2++[dd n e a.1])
theorem VB(l:List Int):((l.length:Int)==0)=decide (l.length=0):=by
 rw[Bool.eq_iff_iff];simp
theorem rr(n:ah)(r:ar)(hN:n.Nodes.length<=1048576)(hF:n.Fibers.length<=1048576)(hr:r.Fibers.length<=1048576):DC n r=some (match gQ n r with|some l=>(l,true)|none=>([],false)):=by
 unfold DC gQ;simp only[eP,Option.bind_some,VB];rw[aE (n:=(n.Nodes.length:Int)-1) (by omega) (by omega)];have hc:(cond (!wi r.Start 0 ((n.Nodes.length:Int)-1)) (some true) (some (decide (r.Fibers.length=0))):Option Bool)=some (!wi r.Start 0 ((n.Nodes.length:Int)-1)||decide (r.Fibers.length=0)):=by
  cases wi r.Start 0 ((n.Nodes.length:Int)-1)<;>rfl
 rw[hc];simp only[Option.bind_some];rcases bt (!wi r.Start 0 ((n.Nodes.length:Int)-1)||decide (r.Fibers.length=0)) with e|e
 ·rw[e];rfl
 rw[e];simp only[cond_false,bnd,Bool.false_eq_true,if_false];have key:=cb (f:=Cn n r) r.Fibers (fun i(a:Int×List Int)=>(a.1,(i:Int),a.2)) (GN n) (fun a=>.inl a.2) (fun i a=>a.2.length=i+1) (fun i a x hx hI=>by
  have hlt:=(List.getElem?_eq_some_iff.1 hx).1;have h1:decide ((i:Int)<r.Fibers.length)=true:=by simp[hlt]
  simp only[Cn,h1,cond_true,aQ,hx,Option.bind_some,eP];rw[aE (n:=(n.Fibers.length:Int)-1) (by omega) (by omega),aE (n:=(i:Int)+1) (by omega) (by omega)];unfold GN qg;rcases bt (wi x 0 ((n.Fibers.length:Int)-1)) with e1|e1
  ·obtain⟨f,f1,f2⟩:=oI e1;have ho:dd n x a.1=je f a.1:=by unfold dd;rw[f2]
   simp only[e1,Bool.not_true,cond_false,f1,Option.bind_some,xx,<-ho,nk a.2 (dd n x a.1) (by omega),Bool.false_or];by_cases h3:dd n x a.1<0
   ·exact .inr ⟨_,by simp[h3];rfl,by simp[h3]⟩
   ·by_cases h4:dd n x a.1∈a.2
    ·exact .inr ⟨_,by simp[h4];rfl,by simp[h3,h4]⟩
    ·refine .inl ⟨(dd n x a.1,a.2++[dd n x a.1]),by simp[h3,h4],by simp[hI],?_⟩;simp only[decide_eq_false h3,decide_eq_false h4,cond_false,Option.bind_some,bnd];rw[aU (by omega)];rfl
  ·exact .inr ⟨_,by simp[e1];rfl,by simp[e1]⟩) (fun a _=>by simp[Cn]) (r.Start,[r.Start]) rfl (by omega)
 have e0:((0:Nat):Int)=0:=rfl;simp only[e0] at key;rw[key];have:=lW (nP n) (GN n) (fun a=>some a.2) (fun a=>(.inl a.2:(List Int)⊕(List Int×Bool))) (fun b c=>match b with|some l=>c=.inl l|none=>c=.inr ([],false)) (fun i x a=>by
  unfold nP GN;cases qg n x a
  ·exact .inl ⟨_,rfl,rfl⟩
  ·exact .inr ⟨_,_,rfl,rfl,rfl⟩) (fun a=>rfl) r.Fibers 0 (r.Start,[r.Start])
 revert this
 generalize bB (GN n) (fun a=>(.inl a.2:(List Int)⊕(List Int×Bool))) 0 r.Fibers (r.Start,[r.Start])=c;cases bB (nP n) (fun a=>some a.2) 0 r.Fibers (r.Start,[r.Start]) with
 |none=>intro h;rw[h];rfl
 |some l=>intro h;rw[h];rfl
theorem vu(n:ah)(r:ar)(hN:n.Nodes.length<=1048576)(hF:n.Fibers.length<=1048576)(hr:r.Fibers.length<=1048576):∃o,Bc n r=some (o,(gQ n r).isSome)/\∀l,gQ n r=some l->o=l:=by
 unfold Bc gQ;simp only[iv,Option.bind_some,VB,bnd];rw[aE (n:=(n.Nodes.length:Int)-1) (by omega) (by omega)];have hc:(cond (!wi r.Start 0 ((n.Nodes.length:Int)-1)) (some true) (some (decide (r.Fibers.length=0))):Option Bool)=some (!wi r.Start 0 ((n.Nodes.length:Int)-1)||decide (r.Fibers.length=0)):=by
  cases wi r.Start 0 ((n.Nodes.length:Int)-1)<;>rfl
 rw[hc];simp only[Option.bind_some];rcases bt (!wi r.Start 0 ((n.Nodes.length:Int)-1)||decide (r.Fibers.length=0)) with e|e
 ·rw[e];exact⟨[r.Start],rfl,fun l h=>by simp at h⟩
 rw[e];simp only[cond_false,Bool.false_eq_true,if_false];have key:=cb (f:=M_f n r) r.Fibers (fun i(a:Int×List Int)=>((i:Int),a.2)) (Ih n) (fun a=>.inl a.2) (fun i a=>a.2.length=i+1/\a.2[i]?=some a.1) (fun i a x hx hI=>by
  have hlt:=(List.getElem?_eq_some_iff.1 hx).1;have h1:decide ((i:Int)<r.Fibers.length)=true:=by simp[hlt]
  simp only[M_f,h1,cond_true,aQ,hx,Option.bind_some,iv];have hl1:IntKind.wrap .i64 ((a.2.length:Int)-1)=(i:Int):=by rw[aE (by omega) (by omega)];omega
  rw[aE (n:=(n.Fibers.length:Int)-1) (by omega) (by omega),aE (n:=(i:Int)+1) (by omega) (by omega),hl1];unfold Ih qg;rcases bt (wi x 0 ((n.Fibers.length:Int)-1)) with e1|e1
  ·simp only[e1,Bool.not_true,cond_false,Option.bind_some,Bool.false_or,Int.toNat_natCast,hI.2];rw[aU (by omega)];simp only[Option.bind_some,jN n x a.1 e1,fJ a.2 (dd n x a.1) (by omega)];have hm:(a.2.any fun y=>y==dd n x a.1)=decide (dd n x a.1∈a.2):=by
    rw[Bool.eq_iff_iff];simp
   rw[hm];by_cases h3:dd n x a.1<0
   ·exact .inr ⟨_,by simp[h3];rfl,by simp[h3]⟩
   ·by_cases h4:dd n x a.1∈a.2
    ·exact .inr ⟨_,by simp[h4];rfl,by simp[h3,h4]⟩
    ·refine .inl ⟨(dd n x a.1,a.2++[dd n x a.1]),by simp[h3,h4],⟨by simp[hI.1],by rw[<-hI.1];simp⟩,?_⟩;simp only[decide_eq_false h3,decide_eq_false h4,cond_false,Option.bind_some];rw[aU (by omega)];rfl
  ·exact .inr ⟨_,by simp[e1];rfl,by simp[e1]⟩) (fun a _=>by simp[M_f]) (r.Start,[r.Start]) ⟨rfl,rfl⟩ (by omega)
 have e0:((0:Nat):Int)=0:=rfl;simp only[e0] at key;rw[key];have:=lW (nP n) (Ih n) (fun a=>some a.2) (fun a=>(.inl a.2:(List Int)⊕(List Int×Bool))) (fun b c=>match b with|some l=>c=.inl l|none=>∃o,c=.inr (o,false)) (fun i x a=>by
  unfold nP Ih;cases qg n x a
  ·exact .inl ⟨_,rfl,rfl⟩
  ·exact .inr ⟨_,_,rfl,rfl,_,rfl⟩) (fun a=>rfl) r.Fibers 0 (r.Start,[r.Start])
 revert this
 generalize bB (Ih n) (fun a=>(.inl a.2:(List Int)⊕(List Int×Bool))) 0 r.Fibers (r.Start,[r.Start])=c;cases bB (nP n) (fun a=>some a.2) 0 r.Fibers (r.Start,[r.Start]) with
 |none=>rintro⟨o,h⟩;rw[h];exact⟨o,rfl,fun l h=>by cases h⟩
 |some l=>intro h;rw[h];exact⟨l,rfl,fun l' h=>by cases h;rfl⟩
def HA(n:ah)(r:ar):Bool:=bK n&&(gQ n r).isSome
theorem Kr(n:ah)(r:ar)(hz:bC n<=1048576)(hr:r.Fibers.length<=1048576):wU n r=some (HA n r):=by
 obtain⟨h1,h2,_⟩:=zL hz;unfold wU HA;rw[pf n hz];simp only[Option.bind_some];rcases bt (bK n) with e|e
 ·obtain⟨o,o1,_⟩:=vu n r (by omega) (by omega) hr;rw[e];simp only[Bool.not_true,cond_false,o1,Option.bind_some,Bool.true_and]
 ·rw[e];rfl
theorem rn{n:ah}(hE:∀f∈n.Fibers,f.A<n.Nodes.length/\f.B<n.Nodes.length):∀(xs:List Int)(i:Nat)(a:Int×List Int)(l:List Int),bB (nP n) (fun a=>some a.2) i xs a=some l->a.2.Nodup->(∀v∈a.2,0<=v/\v<(n.Nodes.length:Int))->a.1∈a.2->
 l.Nodup/\(∀v∈l,0<=v/\v<(n.Nodes.length:Int))/\l.length=a.2.length+xs.length/\(∀e∈xs,0<=e/\e<(n.Fibers.length:Int))/\xs.Nodup/\∀e∈xs,∀f,n.Fibers[e.toNat]?=some f->¬(f.A∈a.2/\f.B∈a.2)
 |[],_,a,l,h,hd,hv,_=>by simp only[bB,Option.some.injEq] at h;subst h;exact⟨hd,hv,by simp,by simp,by simp,by simp⟩
 | x :: xs, i, a, l, h, hd, hv, ha => by
   simp only[bB,nP] at h;rcases bt (qg n x a) with e|e
   ·rw[e] at h;cases h
   ·rw[e] at h;simp only[Bool.false_eq_true,if_false] at h;simp only[qg,Bool.or_eq_false_iff,Bool.not_eq_false',decide_eq_false_iff_not,cG] at e;obtain⟨⟨e1,e2⟩,e3⟩:=e;have hi:x.toNat<n.Fibers.length:=by omega
    have hf:=hE _ (List.getElem_mem hi);have hg:=List.getElem?_eq_getElem hi;generalize n.Fibers[x.toNat]=f at hf hg;have ho:dd n x a.1=je f a.1:=by unfold dd;rw[hg]
    have hend:(f.A=a.1/\f.B=dd n x a.1)\/(f.B=a.1/\f.A=dd n x a.1):=by
     rw[ho] at e2⊢;unfold je at e2⊢;split
     ·rename_i h1;exact .inl ⟨h1.symm,rfl⟩
     ·split
      ·rename_i h1;exact .inr ⟨h1.symm,rfl⟩
      ·rename_i h1 h2;simp[h1,h2] at e2
    have hlt:dd n x a.1<n.Nodes.length:=by omega
    obtain⟨g1,g2,g3,g4,g5,g6⟩:=rn hE xs (i+1) _ l h (by
     rw[List.nodup_append];exact⟨hd,by simp,fun u hu v hv=>by simp at hv;subst hv;intro e;subst e;exact e3 hu⟩) (fun v hv2=>by
     simp only[List.mem_append,List.mem_singleton] at hv2;rcases hv2 with h|h
     ·exact hv v h
     ·subst h;exact⟨by omega,hlt⟩) (by simp)
    refine⟨g1,g2,by rw[g3];simp;omega,fun e he=>?_,List.nodup_cons.2 ⟨fun hm=>?_,g5⟩,fun e he f' hf'=>?_⟩
    ·rcases List.mem_cons.1 he with rfl|he
     ·omega
     ·exact g4 e he
    ·refine g6 x hm f hg ?_;simp only[List.mem_append,List.mem_singleton];rcases hend with⟨h1,h2⟩|⟨h1,h2⟩
     ·exact⟨.inl (h1▸ha),.inr h2⟩
     ·exact⟨.inr h2,.inl (h1▸ha)⟩
    ·rcases List.mem_cons.1 he with rfl|he
     ·rw[hg] at hf';cases hf';rcases hend with⟨h1,h2⟩|⟨h1,h2⟩
      ·exact fun h=>e3 (h2▸h.2)
      ·exact fun h=>e3 (h2▸h.1)
     ·exact fun h=>g6 e he f' hf' ⟨List.mem_append_left _ h.1,List.mem_append_left _ h.2⟩
theorem Cf{n:ah}{r:ar}(hE:∀f∈n.Fibers,f.A<n.Nodes.length/\f.B<n.Nodes.length){l:List Int}(h:gQ n r=some l):l.Nodup/\(∀v∈l,0<=v/\v<(n.Nodes.length:Int))/\l.length=r.Fibers.length+1/\(∀e∈r.Fibers,0<=e/\e<(n.Fibers.length:Int))/\r.Fibers.Nodup:=by
 unfold gQ at h;split at h
 ·cases h
 ·rename_i hc;simp only[Bool.or_eq_true,Bool.not_eq_true',decide_eq_true_eq,not_or,Bool.not_eq_false,cG] at hc;obtain⟨g1,g2,g3,g4,g5,_⟩:=rn hE _ _ _ _ h (by simp) (fun v hv=>by simp at hv;subst hv;omega) (by simp);exact⟨g1,g2,by rw[g3];simp;omega,g4,g5⟩
theorem jB:∀(m:Nat)(l:List Int),l.Nodup->(∀x∈l,0<=x/\x<(m:Int))->l.length<=m
 | 0, l, _, h => by
   cases l with
   |nil=>simp
   |cons x l=>have:=h x (by simp);omega
 | m + 1, l, hn, h => by
   by_cases hm:(m:Int)∈l
   ·have:=jB m (l.erase (m:Int)) (hn.erase _) (fun x hx=>by
     have h1:=(hn.mem_erase_iff).1 hx;have:=h x h1.2;have h3:=h1.1;omega)
    rw[List.length_erase_of_mem hm] at this;omega
   ·have:=jB m l hn (fun x hx=>by
     have:=h x hx;have:x≠(m:Int):=fun e=>hm (e▸hx);omega)
    omega
end Vs

namespace Vs
open Go
def gz(l:List Int)(p:Nat):Int:=(l[p]?).getD 0
theorem km{l:List Int}{p:Nat}(h:p<l.length):l[p]?=some (gz l p):=by
 unfold gz;rw[List.getElem?_eq_getElem h];rfl
theorem eT{l:List Int}{p q:Nat}{x:Int}(h:p<l.length):gz (l.set p x) q=if q=p then x else gz l q:=by
 unfold gz;rw[List.getElem?_set];by_cases e:p=q
 ·rw[if_pos e,if_pos h,if_pos e.symm];rfl
 ·rw[if_neg e,if_neg (Ne.symm e)]
theorem He(x y:Int):Lz x y=some (decide (x<y)):=by
 unfold Lz um;simp
theorem AK{l:List Int}{i j:Nat}(hi:i<l.length)(hj:j<l.length):((l.set i (gz l j)).set j (gz l i)).Perm l:=by
 by_cases e:i=j
 ·subst e;have:(l.set i (gz l i)).set i (gz l i)=l:=by
   apply List.ext_getElem?;intro k;rw[List.getElem?_set,List.getElem?_set];by_cases h:i=k
   ·subst h;simp[hi];unfold gz;rw[List.getElem?_eq_getElem hi];rfl
   ·simp[h]
  rw[this]
 ·have g1:gz l j=l[j]:=by unfold gz;rw[List.getElem?_eq_getElem hj];rfl
  have g2:gz l i=l[i]:=by unfold gz;rw[List.getElem?_eq_getElem hi];rfl
  rw[g1,g2];exact List.set_set_perm hi hj
def SrtI(i j:Nat)(l:List Int):Prop:=(∀p q,p<q->q<=i->p≠j->q≠j->gz l p<=gz l q)/\∀q,j<q->q<=i->gz l j<=gz l q
def Cm(n:Nat)(l:List Int):Prop:=∀p q,p<q->q<n->gz l p<=gz l q
theorem Ee(n i:Nat)(l0:List Int)(hl:l0.length=n)(hn:n<=1048576)(hi:i<n)(hs:Cm i l0):
 ∃l,bn (M_n 0) N0 ((i:Int),l0)=some l/\l.Perm l0/\Cm (i+1) l:=by
 refine bv (f:=M_n 0) (fun s=>∃j:Nat,s.1=j/\j<=i/\s.2.length=n/\s.2.Perm l0/\SrtI i j s.2) (fun s=>s.1.toNat) (fun l=>l.Perm l0/\Cm (i+1) l) (fun s hI=>?_) N0 ((i:Int),l0)
  ⟨i,rfl,Nat.le_refl _,hl,List.Perm.refl _,fun p q h1 h2 h3 h4=>hs p q h1 (by omega),fun q h1 h2=>by omega⟩ (cw (by simp;omega))
 obtain⟨j',l⟩:=s;obtain⟨j,rfl,hj,hll,hp,hA,hB⟩:=hI;simp only at hll hp hA hB;by_cases h0:0<j
 ·have e1:decide ((0:Int)<(j:Int))=true:=decide_eq_true (by omega);have ew:IntKind.wrap .i64 ((j:Int)-1)=((j-1:Nat):Int):=by rw[aE (by omega) (by omega)];omega
  have g1:l[j]?=some (gz l j):=km (by omega);have g2:l[j-1]?=some (gz l (j-1)):=km (by omega);have d1:grd (0<=(j:Int)/\(j:Int)<(l.length:Int))=some ():=aU (by omega);have d2:grd (0<=((j-1:Nat):Int)/\((j-1:Nat):Int)<(l.length:Int))=some ():=aU (by omega);by_cases hlt:gz l j<gz l (j-1)
  ·left;have e2:decide (gz l j<gz l (j-1))=true:=decide_eq_true hlt;have g3:(l.set j (gz l (j-1)))[j-1]?=some (gz l (j-1)):=by
    rw[List.getElem?_set,if_neg (by omega)];exact g2
   refine⟨(((j-1:Nat):Int),(l.set j (gz l (j-1))).set (j-1) (gz l j)),?_,⟨j-1,rfl,by omega,by simp[hll],?_,?_,?_⟩,?_⟩
   ·simp only[M_n,e1,cond_true,Int.toNat_natCast,ew,d1,d2,g1,g2,He,e2,Option.bind_some,bnd,g3]
   ·exact(AK (by omega) (by omega)).trans hp
   ·intro p q h1 h2 h3 h4;simp only at*
    rw[eT (by simp;omega),eT (by omega),eT (by simp;omega),eT (by omega),if_neg h3,if_neg h4];by_cases c1:p=j
    ·rw[if_pos c1,if_neg (by omega)];exact hA (j-1) q (by omega) h2 (by omega) (by omega)
    ·rw[if_neg c1];by_cases c2:q=j
     ·rw[if_pos c2];exact hA p (j-1) (by omega) (by omega) c1 (by omega)
     ·rw[if_neg c2];exact hA p q h1 h2 c1 c2
   ·intro q h1 h2;simp only at*
    rw[eT (by simp;omega),if_pos rfl,eT (by simp;omega),if_neg (by omega),eT (by omega)];by_cases c2:q=j
    ·rw[if_pos c2];omega
    ·rw[if_neg c2];exact hB q (by omega) h2
   ·simp only[Int.toNat_natCast];omega
  ·right;have e2:decide (gz l j<gz l (j-1))=false:=decide_eq_false hlt;refine⟨l,?_,hp,?_⟩
   ·simp only[M_n,e1,cond_true,Int.toNat_natCast,ew,d1,d2,g1,g2,Option.bind_some,He,e2,cond_false]
   ·intro p q h1 h2;by_cases c1:p=j
    ·rw[c1];exact hB q (by omega) (by omega)
    ·by_cases c2:q=j
     ·rw[c2];by_cases c3:p=j-1
      ·rw[c3];omega
      ·have:=hA p (j-1) (by omega) (by omega) c1 (by omega);omega
     ·exact hA p q h1 (by omega) c1 c2
 ·right;have e1:decide ((0:Int)<(j:Int))=false:=decide_eq_false (by omega);refine⟨l,by simp only[M_n,e1,cond_false,Option.bind_some],hp,fun p q h1 h2=>?_⟩;by_cases c1:p=j
  ·rw[c1];exact hB q (by omega) (by omega)
  ·exact hA p q h1 (by omega) c1 (by omega)
theorem PN(n:Nat)(xs:List Int)(hl:xs.length=n)(hn:n<=1048576):∃l,EI 0 (n:Int) xs=some l/\l.Perm xs/\Cm n l:=by
 unfold EI;obtain⟨l,h1,h2,h3⟩:=bv (f:=M_s 0 (n:Int)) (fun s=>∃i:Nat,s.1=i/\1<=i/\i<=n+1/\s.2.length=n/\s.2.Perm xs/\Cm i s.2) (fun s=>n+1-s.1.toNat) (fun l=>l.Perm xs/\Cm n l) (fun s hI=>by
  obtain⟨i',l⟩:=s;obtain⟨i,rfl,h0,hi,hll,hp,hs⟩:=hI;simp only at hll hp hs;by_cases h:i<n
  ·left;have e1:decide ((i:Int)<(n:Int))=true:=decide_eq_true (by omega);obtain⟨l',g1,g2,g3⟩:=Ee n i l hll hn h hs;refine⟨(((i+1:Nat):Int),l'),?_,⟨i+1,rfl,by omega,by omega,by rw[g2.length_eq];exact hll,g2.trans hp,g3⟩,by simp only[Int.toNat_natCast];omega⟩;simp only[M_s,e1,cond_true,g1,Option.bind_some];rw[aE (by omega) (by omega)];rfl
  ·right;have e1:decide ((i:Int)<(n:Int))=false:=decide_eq_false (by omega);exact⟨l,by simp only[M_s,e1,cond_false],hp,fun p q h1 h2=>hs p q h1 (by omega)⟩) N0 (((1:Nat):Int),xs) ⟨1,rfl,by omega,by omega,hl,List.Perm.refl _,fun p q h1 h2=>by omega⟩ (cw (by simp;omega))
 refine⟨l,?_,h2,h3⟩;have e:IntKind.wrap .i64 ((0:Int)+1)=((1:Nat):Int):=by rw[aE (by omega) (by omega)];rfl
 rw[e,h1];rfl
theorem Ct:∀n:Fin 13,(Mi (IntKind.wrap .u64 (n.val:Int))).isSome=true:=by decide+kernel
theorem QL(xs:List Int)(h:xs.length<=12):∃l,KN xs=some l/\l.Perm xs/\l.Pairwise (·<=·):=by
 obtain⟨l,h1,h2,h3⟩:=PN xs.length xs rfl (by omega);refine⟨l,?_,h2,?_⟩
 ·have hb:=Ct ⟨xs.length,by omega⟩;simp only at hb;unfold KN;cases hx:Mi (IntKind.wrap .u64 (xs.length:Int)) with
  |none=>rw[hx] at hb;cases hb
  | some r =>
    simp only[Option.bind_some];unfold Oc;have hN:N0=(N0-1)+1:=by unfold N0;omega
    rw[hN,bn];have e1:decide (IntKind.wrap .i64 ((xs.length:Int)-0)<=12)=true:=by rw[aE (by omega) (by omega)];exact decide_eq_true (by omega)
    simp only[Nd,e1,cond_true,h1,Option.bind_some]
 ·rw[List.pairwise_iff_getElem];intro i j hi hj hij;have:=h3 i j hij (by rw[<-h2.length_eq];exact hj);unfold gz at this;rw[List.getElem?_eq_getElem hi,List.getElem?_eq_getElem hj] at this;exact this
end Vs

namespace Vs
open Go
def Py(a aL:List Int):List Int:=a.filter fun x=>decide (x∈aL)
theorem oA(p:Int->Bool):∀(xs:List Int)(i:Nat)(l:List Int),bB (fun(_:Nat)(x:Int)(l:List Int)=>(.inl (if p x then l++[x] else l):List Int⊕List Int)) (fun l=>l) i xs l=l++xs.filter p
 |[],_,l=>by simp[bB]
 | x :: xs, i, l => by
   simp only[bB];rw[oA p xs (i+1)];by_cases h:p x=true
   ·simp[h]
   ·simp[h]
theorem Tb(a aL:List Int)(ha:a.length<=1048576)(hg:aL.length<=1048576):bn (wt a aL) N0 (0,[])=some (Py a aL):=by
 have key:=cb (f:=wt a aL) a (fun i(l:List Int)=>((i:Int),l)) (fun _ x l=>.inl (if decide (x∈aL) then l++[x] else l)) (fun l=>l) (fun i l=>l.length<=i) (fun i l x hx hI=>by
  have hlt:=(List.getElem?_eq_some_iff.1 hx).1;have h1:decide ((i:Int)<a.length)=true:=by simp[hlt]
  refine .inl ⟨_,rfl,by split<;>(try simp only[List.length_append,List.length_cons,List.length_nil])<;>omega,?_⟩;simp only[wt,h1,cond_true,aQ,hx,Option.bind_some,nk aL x hg,bnd];rw[aE (n:=(i:Int)+1) (by omega) (by omega)];by_cases h:x∈aL
  ·rw[decide_eq_true h,cond_true,aU (by omega),if_pos rfl];rfl
  ·rw[decide_eq_false h,cond_false,if_neg (by simp)];rfl) (fun l _=>by simp[wt]) [] (Nat.le_refl 0) (by omega)
 have e0:((0:Nat):Int)=0:=rfl;simp only[e0] at key;rw[key,oA];rfl
def ddp(ys:List Int):Nat->List Int
 |0=>[]
 |j+1=>if 0<j/\ys[j]?=ys[j-1]? then ddp ys j else ddp ys j++(ys[j]?).toList
theorem oy(ys:List Int):∀k,(∀i,1<=i->i<k->ys[i]?≠ys[i-1]?)->ddp ys k=ys.take k
 |0,_=>by simp[ddp]
 | k + 1, h => by
   unfold ddp;rw[if_neg (fun e=>h k (by omega) (by omega) e.2),oy ys k (fun i h1 h2=>h i h1 (by omega)),List.take_add_one]
theorem Ay{l:List Int}{k:Nat}(y:Int)(h:k<l.length):(l.set k y).take (k+1)=l.take k++[y]:=by
 rw[List.take_add_one,List.getElem?_set_self h,List.take_set_of_le (Nat.le_refl k)];rfl
theorem nG{ys:List Int}(hs:ys.Pairwise (·<=·)):∀j,j<=ys.length->(ddp ys j).Pairwise (·<·)/\(∀x∈ddp ys j,∀y,ys[j-1]?=some y->x<=y)/\∀x,x∈ddp ys j↔x∈ys.take j
 |0,_=>by simp[ddp]
 | j + 1, h => by
   obtain⟨h1,h2,h3⟩:=nG hs j (by omega);have hy:ys[j]?=some (ys[j]'(by omega)):=List.getElem?_eq_getElem (by omega);generalize ys[j]'(by omega)=y at hy;unfold ddp;rw[List.take_add_one,hy];by_cases c:0<j/\some y=ys[j-1]?
   ·rw[if_pos c];refine⟨h1,fun x hx z hz=>?_,fun x=>?_⟩
    ·simp only[Nat.add_sub_cancel,hy,Option.some.injEq] at hz;subst hz;exact h2 x hx y c.2.symm
    ·have hm:y∈ys.take j:=by
      rw[List.mem_take_iff_getElem];obtain⟨q1,q2⟩:=List.getElem?_eq_some_iff.1 c.2.symm;exact⟨j-1,by omega,q2⟩
     simp only[Option.toList_some,List.mem_append,List.mem_singleton,h3];exact⟨.inl,fun q=>q.elim id fun e=>e▸hm⟩
   ·rw[if_neg c];have hlt:∀x∈ddp ys j,x<y:=fun x hx=>by
     by_cases hj:0<j
     ·have hz:ys[j-1]?=some (ys[j-1]'(by omega)):=List.getElem?_eq_getElem (by omega);have:=h2 x hx _ hz;have h5:ys[j-1]'(by omega)<=ys[j]'(by omega):=List.pairwise_iff_getElem.1 hs (j-1) j (by omega) (by omega) (by omega);have h6:ys[j]'(by omega)=y:=(List.getElem?_eq_some_iff.1 hy).2;have h7:ys[j-1]'(by omega)≠y:=fun e=>c ⟨hj,by rw[hz,e]⟩;omega
     ·have:j=0:=by omega
      subst this;simp[ddp] at hx
    refine⟨?_,fun x hx z hz=>?_,fun x=>?_⟩
    ·rw[List.pairwise_append];exact⟨h1,by simp,fun a ha b hb=>by simp at hb;subst hb;exact hlt a ha⟩
    ·simp only[Nat.add_sub_cancel,hy,Option.some.injEq] at hz;subst hz;simp only[Option.toList_some,List.mem_append,List.mem_singleton] at hx;rcases hx with hx|hx
     ·have:=hlt x hx;omega
     ·omega
    ·simp only[List.mem_append,h3]
theorem ER(ys:List Int)(hl:ys.length<=1048576)(k0:Nat)(h0:1<=k0)(hk:k0<ys.length)(hd:ddp ys (k0+1)=ys.take k0):
 ∃(k:Nat)(l:List Int),bn (M_w 0 ys.length (k0:Int)) N0 ((k0:Int),1,ys)=some ((k:Int),l)/\l.length=ys.length/\k<=ys.length/\l.take k=ddp ys ys.length:=by
 obtain⟨o,o1,o2⟩:=bv (f:=M_w 0 ys.length (k0:Int)) (fun s=>∃(k k2:Nat)(l:List Int),s=((k:Int),(k2:Int),l)/\1<=k2/\k0+k2<=ys.length/\l.length=ys.length/\k+1<=k0+k2/\(∀p,k0+k2<=p+1->l[p]?=ys[p]?)/\l.take k=ddp ys (k0+k2))
  (fun s=>ys.length-s.2.1.toNat) (fun o=>∃(k:Nat)(l:List Int),o=((k:Int),l)/\l.length=ys.length/\k<=ys.length/\l.take k=ddp ys ys.length) (fun s hI=>by
  obtain⟨k,k2,l,rfl,i1,i2,i3,i4,i5,i6⟩:=hI;by_cases hc:k0+k2<ys.length
  ·left;have e1:decide ((k2:Int)<((ys.length-k0:Nat):Int))=true:=decide_eq_true (by omega);have ew:IntKind.wrap .i64 ((k2:Int)-1)=((k2-1:Nat):Int):=by rw[aE (by omega) (by omega)];omega
   have g1:l[0+k0+k2]?=some (ys[k0+k2]'hc):=by rw[Nat.zero_add,i5 _ (by omega)];exact List.getElem?_eq_getElem hc
   have g2:l[0+k0+(k2-1)]?=some (ys[k0+k2-1]'(by omega)):=by
    rw[show 0+k0+(k2-1)=k0+k2-1 by omega,i5 _ (by omega)];exact List.getElem?_eq_getElem (by omega)
   have g3:l[0+k]?=some (l[k]'(by omega)):=by rw[Nat.zero_add];exact List.getElem?_eq_getElem (by omega)
   have hddp:ddp ys (k0+k2+1)=if ys[k0+k2]'hc=ys[k0+k2-1]'(by omega) then ddp ys (k0+k2) else ddp ys (k0+k2)++[ys[k0+k2]'hc]:=by
    rw[ddp,List.getElem?_eq_getElem hc,List.getElem?_eq_getElem (show k0+k2-1<ys.length by omega)];by_cases e:ys[k0+k2]'hc=ys[k0+k2-1]'(by omega)
    ·rw[if_pos ⟨by omega,by rw[e]⟩,if_pos e]
    ·rw[if_neg (fun q=>e (Option.some.inj q.2)),if_neg e];rfl
   simp only[M_w,Int.toNat_natCast,e1,cond_true,ew,g1,g2,g3];rw[aU (by omega),aU (by omega),aU (by omega)];simp only[Option.bind_some,bnd];rw[aE (n:=(k:Int)+1) (by omega) (by omega),aE (n:=(k2:Int)+1) (by omega) (by omega)];by_cases e:ys[k0+k2]'hc=ys[k0+k2-1]'(by omega)
   ·rw[if_pos e] at hddp;rw[show(ys[k0+k2]'hc !=ys[k0+k2-1]'(by omega))=false by simpa using e,cond_false];exact⟨_,rfl,⟨k,k2+1,l,by simp,by omega,by omega,i3,by omega,fun p hp=>i5 p (by omega),by rw[show k0+(k2+1)=k0+k2+1 by omega,hddp];exact i6⟩,by simp only[];omega⟩
   ·rw[if_neg e] at hddp;rw[show(ys[k0+k2]'hc !=ys[k0+k2-1]'(by omega))=true by simpa using e,cond_true];refine⟨_,rfl,⟨k+1,k2+1,l.set k (ys[k0+k2]'hc),by simp,by omega,by omega,by simpa using i3,by omega,fun p hp=>?_,?_⟩,by simp only[];omega⟩
    ·rw[List.getElem?_set_ne (by omega)];exact i5 p (by omega)
    ·rw[show k0+(k2+1)=k0+k2+1 by omega,hddp,Ay _ (by omega),i6]
  ·right;have e1:decide ((k2:Int)<((ys.length-k0:Nat):Int))=false:=decide_eq_false (by omega);refine⟨_,by simp only[M_w,Int.toNat_natCast,e1,cond_false],k,l,rfl,i3,by omega,?_⟩;rw[i6,show k0+k2=ys.length by omega]) N0 ((k0:Int),((1:Nat):Int),ys) ⟨k0,1,ys,rfl,by omega,by omega,rfl,by omega,fun p _=>rfl,hd.symm⟩ (cw (by simp;omega))
 obtain⟨k,l,rfl,q1,q2,q3⟩:=o2;exact⟨k,l,o1,q1,q2,q3⟩
theorem CX(ys:List Int)(hl:ys.length<=1048576):∃k l,Fd 0 ys.length ys=some (0,k,l)/\dt l 0 k=ddp ys ys.length:=by
 unfold Fd;by_cases h:(ys.length:Int)<2
 ·rw[decide_eq_true h,cond_true];refine⟨_,_,rfl,?_⟩;rw[eG,oy ys _ (fun i h1 h2=>by omega),List.take_length]
 rw[decide_eq_false h,cond_false];obtain⟨o,o1,o2⟩:=bv (f:=CL 0 ys.length ys) (fun s=>∃i:Nat,s=i/\1<=i/\i<=ys.length/\ddp ys i=ys.take i) (fun s=>ys.length-s.toNat)
  (fun o=>(o=.inl ()/\ddp ys ys.length=ys)\/∃k l,o=.inr (0,k,l)/\dt l 0 k=ddp ys ys.length) (fun s hI=>by
  obtain⟨i,rfl,h1,h2,h3⟩:=hI;by_cases hi:i<ys.length
  ·have e1:decide ((i:Int)<(ys.length:Int))=true:=decide_eq_true (by omega);have ew:IntKind.wrap .i64 ((i:Int)-1)=((i-1:Nat):Int):=by rw[aE (by omega) (by omega)];omega
   have g1:ys[0+i]?=some (ys[i]'hi):=by rw[Nat.zero_add];exact List.getElem?_eq_getElem hi
   have g2:ys[0+(i-1)]?=some (ys[i-1]'(by omega)):=by rw[Nat.zero_add];exact List.getElem?_eq_getElem (by omega)
   simp only[CL,e1,cond_true,Int.toNat_natCast,g1,ew,g2];rw[aU (by omega),aU (by omega)];simp only[Option.bind_some];by_cases e:ys[i]'hi=ys[i-1]'(by omega)
   ·right;have hd:ddp ys (i+1)=ys.take i:=by
     rw[ddp,if_pos ⟨by omega,by rw[List.getElem?_eq_getElem hi,List.getElem?_eq_getElem (show i-1<ys.length by omega),e]⟩,h3]
    obtain⟨k,l,k1,k2,k3,k4⟩:=ER ys hl i h1 hi hd;rw[show(ys[i]'hi==ys[i-1]'(by omega))=true by simpa using e,cond_true];simp only[Int.toNat_natCast,and_true,true_and];rw[aU (by omega)];simp only[Option.bind_some,k1,bnd,Int.toNat_natCast,and_true,true_and];rw[aU (by omega)];simp only[Option.bind_some];refine⟨_,rfl,.inr ⟨k,_,rfl,?_⟩⟩;rw[<-k4,eB,List.drop_zero];unfold fq;rw[if_pos (by simp;omega),Nat.zero_add];rw[List.append_assoc,List.take_append_of_le_length (by simp;omega),List.take_take,Nat.min_self]
   ·left;rw[show(ys[i]'hi==ys[i-1]'(by omega))=false by simpa using e,cond_false,aE (by omega) (by omega)];refine⟨_,rfl,⟨i+1,rfl,by omega,by omega,?_⟩,by omega⟩;rw[ddp,if_neg (fun q=>e (by
     have:=q.2;rw[List.getElem?_eq_getElem hi,List.getElem?_eq_getElem (show i-1<ys.length by omega)] at this;exact Option.some.inj this)),h3,List.take_add_one]
  ·right;have e1:decide ((i:Int)<(ys.length:Int))=false:=decide_eq_false (by omega);refine⟨_,by simp only[CL,e1,cond_false],.inl ⟨rfl,?_⟩⟩;rw[show ys.length=i by omega,h3,show i=ys.length by omega,List.take_length]) N0 ((1:Nat):Int) ⟨1,rfl,by omega,by omega,by
    rw[oy ys 1 (fun i h1 h2=>by omega)]⟩ (cw (by simp;omega))
 have e1:((1:Nat):Int)=1:=rfl;rw[e1] at o1;rw[o1];rcases o2 with⟨rfl,q⟩|⟨k,l,rfl,q⟩
 ·exact⟨_,_,rfl,by rw[eG,q]⟩
 ·exact⟨k,l,rfl,q⟩
theorem kU(a aL:List Int)(ha:a.length<=12)(hg:aL.length<=1048576):∃l,tL a aL=some l/\l.Pairwise (·<·)/\∀x,x∈l↔x∈a/\x∈aL:=by
 unfold tL;have hc:(Py a aL).length<=a.length:=List.length_filter_le ..;rw[Tb a aL (by omega) hg];simp only[Option.bind_some];obtain⟨l,l1,l2,l3⟩:=QL (Py a aL) (by omega);have hln:=l2.length_eq;obtain⟨k,l',k1,k2⟩:=CX l (by omega);rw[l1];simp only[Option.bind_some];rw[<-hln,k1];simp only[Option.bind_some,bnd,k2];obtain⟨s1,_,s3⟩:=nG l3 l.length (Nat.le_refl _);refine⟨_,rfl,s1,fun x=>?_⟩;rw[s3,List.take_length,l2.mem_iff];simp[Py]
def cN(a aL:List Int):Bool:=!a.any fun x=>decide (x∈aL)
theorem zG{a aL l:List Int}(h:∀x,x∈l↔x∈a/\x∈aL):((l.length:Int)==0)=cN a aL:=by
 rw[Bool.eq_iff_iff];simp only[beq_iff_eq,cN,Bool.not_eq_true',List.any_eq_false,decide_eq_true_eq];constructor
 ·intro e x hx hg;have:=(h x).2 ⟨hx,hg⟩;have h0:l=[]:=List.length_eq_zero_iff.1 (by omega);rw[h0] at this;cases this
 ·intro hn;cases l with
  |nil=>rfl
  |cons x l=>exact(hn x ((h x).1 (by simp)).1 ((h x).1 (by simp)).2).elim
theorem wj{a aL l:List Int}(h:∀x,x∈l↔x∈a/\x∈aL):decide ((0:Int)<(l.length:Int))=!cN a aL:=by
 rw[<-zG h,Bool.eq_iff_iff];simp only[decide_eq_true_eq,Bool.not_eq_true',beq_eq_false_iff_ne];omega
end Vs

namespace Vs
open Go
def fm(b:aH):Bool:=wi b.First 0 23&&wi b.Count 1 (24-b.First)
theorem Jk(b:aH):AR b=some (fm b):=by
 unfold AR fm;simp only[iv,Option.bind_some];rcases bt (wi b.First 0 23) with e|e
 ·have:=cG.1 e;rw[e,cond_true,aE (by omega) (by omega),Bool.true_and]
 ·rw[e];rfl
theorem nF(b:aH):Ch b=some (fm b):=by
 unfold Ch fm;simp only[eP,Option.bind_some];by_cases h1:0<=b.First
 ·rw[decide_eq_true h1,cond_true];rcases bt (wi b.Count 1 24) with e|e
  ·have:=cG.1 e;rw[e,cond_true,aE (by omega) (by omega)];congr 1;rw[Bool.eq_iff_iff];simp only[decide_eq_true_eq,Bool.and_eq_true,cG];omega
  ·rw[e,cond_false];congr 1;symm;rw[Bool.eq_false_iff];intro h;simp only[Bool.and_eq_true,cG] at h;have:=nA.1 e;omega
 ·rw[decide_eq_false h1,cond_false];congr 1;symm;rw[Bool.eq_false_iff];intro h;simp only[Bool.and_eq_true,cG] at h;omega
def dw(b:aH):Prop:=(0<=b.First/\b.First<=24)/\0<=b.Count/\b.Count<=24
theorem wD{b:aH}(h:fm b=true):dw b:=by
 unfold fm at h;simp only[Bool.and_eq_true,cG] at h;unfold dw;omega
def dj(b:aH):Int:=IntKind.wrap .i64 ((IntKind.wrap .i64 ((IntKind.wrap .i64 (1*2^(min (Int.toNat b.Count) (IntKind.bits .i64))))-1))*2^(min (Int.toNat b.First) (IntKind.bits .i64)))
theorem pq{b:aH}(h:dw b):wB b=some (dj b):=by
 unfold wB;rw[aU h.2.1];simp only[Option.bind_some];rw[aU h.1.1];rfl
theorem lF{b:aH}(h:dw b):vl b=some (dj b):=by
 unfold vl;have h1:=h.1;have h2:=h.2;rw[sU (n:=b.Count) (by omega) (by omega),sU (n:=b.First) (by omega) (by omega),aU h2.1];simp only[Option.bind_some];rw[aU h1.1];rfl
theorem Sv{b:aH}(h:b.Count=0):dj b=0:=by
 unfold dj;have:IntKind.wrap .i64 (1*2^(min (Int.toNat b.Count) (IntKind.bits .i64)))=1:=by rw[h];rfl
 rw[this];have:IntKind.wrap .i64 (1-1:Int)=0:=rfl;rw[this,Int.zero_mul];rfl
theorem and0(y:Int):bits .and .i64 0 y=0:=by
 show IntKind.wrap .i64 ((BitVec.ofInt 64 0 &&& BitVec.ofInt 64 y).toNat:Int)=0;have:BitVec.ofInt 64 0=0#64:=rfl;rw[this,BitVec.zero_and];rfl
theorem nw(x y:Int):bits .and .i64 x y=bits .and .i64 y x:=by
 show IntKind.wrap .i64 ((BitVec.ofInt 64 x &&& BitVec.ofInt 64 y).toNat:Int)=IntKind.wrap .i64 ((BitVec.ofInt 64 y &&& BitVec.ofInt 64 x).toNat:Int);rw[BitVec.and_comm]
theorem py(r:ar)(g:List Int)(hr:r.Fibers.length<=1048576)(hg:g.length<=1048576):wg r g=some (!cN r.Fibers g):=by
 unfold wg;rw[gb (f:=DF r g) r.Fibers (fun x=>decide (x∈g)) (.inr true) (.inl ()) (fun i y hy=>by
  have hlt:=(List.getElem?_eq_some_iff.1 hy).1;have h1:decide ((i:Int)<r.Fibers.length)=true:=by simp[hlt]
  simp only[DF,h1,cond_true,aQ,hy,Option.bind_some,fJ g y hg,<-kS];rw[aE (by omega) (by omega)];cases decide (y∈g)<;>rfl) (by simp[DF]) (by omega)]
 unfold cN;rw[Bool.not_not];cases(r.Fibers.any fun x=>decide (x∈g))<;>rfl
def bW(a:ar)(x:aH)(b:ar)(y:aH):Bool:=(bits .and .i64 (dj x) (dj y) !=0)&&!cN a.Fibers b.Fibers
theorem Cv(a b:List Int):cN a b=cN b a:=by
 unfold cN;congr 1;rw[Bool.eq_iff_iff];simp only[List.any_eq_true,decide_eq_true_eq];exact⟨fun⟨x,h1,h2⟩=>⟨x,h2,h1⟩,fun⟨x,h1,h2⟩=>⟨x,h2,h1⟩⟩
theorem kJ(a:ar)(x:aH)(b:ar)(y:aH):bW a x b y=bW b y a x:=by
 unfold bW;rw[nw,Cv]
theorem gP(a:ar)(x:aH)(b:ar)(y:aH)(ha:a.Fibers.length<=12)(hb:b.Fibers.length<=1048576)(hx:dw x)(hy:dw y):sI a x b y=some (bW a x b y):=by
 unfold sI QW bW;obtain⟨l,l1,_,l3⟩:=kU a.Fibers b.Fibers ha hb;simp only[pq hx,pq hy,Option.bind_some,l1,wj l3];cases bits .and .i64 (dj x) (dj y) !=0<;>rfl
theorem dm(a:ar)(x:aH)(b:ar)(y:aH)(ha:a.Fibers.length<=1048576)(hb:b.Fibers.length<=1048576)(hx:dw x)(hy:dw y):sN a x b y=some (bW a x b y):=by
 unfold sN bW;simp only[py a b.Fibers ha hb,lF hx,lF hy,Option.bind_some];have h1:=hx.2.1;have h2:=hy.2.1;rcases bt (cN a.Fibers b.Fibers) with e|e
 ·rw[e];simp
 ·rw[e];simp only[Bool.not_false,cond_true,Bool.and_true];by_cases c1:0<x.Count
  ·rw[decide_eq_true c1,cond_true];by_cases c2:0<y.Count
   ·rw[decide_eq_true c2,cond_true]
   ·rw[decide_eq_false c2,cond_false,Sv (b:=y) (by omega),nw,and0];rfl
  ·rw[decide_eq_false c1,cond_false,Sv (b:=x) (by omega),and0];rfl
theorem xh(xs:List (List Int))(f:List Int->Option Bool)(p:List Int->Bool)(hf:∀x∈xs,f x=some (p x))(hl:xs.length<=1048576):My xs f=some (match dA (fun _ x=>p x) xs with|some q=>(q.1:Int)|none=>-1):=by
 unfold My;rw[dF (f:=DU xs f) xs (fun _ x=>p x) (fun i _=>(i:Int)) () (fun i x hx _=>by
  have hlt:=(List.getElem?_eq_some_iff.1 hx).1;have h1:decide ((i:Int)<xs.length)=true:=by simp[hlt]
  simp only[DU,h1,cond_true,aQ,hx,Option.bind_some,hf x (List.mem_of_getElem? hx)];rw[aE (by omega) (by omega)];cases p x<;>rfl) (by simp[DU]) (by omega)]
 cases dA (fun _ x=>p x) xs<;>rfl
theorem AI(n:ah)(e:Int)(h:n.Fibers.length<=14):JL n e=some (lg n e):=by
 unfold JL lg;have hg:=eY h;have hK:=fg n h;rw[jx n h];simp only[Option.bind_some];rw[xh (aX n) (fun x0=>MN x0 e) (fun g=>decide (e∈g)) (fun x hx=>by
  unfold MN;rw[nk x e (by have:=(hg x hx).1;omega)];rfl) (by omega)]
 rfl
theorem qr(n:ah)(l:List Int)(h:n.Fibers.length<=14)(hl:l.length<=1048576):Dj n l=some (l.map (lg n)):=by
 unfold Dj;have:=cb (f:=Cx n l) l (fun i(a:List Int)=>((i:Int),a)) (fun _ x a=>.inl (a++[lg n x])) (fun a=>a) (fun i a=>a.length<=i) (fun i a x hx hI=>by
  have hlt:=(List.getElem?_eq_some_iff.1 hx).1;have h1:decide ((i:Int)<l.length)=true:=by simp[hlt]
  refine .inl ⟨_,rfl,by simp;omega,?_⟩;simp only[Cx,h1,cond_true,aQ,hx,Option.bind_some,AI n x h,bnd];rw[aU (by omega),aE (by omega) (by omega)];rfl) (fun a _=>by simp[Cx]) [] (Nat.le_refl 0) (by omega)
 have e0:((0:Nat):Int)=0:=rfl;simp only[e0] at this;rw[this];have gen:∀(xs:List Int)(i:Nat)(a:List Int),bB (fun(_:Nat) x(a:List Int)=>(.inl (a++[lg n x]):List Int⊕List Int)) (fun a=>a) i xs a=a++xs.map (lg n):=by
  intro xs;induction xs with
  |nil=>intro i a;simp[bB]
  |cons x xs ih=>intro i a;simp only[bB];rw[ih];simp
 rw[gen];rfl
theorem Am(n:ah)(a b:List Int)(h:bK n=true)(ha:a.length<=12)(hb:b.length<=1048576)(fa:∀x∈a,iV n x)(fb:∀x∈b,iV n x):Dn n a b=some (apP n a b):=by
 have hn:=(cC h).2.2;unfold Dn;obtain⟨l,l1,_,l3⟩:=kU (a.map (lg n)) (b.map (lg n)) (by simpa using ha) (by simpa using hb);simp only[qr n a hn (by omega),qr n b hn hb,Option.bind_some,l1,zG l3];rw[<-BK h fa fb];rfl
theorem vP(n:ah)(e:Int)(h:n.Fibers.length<=14)(he:iV n e):pO n e=some (jZ n e):=by
 obtain⟨f,f1,f2⟩:=sY he;have e0:e=(e.toNat:Int):=by have:=he.1;omega
 unfold jZ;rw[f2];by_cases h0:f.Risk=0
 ·rw[if_pos h0];unfold pO;have hg:bw n.Fibers e=some f:=by rw[e0,aQ];exact f1
  simp only[hg,Option.bind_some,bnd];rw[show(f.Risk==0)=true by simpa using h0,cond_true]
 ·rw[if_neg h0];have:=ro n h e.toNat f f1 h0;rw[<-e0] at this;exact this
theorem jW(n:ah)(a b:ar)(h:n.Fibers.length<=14)(ha:a.Fibers.length<=1048576)(hb:b.Fibers.length<=1048576)(fa:∀x∈a.Fibers,iV n x):sF n a b=some (apP n a.Fibers b.Fibers):=by
 unfold sF;rw[gb (f:=Ce n a b) a.Fibers (fun x=>b.Fibers.any fun y=>decide (y∈jZ n x)) (.inr false) (.inl ()) (fun i x hx=>by
  have hlt:=(List.getElem?_eq_some_iff.1 hx).1;have h1:decide ((i:Int)<a.Fibers.length)=true:=by simp[hlt]
  have hgl:(jZ n x).length<=1048576:=by
   unfold jZ;split
   ·simp
   ·have:=lH (gA n x) n.Fibers 0;omega
  simp only[Ce,h1,cond_true,aQ,hx,Option.bind_some,vP n x h (fa x (List.mem_of_getElem? hx))];rw[gb (f:=Bk b (jZ n x)) b.Fibers (fun y=>decide (y∈jZ n x)) (.inr false) (.inl ()) (fun j y hy=>by
   have hlt:=(List.getElem?_eq_some_iff.1 hy).1;have h1:decide ((j:Int)<b.Fibers.length)=true:=by simp[hlt]
   simp only[Bk,h1,cond_true,aQ,hy,Option.bind_some,fJ (jZ n x) y hgl,<-kS];rw[aE (by omega) (by omega)];cases decide (y∈jZ n x)<;>rfl) (by simp[Bk]) (by omega),aE (by omega) (by omega)]
  cases(b.Fibers.any fun y=>decide (y∈jZ n x))<;>rfl) (by simp[Ce]) (by omega)]
 unfold apP;cases(a.Fibers.any fun x=>b.Fibers.any fun y=>decide (y∈jZ n x))<;>rfl
end Vs

namespace Vs
open Go
theorem yw{n:ah}:∀(xs:List Int)(i:Nat)(a:Int×List Int)(l:List Int),bB (nP n) (fun a=>some a.2) i xs a=some l->∃t,l=a.2++t
 |[],_,a,l,h=>by simp only[bB,Option.some.injEq] at h;subst h;exact⟨[],by simp⟩
 | x :: xs, i, a, l, h => by
   simp only[bB,nP] at h;rcases bt (qg n x a) with e|e
   ·rw[e] at h;cases h
   ·rw[e] at h;simp only[Bool.false_eq_true,if_false] at h;obtain⟨t,ht⟩:=yw xs (i+1) _ l h;exact⟨dd n x a.1::t,by rw[ht];simp⟩
theorem tP{n:ah}{r:ar}{l:List Int}(h:gQ n r=some l):l[0]?=some r.Start:=by
 unfold gQ at h;split at h
 ·cases h
 ·obtain⟨t,ht⟩:=yw _ _ _ _ h;rw[ht];rfl
def mP(n:ah)(r:ar):Int:=match gQ n r with|some l=>gz l (l.length-1)|none=>0
structure uz(n:ah)(r:ar):Prop where
 len:r.Fibers.length<=12
 fib:∀x∈r.Fibers,iV n x
 nod:r.Fibers.Nodup
theorem kw{n:ah}(h:bK n=true){r:ar}{l:List Int}(hl:gQ n r=some l):uz n r/\l.length=r.Fibers.length+1:=by
 obtain⟨g1,g2,g3,g4,g5⟩:=Cf (IG h) hl;have:=jB n.Nodes.length l g1 g2;have:=cC h;exact⟨⟨by omega,g4,g5⟩,g3⟩
theorem zX{n:ah}{r:ar}{l:List Int}(h:bK n=true)(hr:r.Fibers.length<=1048576)(hl:gQ n r=some l):Bm n r=some (mP n r):=by
 have hb:=cC h;obtain⟨o,o1,o2⟩:=vu n r (by omega) (by omega) hr;obtain rfl:=o2 l hl;obtain⟨hi,hlen⟩:=kw h hl;have:=hi.len;unfold Bm Qu mP;rw[o1,hl];simp only[Option.bind_some];have e:IntKind.wrap .i64 ((o.length:Int)-1)=((o.length-1:Nat):Int):=by rw[aE (by omega) (by omega)];omega
 rw[e,aU (by omega)];simp only[Option.bind_some,Int.toNat_natCast];rw[km (by omega)];rfl
def gO(n:ah)(s:af):Bool:=
 (wi s.Id 1 999&&wi s.Class 0 2&&(gQ n s.Work).isSome&&fm s.WorkBlock)&&
 (if s.Class=0 then decide (s.Spare.Start=0)&&decide (s.Spare.Fibers.length=0)&&(s.SpareBlock.First==0&&s.SpareBlock.Count==0)
  else(gQ n s.Spare).isSome&&fm s.SpareBlock&&decide (s.Spare.Start=s.Work.Start)&&decide (mP n s.Spare=mP n s.Work)&&apP n s.Work.Fibers s.Spare.Fibers)
structure kT(n:ah)(s:af):Prop where
 wr:uz n s.Work
 sr:uz n s.Spare
 wb:dw s.WorkBlock
 sb:dw s.SpareBlock
theorem sX{n:ah}{s:af}(h:bK n=true)(hs:gO n s=true):kT n s:=by
 unfold gO at hs;simp only[Bool.and_eq_true] at hs;obtain⟨⟨⟨_,h3⟩,h4⟩,h5⟩:=hs;obtain⟨l,hl⟩:=Option.isSome_iff_exists.1 h3;by_cases c:s.Class=0
 ·rw[if_pos c] at h5;simp only[Bool.and_eq_true,decide_eq_true_eq,beq_iff_eq] at h5;obtain⟨⟨k1,k2⟩,k3,k4⟩:=h5;have k2:s.Spare.Fibers=[]:=List.length_eq_zero_iff.1 k2;exact⟨(kw h hl).1,⟨by rw[k2];simp,by rw[k2];simp,by rw[k2];simp⟩,wD h4,by unfold dw;omega⟩
 ·rw[if_neg c] at h5;simp only[Bool.and_eq_true] at h5;obtain⟨⟨⟨⟨k1,k2⟩,_⟩,_⟩,_⟩:=h5;obtain⟨l2,hl2⟩:=Option.isSome_iff_exists.1 k1;exact⟨(kw h hl).1,(kw h hl2).1,wD h4,wD k2⟩
theorem c4(a b c d:Bool):(cond (!a) (some true) (cond (!b) (some true) (cond (!c) (some true) (some (!d)))):Option Bool)=some (!(a&&b&&c&&d)):=by
 cases a<;>cases b<;>cases c<;>cases d<;>rfl
theorem c3z(s:af):(cond (s.Spare.Start==0) (cond ((s.Spare.Fibers.length:Int)==0) (some (s.SpareBlock.First==0&&s.SpareBlock.Count==0)) (some false)) (some false):Option Bool)=
 some (decide (s.Spare.Start=0)&&decide (s.Spare.Fibers.length=0)&&(s.SpareBlock.First==0&&s.SpareBlock.Count==0)):=by
 rw[VB,show(s.Spare.Start==0)=decide (s.Spare.Start=0) from rfl];cases decide (s.Spare.Start=0)<;>cases decide (s.Spare.Fibers.length=0)<;>rfl
theorem deqI(a b:Int):(a==b)=decide (a=b):=rfl
theorem sv(n:ah)(s:af)(h:bK n=true)(hz:bC n<=1048576)(hw:s.Work.Fibers.length<=1048576)(hs:s.Spare.Fibers.length<=1048576):Eo n s=some (gO n s):=by
 unfold Eo gO;have hr:∀r:ar,r.Fibers.length<=1048576->wU n r=some (gQ n r).isSome:=fun r hr=>by
  rw[Kr n r hz hr];unfold HA;rw[h,Bool.true_and]
 simp only[iv,Jk,hr s.Work hw,hr s.Spare hs,Option.bind_some,c4];rcases bt (wi s.Id 1 999&&wi s.Class 0 2&&(gQ n s.Work).isSome&&fm s.WorkBlock) with e|e
 ·rw[e];simp only[Bool.not_true,cond_false,Bool.true_and];simp only[Bool.and_eq_true] at e;obtain⟨l,hl⟩:=Option.isSome_iff_exists.1 e.1.2;by_cases c:s.Class=0
  ·rw[if_pos c,show(s.Class==0)=true by simpa using c,cond_true,c3z];rfl
  ·rw[if_neg c,show(s.Class==0)=false by simpa using c,cond_false];cases hl2:gQ n s.Spare with
   |none=>rfl
   | some l2 =>
     simp only[Option.isSome_some,cond_true,Bool.true_and,zX h hs hl2,zX h hw hl,Option.bind_some,jW n s.Work s.Spare (cC h).2.2 hw hs (kw h hl).1.fib,deqI];cases fm s.SpareBlock<;>cases decide (s.Spare.Start=s.Work.Start)<;>cases decide (mP n s.Spare=mP n s.Work)<;>rfl
 ·rw[e];rfl
theorem uN(n:ah)(s:af)(h:bK n=true)(hw:s.Work.Fibers.length<=1048576)(hs:s.Spare.Fibers.length<=1048576):FD n s=some (gO n s):=by
 have hb:=cC h;unfold FD gO;simp only[eP,nF,rr n s.Work (by omega) (by omega) hw,rr n s.Spare (by omega) (by omega) hs,Option.bind_some];cases hl:gQ n s.Work with
 | none =>
   have:(wi s.Id 1 999&&wi s.Class 0 2&&(none:Option (List Int)).isSome&&fm s.WorkBlock)=false:=by simp
   rw[this];simp only[c4,Bool.false_and];cases wi s.Id 1 999<;>cases wi s.Class 0 2<;>rfl
 | some l =>
   simp only[c4,Option.isSome_some];rcases bt (wi s.Id 1 999&&wi s.Class 0 2&&true&&fm s.WorkBlock) with e|e
   ·rw[e];simp only[Bool.not_true,cond_false,Bool.true_and];by_cases c:s.Class=0
    ·rw[if_pos c,show(s.Class==0)=true by simpa using c,cond_true,c3z];rfl
    ·rw[if_neg c,show(s.Class==0)=false by simpa using c,cond_false];cases hl2:gQ n s.Spare with
     |none=>rfl
     | some l2 =>
       obtain⟨i1,n1⟩:=kw h hl;obtain⟨i2,n2⟩:=kw h hl2;have q1:=i1.len;have q2:=i2.len;have e1:IntKind.wrap .i64 ((l.length:Int)-1)=((l.length-1:Nat):Int):=by rw[aE (by omega) (by omega)];omega
       have e2:IntKind.wrap .i64 ((l2.length:Int)-1)=((l2.length-1:Nat):Int):=by rw[aE (by omega) (by omega)];omega
       have d1:grd (0<=0/\0<(l.length:Int))=some ():=aU (by omega);have d2:grd (0<=0/\0<(l2.length:Int))=some ():=aU (by omega);have d3:grd (0<=((l.length-1:Nat):Int)/\((l.length-1:Nat):Int)<(l.length:Int))=some ():=aU (by omega);have d4:grd (0<=((l2.length-1:Nat):Int)/\((l2.length-1:Nat):Int)<(l2.length:Int))=some ():=aU (by omega);have g1:l[Int.toNat 0]?=some s.Work.Start:=tP hl;have g2:l2[Int.toNat 0]?=some s.Spare.Start:=tP hl2;have g3:l[l.length-1]?=some (mP n s.Work):=by unfold mP;rw[hl];exact km (by omega)
       have g4:l2[l2.length-1]?=some (mP n s.Spare):=by unfold mP;rw[hl2];exact km (by omega)
       simp only[Option.isSome_some,cond_true,Bool.true_and,e1,e2,d1,d2,d3,d4,g1,g2,Int.toNat_natCast,g3,g4,Option.bind_some,Am n s.Work.Fibers s.Spare.Fibers h i1.len (by omega) i1.fib i2.fib,deqI];cases fm s.SpareBlock<;>cases decide (s.Spare.Start=s.Work.Start)<;>cases decide (mP n s.Spare=mP n s.Work)<;>rfl
   ·rw[e];rfl
def ff(n:ah)(a b:af):Bool:=
 !(bW a.Work a.WorkBlock b.Work b.WorkBlock||bW a.Work a.WorkBlock b.Spare b.SpareBlock||bW a.Spare a.SpareBlock b.Work b.WorkBlock)&&
 ((a.Class==2&&b.Class==2&&apP n a.Work.Fibers b.Work.Fibers)||!bW a.Spare a.SpareBlock b.Spare b.SpareBlock)
theorem se(n:ah)(a b:af)(h:bK n=true)(ha:kT n a)(hb:kT n b):Mw n a b=some (ff n a b):=by
 have a1:=ha.wr.len;have a2:=ha.sr.len;have b1:=hb.wr.len;have b2:=hb.sr.len;unfold Mw ff;simp only[gP a.Work a.WorkBlock b.Work b.WorkBlock a1 (by omega) ha.wb hb.wb,gP a.Work a.WorkBlock b.Spare b.SpareBlock a1 (by omega) ha.wb hb.sb,gP a.Spare a.SpareBlock b.Work b.WorkBlock a2 (by omega) ha.sb hb.wb,
  gP a.Spare a.SpareBlock b.Spare b.SpareBlock a2 (by omega) ha.sb hb.sb,Am n a.Work.Fibers b.Work.Fibers h a1 (by omega) ha.wr.fib hb.wr.fib,Option.bind_some]
 cases bW a.Work a.WorkBlock b.Work b.WorkBlock<;>cases bW a.Work a.WorkBlock b.Spare b.SpareBlock<;>cases bW a.Spare a.SpareBlock b.Work b.WorkBlock<;>try rfl
 cases a.Class==2<;>cases b.Class==2<;>cases apP n a.Work.Fibers b.Work.Fibers<;>rfl
theorem mS(n:ah)(a b:af)(h:bK n=true)(ha:kT n a)(hb:kT n b):ve n a b=some (ff n a b):=by
 have a1:=ha.wr.len;have a2:=ha.sr.len;have b1:=hb.wr.len;have b2:=hb.sr.len;unfold ve ff;simp only[dm a.Work a.WorkBlock b.Work b.WorkBlock (by omega) (by omega) ha.wb hb.wb,dm a.Work a.WorkBlock b.Spare b.SpareBlock (by omega) (by omega) ha.wb hb.sb,dm a.Spare a.SpareBlock b.Work b.WorkBlock (by omega) (by omega) ha.sb hb.wb,
  dm a.Spare a.SpareBlock b.Spare b.SpareBlock (by omega) (by omega) ha.sb hb.sb,jW n a.Work b.Work (cC h).2.2 (by omega) (by omega) ha.wr.fib,Option.bind_some]
 cases bW a.Work a.WorkBlock b.Work b.WorkBlock<;>cases bW a.Work a.WorkBlock b.Spare b.SpareBlock<;>cases bW a.Spare a.SpareBlock b.Work b.WorkBlock<;>try rfl
 cases a.Class==2<;>cases b.Class==2<;>cases apP n a.Work.Fibers b.Work.Fibers<;>rfl
theorem Sw{list:List af}(h:bM list<=1048576){s:af}(hs:s∈list):s.Work.Fibers.length<=1048576/\s.Spare.Fibers.length<=1048576:=by
 obtain⟨i,hi⟩:=List.getElem?_of_mem hs;have h2:s.Work.Fibers.length+s.Spare.Fibers.length<=(list.map fun x=>gR x).sum:=xM (fun x=>gR x) hi;unfold bM at h;omega
theorem Ea{list:List af}(h:bM list<=1048576):list.length<=1048576:=by unfold bM at h;omega
def fQ(n:ah)(list:List af)(i:Nat)(s:af):Bool:=
 !gO n s||(decide (0<i)&&match list[i-1]? with|some g=>decide (s.Id<=g.Id)|none=>false)||(list.take i).any fun o=>!ff n o s
def eH(n:ah)(list:List af):Bool:=bK n&&decide (list.length<=8)&&!dV (fQ n list) list
theorem Si(xs:List af)(f:af->Option Bool)(p:af->Bool)(hf:∀x∈xs,f x=some (p x))(hl:xs.length<=1048576):rZ xs f=some (xs.any p):=by
 unfold rZ PY;rw[dF (f:=Co xs f) xs (fun _ x=>p x) (fun i _=>(i:Int)) () (fun i x hx _=>by
  have hlt:=(List.getElem?_eq_some_iff.1 hx).1;have h1:decide ((i:Int)<xs.length)=true:=by simp[hlt]
  simp only[Co,h1,cond_true,aQ,hx,hf x (List.mem_of_getElem? hx),Option.bind_some];rw[aE (by omega) (by omega)];cases p x<;>rfl) (by simp[Co]) (by omega)]
 rw[<-tp];cases e:dA (fun _ x=>p x) xs with
 | none =>
   have h:dV (fun _ x=>p x) xs=false:=cD.2 (eh.1 e);rw[h];rfl
 | some q =>
   obtain⟨i,x⟩:=q;obtain⟨h1,h2,_⟩:=dD.1 e;have h:dV (fun _ x=>p x) xs=true:=fl.2 ⟨i,x,h1,h2⟩;rw[h];simp
theorem qt{n:ah}(h:bK n=true){list:List af}{i:Nat}(hprev:∀j y,j<i->list[j]?=some y->fQ n list j y=false):∀o∈list.take i,kT n o:=by
 intro o ho;obtain⟨j,hj⟩:=List.getElem?_of_mem ho;rw[List.getElem?_take] at hj;split at hj
 ·rename_i hji;have:=hprev j o hji hj;unfold fQ at this;simp only[Bool.or_eq_false_iff,Bool.not_eq_false'] at this;exact sX h this.1.1
 ·cases hj
theorem gu(n:ah)(list:List af)(hz:bC n<=1048576)(hl:bM list<=1048576):Cr n list=some (eH n list):=by
 have hll:=Ea hl;unfold Cr eH;rw[gY n hz];simp only[Option.bind_some];rcases bt (bK n) with hn|hn
 ·rw[hn];simp only[Bool.not_true,cond_false,Option.bind_some,Bool.true_and];by_cases h8:list.length<=8
  ·have e8:decide ((8:Int)<(list.length:Int))=false:=decide_eq_false (by omega);rw[e8,cond_false,decide_eq_true h8,Bool.true_and];rw[cZ (f:=Cp n list) list (fQ n list) (.inr false) (.inl ()) (fun i x hx hprev=>by
    have hlt:=(List.getElem?_eq_some_iff.1 hx).1;have h1:decide ((i:Int)<list.length)=true:=by simp[hlt]
    obtain⟨w1,w2⟩:=Sw hl (List.mem_of_getElem? hx);simp only[Cp,h1,cond_true,aQ,hx,Option.bind_some,uN n x hn w1 w2,ze list i (by omega)];unfold fQ;rcases bt (gO n x) with e|e
    ·have hin:=sX hn e;have hcf:rZ (list.take i) (fun x0=>BJ x0 n x)=some ((list.take i).any fun o=>!ff n o x):=Si _ _ _ (fun o ho=>by
      unfold BJ;rw[se n o x hn (qt hn hprev o ho) hin];rfl) (by simp;omega)
     rw[e];simp only[Bool.not_true,cond_false,Bool.false_or,hcf,Option.bind_some];rw[aE (n:=(i:Int)+1) (by omega) (by omega)];by_cases h0:0<i
     ·have e0:decide ((0:Int)<(i:Int))=true:=decide_eq_true (by omega);have ew:IntKind.wrap .i64 ((i:Int)-1)=((i-1:Nat):Int):=by rw[aE (by omega) (by omega)];omega
      have hg:list[i-1]?=some (list[i-1]'(by omega)):=List.getElem?_eq_getElem (by omega);rw[e0,cond_true,ew,aQ,hg,decide_eq_true h0];simp only[Option.bind_some,Bool.true_and];cases decide (x.Id<=(list[i-1]'(by omega)).Id)<;>cases((list.take i).any fun o=>!ff n o x)<;>rfl
     ·have e0:decide ((0:Int)<(i:Int))=false:=decide_eq_false (by omega);rw[e0,cond_false,decide_eq_false h0];simp only[Bool.false_and,Bool.false_or];cases((list.take i).any fun o=>!ff n o x)<;>rfl
    ·rw[e];rfl) (by simp[Cp]) (by omega)]
   cases dV (fQ n list) list<;>rfl
  ·have e8:decide ((8:Int)<(list.length:Int))=true:=decide_eq_true (by omega);rw[e8,cond_true,decide_eq_false h8];rfl
 ·rw[hn];rfl
theorem qu(n:ah)(list:List af)(hz:bC n<=1048576)(hl:bM list<=1048576):AU n list=some (eH n list):=by
 have hll:=Ea hl;unfold AU eH;rw[pf n hz];simp only[Option.bind_some];rcases bt (bK n) with hn|hn
 ·rw[hn];simp only[Bool.not_true,cond_false,Option.bind_some,Bool.true_and];by_cases h8:list.length<=8
  ·have e8:decide ((8:Int)<(list.length:Int))=false:=decide_eq_false (by omega);rw[e8,cond_false,decide_eq_true h8,Bool.true_and];rw[cZ (f:=AX n list) list (fQ n list) (.inr false) (.inl ()) (fun i x hx hprev=>by
    have hlt:=(List.getElem?_eq_some_iff.1 hx).1;have h1:decide ((i:Int)<list.length)=true:=by simp[hlt]
    obtain⟨w1,w2⟩:=Sw hl (List.mem_of_getElem? hx);simp only[AX,h1,cond_true,aQ,hx,Option.bind_some,sv n x hn hz w1 w2];rw[aE (n:=(i:Int)+1) (by omega) (by omega)];unfold fQ;rcases bt (gO n x) with e|e
    ·have hin:=sX hn e;have hcf:bn (M_q n list (i:Int)) N0 0=some (if(list.take i).any (fun o=>!ff n o x) then .inr false else .inl ()):=by
      refine gb (f:=M_q n list (i:Int)) (list.take i) (fun o=>!ff n o x) (.inr false) (.inl ()) (fun k o ho=>?_) ?_ (by simp;omega)
      ·have hin2:=qt hn hprev o (List.mem_of_getElem? ho);rw[List.getElem?_take] at ho;split at ho
       ·rename_i hki;have h1:decide ((k:Int)<(i:Int))=true:=decide_eq_true (by omega);simp only[M_q,h1,cond_true,aQ,ho,hx,Option.bind_some,mS n o x hn hin2 hin];rw[aE (by omega) (by omega)];cases ff n o x<;>rfl
       ·cases ho
      ·have h1:decide ((((list.take i).length:Nat):Int)<(i:Int))=false:=decide_eq_false (by simp;omega);simp only[M_q,h1,cond_false]
     rw[e];simp only[Bool.not_true,cond_false,Bool.false_or,hcf,Option.bind_some];by_cases h0:0<i
     ·have e0:decide ((0:Int)<(i:Int))=true:=decide_eq_true (by omega);have ew:IntKind.wrap .i64 ((i:Int)-1)=((i-1:Nat):Int):=by rw[aE (by omega) (by omega)];omega
      have hg:list[i-1]?=some (list[i-1]'(by omega)):=List.getElem?_eq_getElem (by omega);rw[e0,cond_true,ew,aQ,hg,decide_eq_true h0];simp only[Option.bind_some,Bool.true_and];cases decide (x.Id<=(list[i-1]'(by omega)).Id)<;>cases((list.take i).any fun o=>!ff n o x)<;>rfl
     ·have e0:decide ((0:Int)<(i:Int))=false:=decide_eq_false (by omega);rw[e0,cond_false,decide_eq_false h0];simp only[Option.bind_some,cond_false,Bool.false_and,Bool.false_or];cases((list.take i).any fun o=>!ff n o x)<;>rfl
    ·rw[e];rfl) (by simp[AX]) (by omega)]
   cases dV (fQ n list) list<;>rfl
  ·have e8:decide ((8:Int)<(list.length:Int))=true:=decide_eq_true (by omega);rw[e8,cond_true,decide_eq_false h8];rfl
 ·rw[hn];rfl
structure jy(n:ah)(list:List af):Prop where
 net:bK n=true
 len:list.length<=8
 svc:∀s∈list,kT n s
 ok:∀s∈list,gO n s=true
theorem gH{n:ah}{list:List af}(h:eH n list=true):jy n list:=by
 unfold eH at h;simp only[Bool.and_eq_true,decide_eq_true_eq,Bool.not_eq_true'] at h;obtain⟨⟨h1,h2⟩,h3⟩:=h;have key:∀s∈list,gO n s=true:=fun s hs=>by
  obtain⟨i,hi⟩:=List.getElem?_of_mem hs;have:=cD.1 h3 i s hi;unfold fQ at this;simp only[Bool.or_eq_false_iff,Bool.not_eq_false'] at this;exact this.1.1
 exact⟨h1,h2,fun s hs=>sX h1 (key s hs),key⟩
end Vs

namespace Vs
open Go
def ib(l:List Int)(N:Int)(i:Nat)(k:Int):Bool:=!wi k 0 (N-1)||(decide (0<i)&&match l[i-1]? with|some p=>decide (k<=p)|none=>false)
def vm(l:List Int)(N:Int):Bool:=!dV (ib l N) l
theorem Qb(l:List Int)(N:Nat)(hN:N<=1048576)(hl:l.length<=1048576):LD l (N:Int)=some (vm l N):=by
 unfold LD vm;rw[cZ (f:=AL l (N:Int)) l (ib l N) (.inr false) (.inl ()) (fun i x hx hprev=>by
  have hlt:=(List.getElem?_eq_some_iff.1 hx).1;have h1:decide ((i:Int)<l.length)=true:=by simp[hlt]
  simp only[AL,h1,cond_true,aQ,hx,Option.bind_some,eP];rw[aE (n:=(N:Int)-1) (by omega) (by omega),aE (n:=(i:Int)+1) (by omega) (by omega)];unfold ib;by_cases h0:0<i
  ·have e0:decide ((0:Int)<(i:Int))=true:=decide_eq_true (by omega);have ew:IntKind.wrap .i64 ((i:Int)-1)=((i-1:Nat):Int):=by rw[aE (by omega) (by omega)];omega
   have hg:l[i-1]?=some (l[i-1]'(by omega)):=List.getElem?_eq_getElem (by omega);rw[e0,ew,aQ,hg,decide_eq_true h0];simp only[cond_true,Option.bind_some,Bool.true_and];cases wi x 0 ((N:Int)-1)<;>cases decide (x<=l[i-1]'(by omega))<;>rfl
  ·have e0:decide ((0:Int)<(i:Int))=false:=decide_eq_false (by omega);rw[e0,decide_eq_false h0];cases wi x 0 ((N:Int)-1)<;>rfl) (by simp[AL]) (by omega)]
 cases dV (ib l N) l<;>rfl
theorem xJ(l:List Int)(N:Int)(hl:l.length<=1048576):Ep l 0 (N-1)=some (vm l N):=by
 unfold Ep vm;rw[cZ (f:=DN l 0 (N-1)) l (ib l N) (.inr false) (.inl ()) (fun i x hx hprev=>by
  have hlt:=(List.getElem?_eq_some_iff.1 hx).1;have h1:decide ((i:Int)<l.length)=true:=by simp[hlt]
  simp only[DN,h1,cond_true,aQ,hx,Option.bind_some,iv];rw[aE (n:=(i:Int)+1) (by omega) (by omega)];unfold ib;by_cases h0:0<i
  ·have e0:decide ((0:Int)<(i:Int))=true:=decide_eq_true (by omega);have ew:IntKind.wrap .i64 ((i:Int)-1)=((i-1:Nat):Int):=by rw[aE (by omega) (by omega)];omega
   have hg:l[i-1]?=some (l[i-1]'(by omega)):=List.getElem?_eq_getElem (by omega);rw[e0,ew,aQ,hg,decide_eq_true h0];simp only[cond_true,Option.bind_some,Bool.true_and];cases wi x 0 (N-1)<;>cases decide (x<=l[i-1]'(by omega))<;>rfl
  ·have e0:decide ((0:Int)<(i:Int))=false:=decide_eq_false (by omega);rw[e0,decide_eq_false h0];cases wi x 0 (N-1)<;>rfl) (by simp[DN]) (by omega)]
 cases dV (ib l N) l<;>rfl
theorem ND{l:List Int}(h:∀(i:Nat)(a b:Int),l[i]?=some a->l[i+1]?=some b->a<b):l.Pairwise (·<·):=by
 rw[List.pairwise_iff_getElem];intro i j hi hj hij;obtain⟨d,rfl⟩:∃d,j=i+1+d:=⟨j-i-1,by omega⟩;induction d with
 |zero=>exact h i _ _ (List.getElem?_eq_getElem hi) (List.getElem?_eq_getElem hj)
 | succ d ih =>
   have h1:=ih (by omega) (by omega);have h2:=h (i+1+d) _ _ (List.getElem?_eq_getElem (by omega)) (List.getElem?_eq_getElem (by omega));have h3:l[i+1+(d+1)]'hj=l[i+1+d+1]'(by omega):=rfl;omega
theorem MB{l:List Int}{N:Int}(h:vm l N=true):l.Pairwise (·<·)/\∀x∈l,0<=x/\x<N:=by
 unfold vm at h;have h2:=cD.1 (by simpa using h);refine⟨ND fun i a b ha hb=>?_,fun x hx=>?_⟩
 ·have:=h2 (i+1) b hb;unfold ib at this;simp only[Nat.add_sub_cancel,ha,Bool.or_eq_false_iff,Bool.and_eq_false_iff,decide_eq_false_iff_not] at this;omega
 ·obtain⟨i,hi⟩:=List.getElem?_of_mem hx;have:=h2 i x hi;unfold ib at this;simp only[Bool.or_eq_false_iff,Bool.not_eq_false',cG] at this;omega
theorem xw{l:List Int}(h:l.Pairwise (·<·)):l.Nodup:=h.imp fun h=>by omega
theorem Ql{l:List Int}{N:Nat}(h:vm l N=true):l.length<=N:=by
 obtain⟨h1,h2⟩:=MB h;exact jB N l (xw h1) h2
theorem Qz(x:Int)(l:List Int)(hl:l.length<=1048576):∃o,EY x l=some o/\(∀y,y∈o↔y=x\/y∈l)/\o.length<=l.length+1/\(l.Pairwise (·<·)->o.Pairwise (·<·)):=by
 obtain⟨k',k1,k,rfl,k2,k3,k4⟩:=bv (f:=CE x l) (fun s=>∃k:Nat,s=(k:Int)/\k<=l.length/\∀j y,j<k->l[j]?=some y->y<x) (fun s=>l.length-s.toNat)
  (fun o=>∃k:Nat,o=(k:Int)/\k<=l.length/\(∀j y,j<k->l[j]?=some y->y<x)/\∀y,l[k]?=some y->x<=y) (fun s hI=>by
  obtain⟨k,rfl,h1,h2⟩:=hI;by_cases hk:k<l.length
  ·have e1:decide ((k:Int)<(l.length:Int))=true:=decide_eq_true (by omega);have hg:l[k]?=some (l[k]'hk):=List.getElem?_eq_getElem hk;simp only[CE,e1,cond_true,Int.toNat_natCast,hg];rw[aU (by omega)];simp only[Option.bind_some];by_cases hlt:l[k]'hk<x
   ·left;rw[decide_eq_true hlt,cond_true,aE (by omega) (by omega)];refine⟨_,rfl,⟨k+1,by simp,by omega,fun j y hj hy=>?_⟩,by omega⟩;by_cases c:j=k
    ·subst c;rw[hg] at hy;cases hy;exact hlt
    ·exact h2 j y (by omega) hy
   ·right;rw[decide_eq_false hlt,cond_false];exact⟨_,rfl,k,rfl,h1,h2,fun y hy=>by rw[hg] at hy;cases hy;omega⟩
  ·right;have e1:decide ((k:Int)<(l.length:Int))=false:=decide_eq_false (by omega);exact⟨_,by simp only[CE,e1,cond_false],k,rfl,h1,h2,fun y hy=>by have:=(List.getElem?_eq_some_iff.1 hy).1;omega⟩) N0 ((0:Nat):Int) ⟨0,rfl,by omega,fun j y hj=>by omega⟩ (cw (by simp;omega))
 unfold EY;have e0:((0:Nat):Int)=0:=rfl;rw[e0] at k1;rw[k1];simp only[Option.bind_some,Int.toNat_natCast];by_cases hc:k<l.length/\l[k]?=some x
 ·have e1:decide ((k:Int)<(l.length:Int))=true:=decide_eq_true (by omega);rw[e1,cond_true,aU (by omega),hc.2];simp only[Option.bind_some,beq_self_eq_true,cond_true];exact⟨l,rfl,fun y=>⟨.inr,fun h=>h.elim (fun e=>e▸List.mem_of_getElem? hc.2) id⟩,by omega,id⟩
 ·have hcond:(cond (decide ((k:Int)<(l.length:Int))) ((grd (0<=(k:Int)/\(k:Int)<(l.length:Int))).bind fun _=>(l[k]?).bind fun yZ9=>some (yZ9==x)) (some false):Option Bool)=some false:=by
   by_cases hk:k<l.length
   ·have hg:l[k]?=some (l[k]'hk):=List.getElem?_eq_getElem hk;rw[decide_eq_true (by omega),cond_true,aU (by omega),hg];simp only[Option.bind_some];congr 1;rw[beq_eq_false_iff_ne];intro e;exact hc ⟨hk,by rw[hg,e]⟩
   ·rw[decide_eq_false (by omega)];rfl
  rw[hcond];have ht:dt l 0 k=l.take k:=by rw[eB,List.drop_zero]
  have hd:dt l k (l.length-k)=l.drop k:=by
   rw[eB,List.take_of_length_le (by simp)]
  simp only[Option.bind_some,cond_false,and_true,true_and,ht,hd,bnd];rw[aU (by omega)];simp only[Option.bind_some];rw[aU (by simp;omega)];simp only[Option.bind_some];rw[aU (by simp;omega)];simp only[Option.bind_some];rw[aU (by simp;omega)];refine⟨l.take k++[x]++l.drop k,rfl,fun y=>?_,by simp;omega,fun hs=>?_⟩
  ·have:y∈l↔y∈l.take k\/y∈l.drop k:=by rw[<-List.mem_append,List.take_append_drop]
   rw[this];simp only[List.mem_append,List.mem_singleton];constructor
   ·rintro((h|h)|h)
    ·exact .inr (.inl h)
    ·exact .inl h
    ·exact .inr (.inr h)
   ·rintro(h|h|h)
    ·exact .inl (.inr h)
    ·exact .inl (.inl h)
    ·exact .inr h
  ·have hlow:∀y∈l.take k,y<x:=fun y hy=>by
    obtain⟨j,hj⟩:=List.getElem?_of_mem hy;rw[List.getElem?_take] at hj;split at hj
    ·rename_i hjk;exact k3 j y hjk hj
    ·cases hj
   have hhigh:∀y∈l.drop k,x<y:=fun y hy=>by
    obtain⟨j,hj⟩:=List.getElem?_of_mem hy;rw[List.getElem?_drop] at hj;obtain⟨q1,q2⟩:=List.getElem?_eq_some_iff.1 hj;have hkl:k<l.length:=by omega
    have hx2:=k4 _ (List.getElem?_eq_getElem hkl);have hne:l[k]'hkl≠x:=fun e=>hc ⟨hkl,by rw[List.getElem?_eq_getElem hkl,e]⟩;by_cases c:j=0
    ·subst c;have:l[k+0]'q1=l[k]'hkl:=rfl;omega
    ·have:=List.pairwise_iff_getElem.1 hs k (k+j) hkl q1 (by omega);omega
   rw[List.pairwise_append,List.pairwise_append];refine⟨⟨hs.sublist (List.take_sublist k l),by simp,fun a ha b hb=>?_⟩,hs.sublist (List.drop_sublist k l),fun a ha b hb=>?_⟩
   ·rw[List.mem_singleton.1 hb];exact hlow a ha
   ·rcases List.mem_append.1 ha with h|h
    ·have:=hlow a h;have:=hhigh b hb;omega
    ·rw[List.mem_singleton.1 h];exact hhigh b hb
def dl(gr:List (List Int))(failed:List Int):List Int:=failed.flatMap fun g=>(gr[g.toNat]?).getD []
theorem lB{gr:List (List Int)}(h:∀g∈gr,g.length<=14):∀failed:List Int,(dl gr failed).length<=14*failed.length
 |[]=>by simp[dl]
 | g :: fs => by
   have:=lB h fs;have h2:((gr[g.toNat]?).getD []).length<=14:=by
    cases hg:gr[g.toNat]? with
    |none=>simp
    |some x=>exact h x (List.mem_of_getElem? hg)
   unfold dl at this⊢;rw[List.flatMap_cons,List.length_append,List.length_cons];omega
theorem nY(n:ah)(failed:List Int)(hn:n.Fibers.length<=14)(hf:∀g∈failed,0<=g/\g<((aX n).length:Int))(hl:failed.length<=1048576):BF n failed=some (dl (aX n) failed):=by
 unfold BF;rw[jx n hn];simp only[Option.bind_some];have hgr:=eY hn;generalize aX n=gr at hgr hf;have:=cb (f:=DM failed gr) failed (fun i(a:List Int)=>((i:Int),a)) (fun _ g a=>.inl (a++(gr[g.toNat]?).getD [])) (fun a=>a) (fun i a=>a.length<=14*i) (fun i a g hx hI=>by
  have hlt:=(List.getElem?_eq_some_iff.1 hx).1;have h1:decide ((i:Int)<failed.length)=true:=by simp[hlt]
  obtain⟨q1,q2⟩:=hf g (List.mem_of_getElem? hx);have hg:gr[g.toNat]?=some (gr[g.toNat]'(by omega)):=List.getElem?_eq_getElem (by omega);have hgl:=(hgr _ (List.mem_of_getElem? hg)).1;refine .inl ⟨_,rfl,by rw[hg,List.length_append,Option.getD_some];omega,?_⟩;simp only[DM,h1,cond_true,aQ,hx,Option.bind_some,bnd,hg,Option.getD_some];rw[aU (by omega)];simp only[Option.bind_some];rw[aU (by omega),aE (by omega) (by omega)];rfl) (fun a _=>by simp[DM]) [] (Nat.le_refl 0) (by omega)
 have e0:((0:Nat):Int)=0:=rfl;simp only[e0] at this;rw[this];have gen:∀(xs:List Int)(i:Nat)(a:List Int),bB (fun(_:Nat)(g:Int)(a:List Int)=>(.inl (a++(gr[g.toNat]?).getD []):List Int⊕List Int)) (fun a=>a) i xs a=a++dl gr xs:=by
  intro xs;induction xs with
  |nil=>intro i a;simp[bB,dl]
  |cons x xs ih=>intro i a;simp only[bB];rw[ih];simp[dl]
 rw[gen];rfl
theorem mz(n:ah)(failed:List Int)(hn:n.Fibers.length<=14)(hf:∀g∈failed,0<=g/\g<((aX n).length:Int))(hl:failed.length<=1000):∃o,Bn n failed=some o/\(∀y,y∈o↔y∈dl (aX n) failed)/\o.length<=1048576:=by
 unfold Bn;rw[nU n hn];simp only[Option.bind_some];have hgr:=eY hn;generalize aX n=gr at hgr hf;obtain⟨o,o1,o2,o3⟩:=bv (f:=Ds failed gr) (fun s=>∃(i:Nat)(a:List Int),s=((i:Int),a)/\i<=failed.length/\a.length<=14*i/\∀y,y∈a↔y∈dl gr (failed.take i)) (fun s=>failed.length-s.1.toNat)
  (fun o=>(∀y,y∈o↔y∈dl gr failed)/\o.length<=1048576) (fun s hI=>by
  obtain⟨i,a,rfl,i1,i2,i3⟩:=hI;by_cases hi:i<failed.length
  ·left;have h1:decide ((i:Int)<failed.length)=true:=by simp[hi]
   have hx:failed[i]?=some (failed[i]'hi):=List.getElem?_eq_getElem hi;obtain⟨q1,q2⟩:=hf _ (List.mem_of_getElem? hx);have hg:gr[(failed[i]'hi).toNat]?=some (gr[(failed[i]'hi).toNat]'(by omega)):=List.getElem?_eq_getElem (by omega);have hgl:=(hgr _ (List.mem_of_getElem? hg)).1;generalize hgg:gr[(failed[i]'hi).toNat]'(by omega)=g at hg hgl;obtain⟨b,b1,b2,b3⟩:=bv (f:=M_y failed gr ((i:Int),a)) (fun s=>∃(j:Nat)(c:List Int),s=((j:Int),c)/\j<=g.length/\c.length<=14*i+j/\∀y,y∈c↔y∈a\/y∈g.take j) (fun s=>g.length-s.1.toNat)
    (fun c=>c.length<=14*i+g.length/\∀y,y∈c↔y∈a\/y∈g) (fun s hJ=>by
    obtain⟨j,c,rfl,j1,j2,j3⟩:=hJ;by_cases hj:j<g.length
    ·left;have e1:decide ((j:Int)<(g.length:Int))=true:=decide_eq_true (by omega);have hy:g[j]?=some (g[j]'hj):=List.getElem?_eq_getElem hj;obtain⟨p,p1,p2,p3,_⟩:=Qz (g[j]'hj) c (by omega);simp only[M_y,aQ,hx,Option.bind_some,hg];rw[aU (by omega)];simp only[Option.bind_some,e1,cond_true,hy,p1];rw[aE (by omega) (by omega)];refine⟨_,rfl,⟨j+1,p,by simp,by omega,by omega,fun y=>?_⟩,by simp only[];omega⟩;rw[p2,j3,List.take_add_one,hy];simp only[Option.toList_some,List.mem_append,List.mem_singleton];constructor
     ·rintro(h|h|h)
      ·exact .inr (.inr h)
      ·exact .inl h
      ·exact .inr (.inl h)
     ·rintro(h|h|h)
      ·exact .inr (.inl h)
      ·exact .inr (.inr h)
      ·exact .inl h
    ·right;have e1:decide ((j:Int)<(g.length:Int))=false:=decide_eq_false (by omega);refine⟨c,?_,by omega,fun y=>?_⟩
     ·simp only[M_y,aQ,hx,Option.bind_some,hg];rw[aU (by omega)];simp only[Option.bind_some,e1,cond_false]
     ·rw[j3,show j=g.length by omega,List.take_length]) N0 (((0:Nat):Int),a) ⟨0,a,rfl,by omega,by omega,fun y=>by simp⟩ (cw (by simp;omega))
   have e0:((0:Nat):Int)=0:=rfl;rw[e0] at b1;simp only[Ds,h1,cond_true,b1,Option.bind_some];rw[aE (by omega) (by omega)];refine⟨_,rfl,⟨i+1,b,by simp,by omega,by omega,fun y=>?_⟩,by simp only[];omega⟩;rw[b3,i3,List.take_add_one,hx];unfold dl;simp only[Option.toList_some,List.flatMap_append,List.mem_append,List.flatMap_cons,List.flatMap_nil,List.append_nil,hg,Option.getD_some]
  ·right;have h1:decide ((i:Int)<failed.length)=false:=decide_eq_false (by omega);refine⟨a,by simp only[Ds,h1,cond_false],fun y=>?_,by omega⟩;rw[i3,show i=failed.length by omega,List.take_length]) N0 (((0:Nat):Int),[]) ⟨0,[],rfl,by omega,by simp,fun y=>by simp[dl]⟩ (cw (by simp;omega))
 have e0:((0:Nat):Int)=0:=rfl;rw[e0] at o1;rw[o1];exact⟨o,rfl,o2,o3⟩
end Vs

namespace Vs
open Go
def fU(list:List af)(out:List Int)(s:af):Bool:=(list.zip out).any fun p=>p.2==1&&bW s.Spare s.SpareBlock p.1.Spare p.1.SpareBlock
def stP(aL:List Int)(list:List af)(out:List Int)(s:af):Int:=
 if !cN s.Work.Fibers aL then(if s.Class=0\/cN s.Spare.Fibers aL=false then 3 else if fU list out s then 3 else 1)
 else if !cN s.Spare.Fibers aL then 2 else 0
def cv(aL:List Int)(list:List af):List Int:=bB (fun(_:Nat) s(out:List Int)=>(.inl (out++[stP aL list out s]):List Int⊕List Int)) (fun o=>o) 0 list []
theorem oQ{a g1 g2:List Int}(h:∀y,y∈g1↔y∈g2):cN a g1=cN a g2:=by
 unfold cN;have:(fun x=>decide (x∈g1))=fun x=>decide (x∈g2):=by funext x;rw[Bool.eq_iff_iff];simp[h x]
 rw[this]
theorem xb{g1 g2:List Int}(h:∀y,y∈g1↔y∈g2)(list:List af):cv g1 list=cv g2 list:=by
 unfold cv;have:stP g1=stP g2:=by funext l o s;unfold stP;rw[oQ h,oQ h]
 rw[this]
theorem tB(g:List Int->af->Int):∀(xs:List af)(i:Nat)(a:List Int),(bB (fun(_:Nat) s(out:List Int)=>(.inl (out++[g out s]):List Int⊕List Int)) (fun o=>o) i xs a).length=a.length+xs.length
 |[],_,a=>by simp[bB]
 |x::xs,i,a=>by simp only[bB];rw[tB g xs];simp;omega
theorem gV(aL:List Int)(list:List af):(cv aL list).length=list.length:=by
 unfold cv;rw[tB];simp
theorem uv{α β:Type}:∀(out:List β)(list:List α)(x:α)(c:β),list[out.length]?=some x->list.zip (out++[c])=list.zip out++[(x,c)]
 |[],[],x,c,h=>by simp at h
 |[],y::ys,x,c,h=>by simp at h;subst h;simp
 |o::out,[],x,c,h=>by simp at h
 | o :: out, y :: ys, x, c, h => by
   simp only[List.cons_append,List.zip_cons_cons];rw[uv out ys x c (by simpa using h)]
def gt(list:List af)(out:List Int):List af:=((list.zip out).filter fun p=>p.2==1).map (·.1)
theorem Bg{list:List af}{out:List Int}{x:af}(c:Int)(h:list[out.length]?=some x):gt list (out++[c])=gt list out++if c=1 then [x] else []:=by
 unfold gt;rw[uv out list x c h,List.filter_append,List.map_append];congr 1;by_cases e:c=1
 ·simp[e]
 ·simp[e]
theorem Bx(list:List af)(out:List Int)(s:af):((gt list out).any fun o=>bW o.Spare o.SpareBlock s.Spare s.SpareBlock)=fU list out s:=by
 unfold gt fU;rw[List.any_map,List.any_filter];congr 1;funext p;simp only[Function.comp,kJ p.1.Spare]
theorem KM{list:List af}{out:List Int}{x:af}(h:x∈gt list out):x∈list:=by
 unfold gt at h;obtain⟨p,hp,rfl⟩:=List.mem_map.1 h;exact(List.of_mem_zip (List.mem_filter.1 hp).1).1
theorem EA(list:List af)(out:List Int):(gt list out).length<=list.length:=by
 unfold gt;rw[List.length_map];have:=List.length_filter_le (fun p:af×Int=>p.2==1) (list.zip out);rw[List.length_zip] at this;omega
theorem ik(n:ah)(list:List af)(failed:List Int)(hs:jy n list)(hf:∀g∈failed,0<=g/\g<((aX n).length:Int))(hl:failed.length<=1000):sy n list failed=some (cv (dl (aX n) failed) list):=by
 have hn:=(cC hs.net).2.2;have h8:=hs.len;have hgl:=lB (fun g hg=>(eY hn g hg).1) failed;unfold sy;rw[nY n failed hn hf (by omega)];simp only[Option.bind_some];generalize dl (aX n) failed=aL at hgl;have:=cb (f:=M_i list aL) list (fun i(out:List Int)=>((i:Int),out,gt list out)) (fun _ s out=>.inl (out++[stP aL list out s])) (fun o=>o) (fun i out=>out.length=i) (fun i out x hx hI=>by
  have hlt:=(List.getElem?_eq_some_iff.1 hx).1;have h1:decide ((i:Int)<list.length)=true:=by simp[hlt]
  have hin:=hs.svc x (List.mem_of_getElem? hx);have hul:=EA list out;refine .inl ⟨_,rfl,by simp[hI],?_⟩;obtain⟨a,a1,_,a3⟩:=kU x.Work.Fibers aL hin.wr.len (by omega);obtain⟨b,b1,_,b3⟩:=kU x.Spare.Fibers aL hin.sr.len (by omega);have hcf:rZ (gt list out) (fun x0=>EX x0 x)=some (fU list out x):=by
   rw[<-Bx];exact Si _ _ _ (fun o ho=>by
    have ho2:=hs.svc o (KM ho);have:=hin.sr.len;unfold EX;rw[gP o.Spare o.SpareBlock x.Spare x.SpareBlock ho2.sr.len (by omega) ho2.sb hin.sb];rfl) (by omega)
  have hus:=fun c=>Bg (list:=list) (out:=out) (x:=x) c (by rw[hI];exact hx);simp only[M_i,h1,cond_true,aQ,hx,Option.bind_some,a1,b1,wj a3,wj b3,Bool.not_not,bnd,hus,hcf];rw[aE (n:=(i:Int)+1) (by omega) (by omega)];have hg1:grd ((out.length+1)*8<=140737488355328)=some ():=aU (by omega);have hg2:grd (((gt list out).length+1)*112<=140737488355328)=some ():=aU (by omega);simp only[hg1,hg2,Option.bind_some];unfold stP;by_cases hc:x.Class=0
  ·have e1:(x.Class !=0)=false:=by simp[hc]
   simp only[e1,hc,cond_false,true_or,if_true];cases cN x.Work.Fibers aL<;>cases cN x.Spare.Fibers aL<;>simp
  ·have e1:(x.Class !=0)=true:=by simp[hc]
   simp only[e1,hc,cond_true,false_or];cases cN x.Work.Fibers aL<;>cases cN x.Spare.Fibers aL<;>cases fU list out x<;>simp) (fun o _=>by simp[M_i]) [] rfl (by omega)
 have e0:((0:Nat):Int)=0:=rfl;have e1:gt list []=[]:=by unfold gt;simp
 simp only[e0,e1] at this;rw[this];rfl
theorem BL(n:ah)(list:List af)(out:List Int)(x:af)(i:Nat)(hs:jy n list)(hx:list[i]?=some x)(hI:out.length=i):bn (M_z list ((i:Int),out) x) N0 (1,0)=some (if fU list out x then 3 else 1):=by
 have h8:=hs.len;have hlt:=(List.getElem?_eq_some_iff.1 hx).1;have hin:=hs.svc x (List.mem_of_getElem? hx);have:=fO (f:=M_z list ((i:Int),out) x) (list.zip out) (fun k(a:Int)=>(a,(k:Int))) (fun _ p a=>if p.2==1&&bW x.Spare x.SpareBlock p.1.Spare p.1.SpareBlock then 3 else a) id (fun _ _=>True) (fun k a p hp _=>by
  obtain⟨y,c⟩:=p;rw[List.getElem?_zip_eq_some] at hp;obtain⟨hy,hc⟩:=hp;have hk:=(List.getElem?_eq_some_iff.1 hc).1;have hy2:=hs.svc y (List.mem_of_getElem? hy);have q1:=hin.sr.len;have q2:=hy2.sr.len;have h1:decide ((k:Int)<(i:Int))=true:=decide_eq_true (by omega);refine⟨trivial,?_⟩;simp only[M_z,h1,cond_true,Int.toNat_natCast,hc,aQ,hy];rw[aU (by omega),aE (n:=(k:Int)+1) (by omega) (by omega)];simp only[Option.bind_some,dm x.Spare x.SpareBlock y.Spare y.SpareBlock (by omega) (by omega) hin.sb hy2.sb];cases c==1<;>cases bW x.Spare x.SpareBlock y.Spare y.SpareBlock<;>rfl) (fun a _=>by
   have h1:decide ((((list.zip out).length:Nat):Int)<(i:Int))=false:=decide_eq_false (by rw[List.length_zip];omega);simp only[M_z,h1,cond_false,id]) 1 trivial (by rw[List.length_zip];omega)
 have e0:((0:Nat):Int)=0:=rfl;simp only[e0] at this;rw[this];have gen:∀(ps:List (af×Int))(k:Nat)(a:Int),cM (fun(_:Nat)(p:af×Int)(a:Int)=>if p.2==1&&bW x.Spare x.SpareBlock p.1.Spare p.1.SpareBlock then 3 else a) k ps a=if ps.any (fun p=>p.2==1&&bW x.Spare x.SpareBlock p.1.Spare p.1.SpareBlock) then 3 else a:=by
  intro ps;induction ps with
  |nil=>intro k a;simp[cM]
  | cons p ps ih =>
    intro k a;simp only[cM];rw[ih,List.any_cons];cases(p.2==1&&bW x.Spare x.SpareBlock p.1.Spare p.1.SpareBlock)<;>cases(ps.any fun p=>p.2==1&&bW x.Spare x.SpareBlock p.1.Spare p.1.SpareBlock)<;>simp
 rw[gen];rfl
theorem tC(n:ah)(list:List af)(failed:List Int)(hs:jy n list)(hf:∀g∈failed,0<=g/\g<((aX n).length:Int))(hl:failed.length<=1000):Ek n list failed=some (cv (dl (aX n) failed) list):=by
 have hn:=(cC hs.net).2.2;have h8:=hs.len;unfold Ek;obtain⟨o,o1,o2,o3⟩:=mz n failed hn hf hl;rw[o1,<-xb o2 list];simp only[Option.bind_some];have:=cb (f:=CT list o) list (fun i(out:List Int)=>((i:Int),out)) (fun _ s out=>.inl (out++[stP o list out s])) (fun o=>o) (fun i out=>out.length=i) (fun i out x hx hI=>by
  have hlt:=(List.getElem?_eq_some_iff.1 hx).1;have h1:decide ((i:Int)<list.length)=true:=by simp[hlt]
  have hin:=hs.svc x (List.mem_of_getElem? hx);have q1:=hin.wr.len;have q2:=hin.sr.len;refine .inl ⟨_,rfl,by simp[hI],?_⟩;have hg1:grd ((out.length+1)*8<=140737488355328)=some ():=aU (by omega);simp only[CT,h1,cond_true,aQ,hx,Option.bind_some,py x.Work o (by omega) o3,py x.Spare o (by omega) o3,bnd,hg1,BL n list out x i hs hx hI];rw[aE (n:=(i:Int)+1) (by omega) (by omega)];unfold stP;by_cases hc:x.Class=0
  ·have e1:(x.Class==0)=true:=by simp[hc]
   simp only[e1,hc,cond_true,true_or,if_true];cases cN x.Work.Fibers o<;>cases cN x.Spare.Fibers o<;>simp
  ·have e1:(x.Class==0)=false:=by simp[hc]
   simp only[e1,hc,cond_false,false_or];cases cN x.Work.Fibers o<;>cases cN x.Spare.Fibers o<;>simp) (fun o _=>by simp[CT]) [] rfl (by omega)
 have e0:((0:Nat):Int)=0:=rfl;simp only[e0] at this;rw[this];rfl
def lZ(n:ah)(list:List af)(failed:List Int):Bool:=eH n list&&vm failed (aX n).length
theorem nT{n:ah}{list:List af}{failed:List Int}(h:lZ n list failed=true):jy n list/\(∀g∈failed,0<=g/\g<((aX n).length:Int))/\failed.length<=23:=by
 obtain⟨h1,h2⟩:=Bool.and_eq_true_iff.1 h;have hs:=gH h1;have:=fg n (cC hs.net).2.2;have:=Ql h2;exact⟨hs,(MB h2).2,by omega⟩
theorem jl(n:ah)(list:List af)(failed:List Int)(hz:bC n<=1048576)(hl:bM list<=1048576)(hf:failed.length<=1048576):wH n list failed=some (lZ n list failed):=by
 unfold wH lZ;rw[gu n list hz hl];simp only[Option.bind_some];rcases bt (eH n list) with e|e
 ·have hn:=(cC (gH e).net).2.2;have:=fg n hn;rw[e,cond_true,jx n hn];simp only[Option.bind_some];rw[Qb failed (aX n).length (by omega) hf];rfl
 ·rw[e];rfl
theorem wa(n:ah)(list:List af)(failed:List Int)(hz:bC n<=1048576)(hl:bM list<=1048576)(hf:failed.length<=1048576):Ff n list failed=some (lZ n list failed):=by
 unfold Ff lZ;rw[qu n list hz hl];simp only[Option.bind_some];rcases bt (eH n list) with e|e
 ·have hn:=(cC (gH e).net).2.2;have:=fg n hn;rw[e,cond_true,nU n hn];simp only[Option.bind_some];rw[aE (by omega) (by omega),xJ failed _ hf];rfl
 ·rw[e];rfl
def saP(n:ah)(list:List af)(failed:List Int):List Int×Bool:=if lZ n list failed then(cv (dl (aX n) failed) list,true) else([],false)
theorem kL(n:ah)(list:List af)(failed:List Int)(hz:bC n<=1048576)(hl:bM list<=1048576)(hf:gj failed<=1048576):Jy n list failed=some (saP n list failed):=by
 unfold Jy saP;rw[jl n list failed hz hl hf];simp only[Option.bind_some];rcases bt (lZ n list failed) with e|e
 ·obtain⟨h1,h2,h3⟩:=nT e;rw[e,if_pos rfl];simp only[Bool.not_true,cond_false,ik n list failed h1 h2 (by omega),Option.bind_some]
 ·rw[e];rfl
end Vs

namespace Vs
open Go
theorem Vu{K i x:Nat}(h:(List.range K)[i]?=some x):x=i/\i<K:=by
 have:=List.getElem?_eq_some_iff.1 h;simp at this;omega
def zk(list:List af)(st:List Int):List Int:=bB (fun(_:Nat)(p:af×Int)(a:List Int)=>(.inl (if p.2==3 then a++[p.1.Id] else a):List Int⊕List Int)) (fun a=>a) 0 (list.zip st) []
theorem DB{f:Int×List Int->Option ((Int×List Int)⊕List Int)}(list:List af)(st:List Int)(hlen:st.length=list.length)(hl:list.length<=1048576)
 (h1:∀(i:Nat) y c(a:List Int),list[i]?=some y->st[i]?=some c->a.length<=i->f ((i:Int),a)=some (.inl (((i+1:Nat):Int),if c==3 then a++[y.Id] else a)))
 (h2:∀a,f ((list.length:Int),a)=some (.inr a)):bn f N0 (0,[])=some (zk list st):=by
 have hz:(list.zip st).length=list.length:=by rw[List.length_zip];omega
 exact cb (f:=f) (list.zip st) (fun i(a:List Int)=>((i:Int),a)) (fun _ p a=>.inl (if p.2==3 then a++[p.1.Id] else a)) (fun a=>a) (fun i a=>a.length<=i) (fun i a p hp hI=>by
  obtain⟨y,c⟩:=p;rw[List.getElem?_zip_eq_some] at hp;refine .inl ⟨_,rfl,?_,h1 i y c a hp.1 hp.2 hI⟩;split<;>(try simp only[List.length_append,List.length_cons,List.length_nil])<;>omega) (fun a _=>by rw[hz];exact h2 a) [] (Nat.le_refl 0) (by omega)
def lsP(n:ah)(list:List af)(failed:List Int):List Int×Bool:=if lZ n list failed then(zk list (cv (dl (aX n) failed) list),true) else([],false)
theorem jX(n:ah)(list:List af)(failed:List Int)(hz:bC n<=1048576)(hl:bM list<=1048576)(hf:gj failed<=1048576):Iq n list failed=some (lsP n list failed):=by
 unfold Iq lsP;rw[jl n list failed hz hl hf];simp only[Option.bind_some];rcases bt (lZ n list failed) with e|e
 ·obtain⟨h1,h2,h3⟩:=nT e;have h8:=h1.len;have hsl:=gV (dl (aX n) failed) list;rw[e,if_pos rfl];simp only[Bool.not_true,cond_false,ik n list failed h1 h2 (by omega),Option.bind_some];generalize cv (dl (aX n) failed) list=st at hsl;rw[DB (f:=CO list st) list st hsl (by omega) (fun i y c a hy hc ha=>by
   have hlt:=(List.getElem?_eq_some_iff.1 hc).1;have h1:decide ((i:Int)<st.length)=true:=by simp[hlt]
   simp only[CO,h1,cond_true,Int.toNat_natCast,hc,aQ,hy,bnd];rw[aU (by omega),aU (by omega),aE (by omega) (by omega)];simp only[Option.bind_some];cases c==3<;>rfl) (fun a=>by simp[CO,hsl])]
  rfl
 ·rw[e];rfl
end Vs

namespace Vs
open Go
def orF(ok:Int->Bool)(m:Int)(k:Nat)(fs:List Int)(out:List Int):List Int:=cM (fun(_:Nat) x(o:List Int)=>if ok x then o.set x.toNat (bits .or .i64 (gz o x.toNat) m) else o) k fs out
theorem so(ok:Int->Bool)(m:Int):∀(fs:List Int)(k:Nat)(out:List Int),(orF ok m k fs out).length=out.length
 |[],_,_=>rfl
 | x :: fs, k, out => by
   have:=so ok m fs (k+1) (if ok x then out.set x.toNat (bits .or .i64 (gz out x.toNat) m) else out);have h2:(if ok x then out.set x.toNat (bits .or .i64 (gz out x.toNat) m) else out).length=out.length:=by split<;>simp
   exact this.trans h2
theorem ww(ok:Int->Bool)(m:Int)(f:Nat):∀(fs:List Int)(k:Nat)(out:List Int),fs.Nodup->(∀x∈fs,0<=x/\x<(out.length:Int))->gz (orF ok m k fs out) f=if decide ((f:Int)∈fs)&&ok f then bits .or .i64 (gz out f) m else gz out f
 |[],_,out,_,_=>by simp[orF,cM]
 | x :: fs, k, out, hn, hx => by
   obtain⟨h1,h2⟩:=List.nodup_cons.1 hn;have hx0:=hx x (by simp);have hlen:(if ok x then out.set x.toNat (bits .or .i64 (gz out x.toNat) m) else out).length=out.length:=by split<;>simp
   have ih:=ww ok m f fs (k+1) (if ok x then out.set x.toNat (bits .or .i64 (gz out x.toNat) m) else out) h2 (fun y hy=>by rw[hlen];exact hx y (List.mem_cons_of_mem _ hy));have e:orF ok m k (x::fs) out=orF ok m (k+1) fs (if ok x then out.set x.toNat (bits .or .i64 (gz out x.toNat) m) else out):=rfl;rw[e,ih];by_cases c:(f:Int)=x
   ·subst c;have hnm:¬(f:Int)∈fs:=h1;simp only[hnm,decide_false,Bool.false_and,Bool.false_eq_true,if_false,List.mem_cons,true_or,decide_true,Bool.true_and,Int.toNat_natCast];split
    ·rw[eT (by omega),if_pos rfl]
    ·rfl
   ·have hne:f≠x.toNat:=by omega
    have e2:gz (if ok x then out.set x.toNat (bits .or .i64 (gz out x.toNat) m) else out) f=gz out f:=by
     split
     ·rw[eT (by omega),if_neg hne]
     ·rfl
    rw[e2];have e3:decide ((f:Int)∈x::fs)=decide ((f:Int)∈fs):=by
     rw[Bool.eq_iff_iff];simp[c]
    rw[e3]
theorem Nh{f:Int×List Int->Option ((Int×List Int)⊕List Int)}(ok:Int->Bool)(m:Int)(fs:List Int)(F:Nat)(hl:fs.length<=1048576)(hx:∀x∈fs,0<=x/\x<(F:Int))
 (h1:∀(i:Nat) x(o:List Int),fs[i]?=some x->o.length=F->0<=x->x<(F:Int)->o[x.toNat]?=some (gz o x.toNat)->f ((i:Int),o)=some (.inl (((i+1:Nat):Int),if ok x then o.set x.toNat (bits .or .i64 (gz o x.toNat) m) else o)))
 (h2:∀o,f ((fs.length:Int),o)=some (.inr o)) (out:List Int) (ho:out.length=F):bn f N0 (0,out)=some (orF ok m 0 fs out):=by
 exact fO (f:=f) fs (fun i(o:List Int)=>((i:Int),o)) (fun _ x o=>if ok x then o.set x.toNat (bits .or .i64 (gz o x.toNat) m) else o) (fun o=>o) (fun _ o=>o.length=F) (fun i o x hi hI=>by
  obtain⟨q1,q2⟩:=hx x (List.mem_of_getElem? hi);refine⟨by split<;>simp[hI],h1 i x o hi hI q1 q2 (km (by omega))⟩) (fun o _=>h2 o) out ho (by omega)
def amS(f:Nat)(_:Nat)(p:af×Int)(a:Int):Int:=
 let b:=if decide ((f:Int)∈p.1.Work.Fibers)&&(p.2==0||p.2==2) then bits .or .i64 a (dj p.1.WorkBlock) else a
 if decide ((f:Int)∈p.1.Spare.Fibers)&&(p.2==1||(p.2==0&&p.1.Class==1)) then bits .or .i64 b (dj p.1.SpareBlock) else b
def amF(aL:List Int)(ps:List (af×Int))(f:Nat):Int:=if decide ((f:Int)∈aL) then 0 else cM (amS f) 0 ps 0
theorem kB{α A:Type}(g:Nat->α->A->A):∀(xs:List α)(i:Nat)(a:A)(x:α),cM g i (xs++[x]) a=g (i+xs.length) x (cM g i xs a)
 |[],i,a,x=>by simp[cM]
 | y :: ys, i, a, x => by
   simp only[List.cons_append,cM,kB g ys (i+1),List.length_cons];congr 1;omega
theorem SL(r:ar)(b:aH)(aL out:List Int)(n:ah)(hr:uz n r)(hb:dw b)(hg:aL.length<=1048576)(ho:out.length=n.Fibers.length):Ax r b aL out=some (aL,orF (fun x=>!decide (x∈aL)) (dj b) 0 r.Fibers out):=by
 have:=hr.len;unfold Ax;rw[Nh (f:=AY r b aL) (fun x=>!decide (x∈aL)) (dj b) r.Fibers n.Fibers.length (by omega) (fun x hx=>hr.fib x hx) (fun i x o hx hol h0 h1 hg2=>by
  have hlt:=(List.getElem?_eq_some_iff.1 hx).1;have e1:decide ((i:Int)<r.Fibers.length)=true:=by simp[hlt]
  simp only[AY,e1,cond_true,aQ,hx,Option.bind_some,nk aL x hg,hg2,pq hb,bnd];rw[aU (by omega),aE (n:=(i:Int)+1) (by omega) (by omega)];simp only[Option.bind_some];cases decide (x∈aL)<;>rfl) (fun o=>by simp[AY]) out ho]
 rfl
theorem yP{a b:List Int}(hl:a.length=b.length)(h:∀i,i<a.length->gz a i=gz b i):a=b:=by
 apply List.ext_getElem?;intro i;by_cases hi:i<a.length
 ·rw[km hi,km (by omega),h i hi]
 ·rw[List.getElem?_eq_none (by omega),List.getElem?_eq_none (by omega)]
theorem Kc(F i:Nat):gz (List.replicate F 0) i=0:=by
 unfold gz;rw[List.getElem?_replicate];split<;>rfl
theorem KX(F:Nat)(g:Nat->Int){i:Nat}(h:i<F):gz ((List.range F).map g) i=g i:=by
 unfold gz;rw[List.getElem?_map,List.getElem?_range h];rfl
theorem WA(n:ah)(list:List af)(st aL:List Int)(hs:jy n list)(hst:st.length=list.length)(hg:aL.length<=1048576):
 bn (xn list st) N0 (0,List.replicate n.Fibers.length 0,aL)=some ((List.range n.Fibers.length).map (amF aL (list.zip st))):=by
 have h8:=hs.len;obtain⟨o,o1,o2⟩:=bv (f:=xn list st) (fun s=>∃(i:Nat)(out:List Int),s=((i:Int),out,aL)/\i<=list.length/\out.length=n.Fibers.length/\∀f,f<n.Fibers.length->gz out f=amF aL ((list.zip st).take i) f) (fun s=>list.length-s.1.toNat)
  (fun o=>o=(List.range n.Fibers.length).map (amF aL (list.zip st))) (fun s hI=>by
  obtain⟨i,out,rfl,i1,i2,i3⟩:=hI;by_cases hi:i<list.length
  ·left;have hx:list[i]?=some (list[i]'hi):=List.getElem?_eq_getElem hi;have hc:st[i]?=some (st[i]'(by omega)):=List.getElem?_eq_getElem (by omega);generalize list[i]'hi=x at hx;generalize st[i]'(by omega)=c at hc;have hin:=hs.svc x (List.mem_of_getElem? hx);have e1:decide ((i:Int)<(st.length:Int))=true:=decide_eq_true (by omega);have hp:(list.zip st)[i]?=some (x,c):=by rw[List.getElem?_zip_eq_some];exact⟨hx,hc⟩
   have htl:((list.zip st).take i).length=i:=by rw[List.length_take,List.length_zip];omega
   let o1:=if c==0||c==2 then orF (fun x=>!decide (x∈aL)) (dj x.WorkBlock) 0 x.Work.Fibers out else out
   have ho1:o1.length=n.Fibers.length:=by
    show(if c==0||c==2 then _ else _:List Int).length=_;split
    ·rw[so];exact i2
    ·exact i2
   let o2:=if c==1||(c==0&&x.Class==1) then orF (fun x=>!decide (x∈aL)) (dj x.SpareBlock) 0 x.Spare.Fibers o1 else o1
   have ho2:o2.length=n.Fibers.length:=by
    show(if c==1||(c==0&&x.Class==1) then _ else _:List Int).length=_;split
    ·rw[so];exact ho1
    ·exact ho1
   refine⟨(((i+1:Nat):Int),o2,aL),?_,⟨i+1,o2,rfl,by omega,ho2,fun f hf=>?_⟩,by simp only[Int.toNat_natCast];omega⟩
   ·simp only[xn,e1,cond_true,Int.toNat_natCast,hc,aQ,hx];rw[aU (by omega),aE (n:=(i:Int)+1) (by omega) (by omega)];simp only[Option.bind_some];have hc1:(cond (c==0) (some true) (some (c==2)):Option Bool)=some (c==0||c==2):=by cases c==0<;>rfl
    have hc2:(cond (c==1) (some true) (cond (c==0) (some (x.Class==1)) (some false)):Option Bool)=some (c==1||(c==0&&x.Class==1)):=by cases c==1<;>cases c==0<;>rfl
    rw[hc1,hc2];simp only[Option.bind_some,SL x.Work x.WorkBlock aL out n hin.wr hin.wb hg i2];have hA:(cond (c==0||c==2) (some (orF (fun x=>!decide (x∈aL)) (dj x.WorkBlock) 0 x.Work.Fibers out,aL)) (some (out,aL)):Option (List Int×List Int))=some (o1,aL):=by
     show _=some ((if c==0||c==2 then _ else _:List Int),aL);cases c==0||c==2<;>rfl
    rw[hA];simp only[Option.bind_some,SL x.Spare x.SpareBlock aL o1 n hin.sr hin.sb hg ho1];show _=some (Sum.inl (((i+1:Nat):Int),(if c==1||(c==0&&x.Class==1) then _ else _:List Int),aL));cases c==1||(c==0&&x.Class==1)<;>rfl
   ·have hamt:amF aL ((list.zip st).take (i+1)) f=if decide ((f:Int)∈aL) then 0 else amS f i (x,c) (cM (amS f) 0 ((list.zip st).take i) 0):=by
     unfold amF;rw[List.take_add_one,hp];simp only[Option.toList_some];rw[kB,htl,Nat.zero_add]
    rw[hamt];have hi3:=i3 f hf;unfold amF at hi3;have g1:gz o1 f=if decide ((f:Int)∈x.Work.Fibers)&&(c==0||c==2)&&!decide ((f:Int)∈aL) then bits .or .i64 (gz out f) (dj x.WorkBlock) else gz out f:=by
     show gz (if c==0||c==2 then _ else _:List Int) f=_;cases hcc:c==0||c==2
     ·simp
     ·simp only[if_true,Bool.and_true];exact ww _ _ f _ _ _ hin.wr.nod (fun y hy=>by rw[i2];exact hin.wr.fib y hy)
    have g2:gz o2 f=if decide ((f:Int)∈x.Spare.Fibers)&&(c==1||(c==0&&x.Class==1))&&!decide ((f:Int)∈aL) then bits .or .i64 (gz o1 f) (dj x.SpareBlock) else gz o1 f:=by
     show gz (if c==1||(c==0&&x.Class==1) then _ else _:List Int) f=_;cases hcc:c==1||(c==0&&x.Class==1)
     ·simp
     ·simp only[if_true,Bool.and_true];exact ww _ _ f _ _ _ hin.sr.nod (fun y hy=>by rw[ho1];exact hin.sr.fib y hy)
    rw[g2,g1,hi3];unfold amS;cases decide ((f:Int)∈aL)
    ·simp
    ·simp
  ·right;have e1:decide ((i:Int)<(st.length:Int))=false:=decide_eq_false (by omega);refine⟨out,by simp only[xn,e1,cond_false],?_⟩;refine yP (by simp[i2]) fun f hf=>?_;rw[KX _ _ (by omega),i3 f (by omega),List.take_of_length_le (by rw[List.length_zip];omega)]) N0 (((0:Nat):Int),List.replicate n.Fibers.length 0,aL)
  ⟨0,_,rfl,by omega,by simp,fun f hf=>by rw[Kc];unfold amF;simp[cM]⟩ (cw (by simp;omega))
 have e0:((0:Nat):Int)=0:=rfl;rw[e0] at o1;rw[o1,o2]
def amP(n:ah)(list:List af)(failed:List Int):List Int×Bool:=
 if lZ n list failed then((List.range n.Fibers.length).map (amF (dl (aX n) failed) (list.zip (cv (dl (aX n) failed) list))),true) else([],false)
theorem kA(n:ah)(list:List af)(failed:List Int)(hz:bC n<=1048576)(hl:bM list<=1048576)(hf:gj failed<=1048576):Lk n list failed=some (amP n list failed):=by
 unfold Lk amP;rw[jl n list failed hz hl hf];simp only[Option.bind_some];rcases bt (lZ n list failed) with e|e
 ·obtain⟨h1,h2,h3⟩:=nT e;have hn:=(cC h1.net).2.2;have hsl:=gV (dl (aX n) failed) list;have hgl:=lB (fun g hg=>(eY hn g hg).1) failed;rw[e,if_pos rfl];simp only[Bool.not_true,cond_false];rw[aU (by omega)];simp only[Option.bind_some,bnd,Int.toNat_natCast,nY n failed hn h2 (by omega),ik n list failed h1 h2 (by omega)];rw[WA n list _ _ h1 hsl (by omega)];rfl
 ·rw[e];rfl
theorem Vy(n:ah)(list:List af)(st aL:List Int)(f:Nat)(out:List Int)(hs:jy n list)(hst:st.length=list.length)(hg:aL.length<=1048576)(hf:f<n.Fibers.length)(ho:out.length=n.Fibers.length)(h0:gz out f=0):
 ∃o,bn (M_o list st aL ((f:Int),out)) N0 (0,out)=some o/\o.length=n.Fibers.length/\gz o f=amF aL (list.zip st) f/\∀j,j≠f->gz o j=gz out j:=by
 have h8:=hs.len;by_cases hgf:(f:Int)∈aL
 ·refine⟨out,?_,ho,by unfold amF;simp[hgf,h0],fun _ _=>rfl⟩;have hN:N0=(N0-1)+1:=by unfold N0;omega
  rw[hN,bn];simp only[M_o,fJ aL (f:Int) hg,<-kS,hgf,decide_true,Option.bind_some,Bool.not_true];have hc:(cond (decide ((0:Int)<(list.length:Int))) (some false) (some false):Option Bool)=some false:=by cases decide ((0:Int)<(list.length:Int))<;>rfl
  rw[hc];rfl
 ·obtain⟨o,o1,o2,o3,o4⟩:=bv (f:=M_o list st aL ((f:Int),out)) (fun s=>∃(i:Nat)(q:List Int),s=((i:Int),q)/\i<=list.length/\q.length=n.Fibers.length/\gz q f=cM (amS f) 0 ((list.zip st).take i) 0/\∀j,j≠f->gz q j=gz out j) (fun s=>list.length-s.1.toNat)
   (fun o=>o.length=n.Fibers.length/\gz o f=amF aL (list.zip st) f/\∀j,j≠f->gz o j=gz out j) (fun s hI=>by
   obtain⟨i,q,rfl,i1,i2,i3,i4⟩:=hI;by_cases hi:i<list.length
   ·left;have hx:list[i]?=some (list[i]'hi):=List.getElem?_eq_getElem hi;have hc:st[i]?=some (st[i]'(by omega)):=List.getElem?_eq_getElem (by omega);generalize list[i]'hi=x at hx;generalize st[i]'(by omega)=c at hc;have hin:=hs.svc x (List.mem_of_getElem? hx);have w1:=hin.wr.len;have w2:=hin.sr.len;have e1:decide ((i:Int)<(list.length:Int))=true:=decide_eq_true (by omega);have hp:(list.zip st)[i]?=some (x,c):=by rw[List.getElem?_zip_eq_some];exact⟨hx,hc⟩
    have htl:((list.zip st).take i).length=i:=by rw[List.length_take,List.length_zip];omega
    let b1:=decide ((f:Int)∈x.Work.Fibers)&&(c==0||c==2);let q1:=if b1 then q.set f (bits .or .i64 (gz q f) (dj x.WorkBlock)) else q
    have hq1:q1.length=n.Fibers.length:=by
     show(if b1 then _ else _:List Int).length=_;split<;>simp[i2]
    let b2:=decide ((f:Int)∈x.Spare.Fibers)&&(c==1||(c==0&&x.Class==1));let q2:=if b2 then q1.set f (bits .or .i64 (gz q1 f) (dj x.SpareBlock)) else q1
    have hq2:q2.length=n.Fibers.length:=by
     show(if b2 then _ else _:List Int).length=_;split<;>simp[hq1]
    refine⟨(((i+1:Nat):Int),q2),?_,⟨i+1,q2,rfl,by omega,hq2,?_,fun j hj=>?_⟩,by simp only[Int.toNat_natCast];omega⟩
    ·have hd:grd (0<=(i:Int)/\(i:Int)<(st.length:Int))=some ():=aU (by omega);have hqf:q[f]?=some (gz q f):=km (by omega);have hq1f:q1[f]?=some (gz q1 f):=km (by omega);simp only[M_o,e1,cond_true,fJ aL (f:Int) hg,<-kS,hgf,decide_false,Option.bind_some,Bool.not_false,aQ,hx,fJ x.Work.Fibers (f:Int) (by omega),fJ x.Spare.Fibers (f:Int) (by omega),hd,Int.toNat_natCast,hc,hqf,lF hin.wb,lF hin.sb,bnd];rw[aE (n:=(i:Int)+1) (by omega) (by omega),aU (p:=0<=(f:Int)/\(f:Int)<(q.length:Int)) (by omega)];simp only[Option.bind_some];have hc1:(cond (decide ((f:Int)∈x.Work.Fibers)) (cond (c==0) (some true) (some (c==2))) (some false):Option Bool)=some b1:=by
      show _=some (decide ((f:Int)∈x.Work.Fibers)&&(c==0||c==2));cases decide ((f:Int)∈x.Work.Fibers)<;>cases c==0<;>rfl
     have hc2:(cond (decide ((f:Int)∈x.Spare.Fibers)) (cond (c==1) (some true) (cond (c==0) (some (x.Class==1)) (some false))) (some false):Option Bool)=some b2:=by
      show _=some (decide ((f:Int)∈x.Spare.Fibers)&&(c==1||(c==0&&x.Class==1)));cases decide ((f:Int)∈x.Spare.Fibers)<;>cases c==1<;>cases c==0<;>rfl
     rw[hc1,hc2];simp only[Option.bind_some];have hA:(cond b1 (some (q.set f (bits .or .i64 (gz q f) (dj x.WorkBlock)))) (some q):Option (List Int))=some q1:=by
      show _=some (if b1 then _ else _:List Int);cases b1<;>rfl
     rw[hA];simp only[Option.bind_some];rw[aU (p:=0<=(f:Int)/\(f:Int)<(q1.length:Int)) (by omega),hq1f];simp only[Option.bind_some];show _=some (Sum.inl (((i+1:Nat):Int),(if b2 then _ else _:List Int)));cases b2<;>rfl
    ·rw[List.take_add_one,hp];simp only[Option.toList_some];rw[kB,htl,Nat.zero_add,<-i3];unfold amS;have g1:gz q1 f=if b1 then bits .or .i64 (gz q f) (dj x.WorkBlock) else gz q f:=by
      show gz (if b1 then _ else _:List Int) f=_;cases b1
      ·rfl
      ·simp only[if_true];rw[eT (by omega),if_pos rfl]
     have g2:gz q2 f=if b2 then bits .or .i64 (gz q1 f) (dj x.SpareBlock) else gz q1 f:=by
      show gz (if b2 then _ else _:List Int) f=_;cases b2
      ·rfl
      ·simp only[if_true];rw[eT (by omega),if_pos rfl]
     rw[g2,g1]
    ·have g1:gz q1 j=gz q j:=by
      show gz (if b1 then _ else _:List Int) j=_;cases b1
      ·rfl
      ·simp only[if_true];rw[eT (by omega),if_neg hj]
     have g2:gz q2 j=gz q1 j:=by
      show gz (if b2 then _ else _:List Int) j=_;cases b2
      ·rfl
      ·simp only[if_true];rw[eT (by omega),if_neg hj]
     rw[g2,g1,i4 j hj]
   ·right;have e1:decide ((i:Int)<(list.length:Int))=false:=decide_eq_false (by omega);refine⟨q,by simp only[M_o,e1,cond_false,Option.bind_some],i2,?_,i4⟩;unfold amF;rw[i3,List.take_of_length_le (by rw[List.length_zip];omega)];simp[hgf]) N0 (((0:Nat):Int),out) ⟨0,out,rfl,by omega,ho,by simp[cM,h0],fun _ _=>rfl⟩ (cw (by simp;omega))
  exact⟨o,o1,o2,o3,o4⟩
theorem kF(n:ah)(list:List af)(failed:List Int)(hz:bC n<=1048576)(hl:bM list<=1048576)(hf:gj failed<=1048576):GI n list failed=some (amP n list failed):=by
 unfold GI amP;rw[wa n list failed hz hl hf];simp only[Option.bind_some];rcases bt (lZ n list failed) with e|e
 ·obtain⟨h1,h2,h3⟩:=nT e;have hn:=(cC h1.net).2.2;have hsl:=gV (dl (aX n) failed) list;obtain⟨aL,g1,g2,g3⟩:=mz n failed hn h2 (by omega);have hgc:∀ps f,amF (dl (aX n) failed) ps f=amF aL ps f:=fun ps f=>by
   unfold amF;rw[show decide ((f:Int)∈dl (aX n) failed)=decide ((f:Int)∈aL) from by rw[Bool.eq_iff_iff];simp[g2]]
  rw[e,if_pos rfl];simp only[Bool.not_true,cond_false,tC n list failed h1 h2 (by omega),g1,Option.bind_some,bnd,Int.toNat_natCast];generalize cv (dl (aX n) failed) list=st at hsl;rw[aU (by omega)];simp only[Option.bind_some];have hfun:amF (dl (aX n) failed) (list.zip st)=amF aL (list.zip st):=by funext f;exact hgc _ f
  rw[hfun];obtain⟨o,o1,o2⟩:=bv (f:=Bd n list st aL) (fun s=>∃(f:Nat)(q:List Int),s=((f:Int),q)/\f<=n.Fibers.length/\q.length=n.Fibers.length/\(∀j,j<f->gz q j=amF aL (list.zip st) j)/\∀j,f<=j->gz q j=0) (fun s=>n.Fibers.length-s.1.toNat)
   (fun o=>o=(List.range n.Fibers.length).map (amF aL (list.zip st))) (fun s hI=>by
   obtain⟨f,q,rfl,i1,i2,i3,i4⟩:=hI;by_cases hf:f<n.Fibers.length
   ·left;have e1:decide ((f:Int)<(n.Fibers.length:Int))=true:=decide_eq_true (by omega);obtain⟨p,p1,p2,p3,p4⟩:=Vy n list st aL f q h1 hsl g3 hf i2 (i4 f (Nat.le_refl f));simp only[Bd,e1,cond_true,p1,Option.bind_some];rw[aE (by omega) (by omega)];refine⟨_,rfl,⟨f+1,p,rfl,by omega,p2,fun j hj=>?_,fun j hj=>?_⟩,by simp only[];omega⟩
    ·by_cases c:j=f
     ·rw[c];exact p3
     ·rw[p4 j c];exact i3 j (by omega)
    ·rw[p4 j (by omega)];exact i4 j (by omega)
   ·right;have e1:decide ((f:Int)<(n.Fibers.length:Int))=false:=decide_eq_false (by omega);refine⟨q,by simp only[Bd,e1,cond_false],yP (by simp[i2]) fun j hj=>?_⟩;rw[KX _ _ (by omega),i3 j (by omega)]) N0 (((0:Nat):Int),List.replicate n.Fibers.length 0) ⟨0,_,rfl,by omega,by simp,fun j hj=>by omega,fun j _=>Kc _ _⟩ (cw (by simp;omega))
  have e0:((0:Nat):Int)=0:=rfl;rw[e0] at o1;rw[o1,o2];rfl
 ·rw[e];rfl
theorem pk(n:ah)(list:List af)(failed:List Int)(hz:bC n<=1048576)(hl:bM list<=1048576)(hf:gj failed<=1048576):gj (amP n list failed).1<=1048576:=by
 obtain⟨h1,h2,_⟩:=zL hz;unfold amP gj;split
 ·simpa using h2
 ·simp
end Vs

namespace Vs
open Go
def uV(st:List Int)(i:Nat)(x:af):Bool:=decide ((st[i]?).getD 0=3)&&x.Class !=0
def rj(n:ah)(list:List af)(failed:List Int):Option (Nat×af):=dA (uV (cv (dl (aX n) failed) list)) list
theorem WF(n:ah)(list:List af)(failed out:List Int)(id:Int)(hs:jy n list)(hf:∀g∈failed,0<=g/\g<((aX n).length:Int))(hl:failed.length<=1000):
 Kp failed n list out id=some (match rj n list failed with|some q=>(true,n,list,failed,q.2.Id)|none=>(false,n,list,out,id)):=by
 have h8:=hs.len;have hsl:=gV (dl (aX n) failed) list;unfold Kp rj;rw[ik n list failed hs hf hl,Option.bind_some];generalize cv (dl (aX n) failed) list=st at*
 rw[dF (f:=BH failed n list st) list (uV st) (fun _ x=>(true,n,list,failed,x.Id)) () (fun i x hx _=>by
  have hlt:=(List.getElem?_eq_some_iff.1 hx).1;have h1:decide ((i:Int)<(st.length:Int))=true:=by simp;omega
  have h2:st[i]?=some (st[i]'(by omega)):=List.getElem?_eq_getElem (by omega);have h4:AF failed=some failed:=by
   unfold AF;rw[aU (by omega),Option.bind_some];cases he:failed.isEmpty with
   |false=>rfl
   | true =>
     have:failed=[]:=by simpa using he
     subst this;rfl
  simp only[BH,h1,cond_true,aQ,hx,Option.bind_some,Int.toNat_natCast,h2,h4];rw[aE (by omega) (by omega),aU ⟨by omega,by omega⟩,Option.bind_some];unfold uV;rw[h2];simp only[Option.getD_some];by_cases h3:st[i]'(by omega)=3
  ·have e3:(st[i]'(by omega)==3)=true:=by simp[h3]
   rw[e3,cond_true,Option.bind_some];cases hc:(x.Class !=0) with
   |false=>simp[h3]
   |true=>simp[h3]
  ·have e3:(st[i]'(by omega)==3)=false:=by simp[h3]
   rw[e3];simp[h3]) (by
    simp[BH,hsl]) (by omega)]
 rw[Option.bind_some];cases dA (uV st) list<;>rfl
def xC{β:Type}(f:Nat->Option β):Nat->Nat->Option β
 |0,_=>none
 | c + 1, s => match f s with
   |some x=>some x
   |none=>xC f c (s+1)
def srF(n:ah)(list:List af):Nat->List Int->Nat->Option (List Int×Int)
 |0,acc,_=>(rj n list acc).map fun q=>(acc,q.2.Id)
 |r+1,acc,fr=>xC (fun g=>srF n list r (acc++[(g:Int)]) (g+1)) ((aX n).length-fr) fr
theorem lb{n:ah}{list:List af}{K cnt out id}
 {acc:List Int} {rc:Int->Int->Int->List Int->ah->List af->List Int->Int->Option (Bool×ah×List af×List Int×Int)} {f:Nat->Option (List Int×Int)} (hK:K<=1000) (hacc:acc.length<=1000) (hcnt:0<cnt/\cnt<=1000)
 (hrc:∀g:Nat,g<K->rc ((g+1:Nat):Int) (K:Int) ((cnt-1:Nat):Int) (acc++[(g:Int)]) n list out id=some (match f g with|some q=>(true,n,list,q.1,q.2)|none=>(false,n,list,out,id))):
 ∀(c s N:Nat),s+c=K->c<N->bn (M_x (K:Int) (cnt:Int) acc rc) N ((s:Int),n,list,out,id)=some (match xC f c s with|some q=>.inr (true,n,list,q.1,q.2)|none=>.inl (n,list,out,id))
 |0,s,0,_,h=>by omega
 |c+1,s,0,_,h=>by omega
 | 0, s, N + 1, hs, _ => by
   have e1:decide ((s:Int)<(K:Int))=false:=by simp;omega
   rw[bn];unfold M_x;simp only[e1,cond_false];rfl
 | c + 1, s, N + 1, hs, hN => by
   have e1:decide ((s:Int)<(K:Int))=true:=by simp;omega
   have key:M_x (K:Int) (cnt:Int) acc rc ((s:Int),n,list,out,id)=some (match f s with|some q=>.inr (.inr (true,n,list,q.1,q.2))|none=>.inl (((s+1:Nat):Int),n,list,out,id)):=by
    unfold M_x;simp only[e1,cond_true,bnd];rw[aU (by omega),Option.bind_some];have w1:IntKind.wrap .i64 ((s:Int)+1)=((s+1:Nat):Int):=by rw[aE (by omega) (by omega)];rfl
    have w2:IntKind.wrap .i64 ((cnt:Int)-1)=((cnt-1:Nat):Int):=by rw[aE (by omega) (by omega)];omega
    rw[w1,w2,hrc s (by omega),Option.bind_some];cases f s<;>rfl
   rw[bn,key];unfold xC;cases hf:f s with
   |some q=>rfl
   |none=>exact lb hK hacc hcnt hrc c (s+1) N (by omega) (by omega)
theorem rl{n:ah}{list:List af}(hs:jy n list)(out:List Int)(id:Int):∀(r m:Nat)(acc:List Int)(fr:Nat),r<m->r<=3->acc.length+r<=10->(∀g∈acc,0<=g/\g<((aX n).length:Int))->fr<=(aX n).length->
 Bj m (fr:Int) ((aX n).length:Int) (r:Int) acc n list out id=some (match srF n list r acc fr with|some q=>(true,n,list,q.1,q.2)|none=>(false,n,list,out,id))
 | 0, m + 1, acc, fr, _, _, ha, hg, _ => by
   show wo _ _ _ _ _ _ _ _ _=_;unfold wo srF;have e:(((0:Nat):Int)==0)=true:=rfl;rw[e,cond_true,WF n list acc out id hs hg (by omega),Option.bind_some];cases rj n list acc<;>rfl
 | r + 1, m + 1, acc, fr, hm, hr, ha, hg, hfr => by
   have hK:=fg n (cC hs.net).2.2;show wo _ _ _ _ _ _ _ _ _=_;unfold wo srF;have e:(((r+1:Nat):Int)==0)=false:=by simp;omega
   rw[e,cond_false];rw[lb (n:=n) (list:=list) (K:=(aX n).length) (cnt:=r+1) (out:=out) (id:=id) (acc:=acc) (rc:=Bj m) (f:=fun g=>srF n list r (acc++[(g:Int)]) (g+1)) (by omega) (by omega) (by omega) (fun g hgK=>by
    rw[show r+1-1=r by omega];exact rl hs out id r m (acc++[(g:Int)]) (g+1) (by omega) (by omega) (by rw[List.length_append,List.length_singleton];omega) (fun x hx=>by
     rcases List.mem_append.1 hx with hx|hx
     ·exact hg x hx
     ·rw[List.mem_singleton] at hx;omega) (by omega)) ((aX n).length-fr) fr N0 (by omega) (cw (by omega))]
   rw[Option.bind_some];cases xC (fun g=>srF n list r (acc++[(g:Int)]) (g+1)) ((aX n).length-fr) fr<;>rfl
end Vs

namespace Vs
open Go
def flP(n:ah)(list:List af)(size:Int):List Int×Int×Bool×Bool:=if eH n list&&wi size 1 3 then(match srF n list size.toNat [] 0 with|some q=>(q.1,q.2,true,true)|none=>([],0,false,true)) else([],0,false,false)
theorem lP(n:ah)(list:List af)(size:Int)(hz:bC n<=1048576)(hl:bM list<=1048576):JS n list size=some (flP n list size):=by
 unfold JS flP;rw[gu n list hz hl];simp only[Option.bind_some,eP];rcases bt (eH n list) with e|e
 ·rcases bt (wi size 1 3) with e2|e2
  ·have hs:=gH e;have hw:=e2;unfold wi at hw;simp only[Bool.and_eq_true,decide_eq_true_eq] at hw;have hF:=(cC hs.net).2.2;have hc:((size.toNat:Nat):Int)=size:=by omega
   have ho:=rl hs [] 0 size.toNat (N0+1) [] 0 (by have:=cw (n:=size.toNat) (by omega);omega) (by omega) (by simp;omega) (fun g hg=>by cases hg) (by omega);rw[hc] at ho;have ho2:NW 0 ((aX n).length:Int) size [] n list [] 0=_:=ho;simp only[e,e2,Bool.not_true,cond_false,Option.bind_some,Bool.and_self,if_true,jx n hF,ho2];cases srF n list size.toNat [] 0<;>rfl
  ·rw[e,e2];rfl
 ·rw[e];rfl
end Vs

namespace Vs
open Go
theorem ji{n:ah}(h:bK n=true):2<=n.Nodes.length/\n.Nodes.length<=8/\n.Fibers.length<=14:=by
 unfold bK at h;simp only[Bool.and_eq_true,decide_eq_true_eq,cG] at h;omega
theorem pu{n:ah}(h:bK n=true){i:Nat}{f:ay}(hf:n.Fibers[i]?=some f):td n.Nodes.length f:=by
 unfold bK at h;simp only[Bool.and_eq_true,Bool.not_eq_true'] at h;have:=cD.1 h.1.1.2 i f hf;unfold gE at this;simp only[Bool.or_eq_false_iff] at this;exact nj this.1
end Vs

namespace Vs
open Go
def pV(n:ah)(y:Int):Int:=match n.Fibers[y.toNat]? with|some f=>f.Length|none=>0
def kt(n:ah)(r:ar):Int:=cM (fun _ y s=>IntKind.wrap .i64 (s+pV n y)) 0 r.Fibers 0
def RtB(n:ah)(r:ar):Prop:=r.Fibers.length<=20/\(∀e∈r.Fibers,0<=e/\e<n.Fibers.length)/\0<=r.Start/\r.Start<8
theorem eC{n:ah}{r:ar}(h:RtB n r):oO n r=some (kt n r):=by
 have h1:=h.1;unfold oO kt;have:=fO (f:=M_j n r) r.Fibers (fun i(s:Int)=>(s,(i:Int))) (fun _ y s=>IntKind.wrap .i64 (s+pV n y)) id (fun _ _=>True) (fun i s y hy _=>by
  have hlt:=(List.getElem?_eq_some_iff.1 hy).1;have e1:decide ((i:Int)<r.Fibers.length)=true:=by simp[hlt]
  obtain⟨g1,g2⟩:=h.2.1 y (List.mem_of_getElem? hy);have hf:bw n.Fibers y=n.Fibers[y.toNat]?:=by unfold bw;rw[if_pos g1]
  have hs:n.Fibers[y.toNat]?=some (n.Fibers[y.toNat]'(by omega)):=List.getElem?_eq_getElem _;refine⟨trivial,?_⟩;simp only[M_j,e1,cond_true,aQ,hy,Option.bind_some,hf,pV];rw[hs];simp only[Option.bind_some];rw[aE (n:=(i:Int)+1) (by omega) (by omega)];rfl) (fun s _=>by simp[M_j]) 0 trivial (by omega)
 have e0:((0:Nat):Int)=0:=rfl;simp only[e0] at this;rw[this];rfl
theorem zC{n:ah}(hn:bK n=true){r:ar}(h:RtB n r):0<=kt n r/\kt n r<=100000:=by
 have gen:∀(ys:List Int)(i:Nat)(s:Int),(∀e∈ys,0<=e/\e<n.Fibers.length)->i+ys.length<=20->0<=s->s<=5000*i->0<=cM (fun _ y s=>IntKind.wrap .i64 (s+pV n y)) i ys s/\cM (fun _ y s=>IntKind.wrap .i64 (s+pV n y)) i ys s<=5000*(i+ys.length:Nat):=by
  intro ys;induction ys with
  |nil=>intro i s _ _ h1 h2;exact⟨h1,by simpa[cM] using h2⟩
  | cons y ys ih =>
    intro i s hy hi h1 h2;simp only[List.length_cons] at hi;obtain⟨g1,g2⟩:=hy y (by simp);have hs:n.Fibers[y.toNat]?=some (n.Fibers[y.toNat]'(by omega)):=List.getElem?_eq_getElem _;obtain⟨_,_,_,f4,f5,_⟩:=pu hn hs;have hf:pV n y=(n.Fibers[y.toNat]'(by omega)).Length:=by unfold pV;rw[hs]
    have hw:IntKind.wrap .i64 (s+pV n y)=s+pV n y:=aE (by omega) (by omega);simp only[cM];rw[hw];have:=ih (i+1) (s+pV n y) (fun e he=>hy e (by simp[he])) (by omega) (by omega) (by omega);refine⟨this.1,?_⟩;have h3:=this.2;simp only[List.length_cons];omega
 have h1:=h.1;have:=gen r.Fibers 0 0 h.2.1 (by omega) (by omega) (by omega);unfold kt;omega
def KK(b:List Int)(i:Nat)(x:Int):Int:=match b[i]? with|some y=>dC x y|none=>1
def Vo(a b:List Int):Int:=match dA (fun i x=>b[i]? !=some x) a with
 |some q=>KK b q.1 q.2
 |none=>if a.length<b.length then -1 else 0
def PU(n:ah)(a b:ar):Int:=if kt n a≠kt n b then dC (kt n a) (kt n b) else if a.Fibers.length≠b.Fibers.length then dC a.Fibers.length b.Fibers.length else
 if Vo a.Fibers b.Fibers≠0 then Vo a.Fibers b.Fibers else dC a.Start b.Start
theorem ud(x:Int):vH x=some (dC x 0):=by
 unfold vH dC;by_cases h1:x<0
 ·simp[h1]
 ·by_cases h2:0<x<;>simp[h1,h2]
theorem li(x y:Int):dC (x-y) 0=dC x y:=by
 unfold dC;by_cases h1:x<y
 ·rw[if_pos (by omega),if_pos h1]
 ·by_cases h2:y<x
  ·rw[if_neg (by omega),if_pos (by omega),if_neg h1,if_pos h2]
  ·rw[if_neg (by omega),if_neg (by omega),if_neg h1,if_neg h2]
theorem zl(x y:Int):(x-y !=0)=decide (x≠y):=by
 by_cases h:x=y
 ·subst h;simp
 ·have:(x-y !=0)=true:=bne_iff_ne.2 (by omega);rw[this,decide_eq_true h]
theorem uy{n:ah}(hn:bK n=true){a b:ar}(ha:RtB n a)(hb:RtB n b):AZ n a b=some (PU n a b):=by
 obtain⟨b1,b2,b3⟩:=ji hn;have hla:=zC hn ha;have hlb:=zC hn hb;have h1:=ha.1;have h2:=hb.1;obtain⟨s1,s2⟩:=ha.2.2;obtain⟨s3,s4⟩:=hb.2.2;unfold AZ PU;rw[eC ha,Option.bind_some,eC hb,Option.bind_some];simp only[ud,Option.bind_some];rw[aE (n:=kt n a-kt n b) (by omega) (by omega),aE (n:=(a.Fibers.length:Int)-(b.Fibers.length:Int)) (by omega) (by omega),aE (n:=a.Start-b.Start) (by omega) (by omega),zl,zl,li,li,li];by_cases e1:kt n a=kt n b
 ·rw[if_neg (by simpa using e1),decide_eq_false (by simpa using e1),cond_false];by_cases e2:a.Fibers.length=b.Fibers.length
  ·rw[if_neg (by simpa using e2),decide_eq_false (by simp[e2]),cond_false];rw[dF (f:=Dv a b) a.Fibers (fun i x=>b.Fibers[i]? !=some x) (fun i x=>KK b.Fibers i x) () (fun i x hx _=>by
    have hlt:=(List.getElem?_eq_some_iff.1 hx).1;have h3:decide ((i:Int)<a.Fibers.length)=true:=by simp[hlt]
    have h5:b.Fibers[i]?=some (b.Fibers[i]'(by omega)):=List.getElem?_eq_getElem _;obtain⟨x1,x2⟩:=ha.2.1 x (List.mem_of_getElem? hx);obtain⟨y1,y2⟩:=hb.2.1 _ (List.mem_of_getElem? h5);simp only[Dv,h3,cond_true,aQ,hx,Option.bind_some,KK,h5,ud];rw[aE (n:=(i:Int)+1) (by omega) (by omega),aE (n:=x-b.Fibers[i]'(by omega)) (by omega) (by omega),li];by_cases e:x=b.Fibers[i]'(by omega)
    ·have e3:(x !=b.Fibers[i]'(by omega))=false:=by rw[<-e];simp
     have e4:(some (b.Fibers[i]'(by omega)) !=some x)=false:=by rw[<-e];simp
     rw[e3,e4];rfl
    ·have e3:(x !=b.Fibers[i]'(by omega))=true:=bne_iff_ne.2 e;have e4:(some (b.Fibers[i]'(by omega)) !=some x)=true:=bne_iff_ne.2 fun e'=>e (Option.some.inj e').symm;rw[e3,e4];rfl) (by simp[Dv]) (by omega)]
   unfold Vo;cases hf:dA (fun i x=>b.Fibers[i]? !=some x) a.Fibers with
   | none =>
     simp only[Option.bind_some];rw[if_neg (show¬a.Fibers.length<b.Fibers.length by omega),if_neg (by simp)]
   | some q =>
     obtain⟨g1,g2,_⟩:=dD.1 (show dA (fun i x=>b.Fibers[i]? !=some x) a.Fibers=some (q.1,q.2) from hf);have hlt:=(List.getElem?_eq_some_iff.1 g1).1;have h5:b.Fibers[q.1]?=some (b.Fibers[q.1]'(by omega)):=List.getElem?_eq_getElem _;have hz:KK b.Fibers q.1 q.2≠0:=by
      unfold KK;rw[h5] at g2⊢;exact fun e=>bne_iff_ne.1 g2 (by rw[dL.1 e])
     simp only[Option.bind_some];rw[if_pos hz]
  ·rw[if_pos (by simpa using e2),decide_eq_true (by simp;omega),cond_true]
 ·rw[if_pos (by simpa using e1),decide_eq_true (by simpa using e1),cond_true]
end Vs

namespace Vs
open Go
theorem jC{α:Type}(xs:List α)(k:Nat)(h:k<=xs.length):dt xs 0 k=xs.take k:=by rw[eB,List.drop_zero]
theorem uX{α:Type}(xs:List α)(k:Nat)(h:k<=xs.length):dt xs k (xs.length-k)=xs.drop k:=by
 rw[eB,List.take_of_length_le (by simp)]
theorem Ho{f:Int->Option (Int⊕Int)}{L:List ar}(hl:L.length<=1000)(g:ar->Int)
 (h1:∀(i:Nat)(y:ar),L[i]?=some y->f ((i+1:Nat):Int)=some (if decide (g y<0) then .inl (i:Int) else .inr ((i+1:Nat):Int))) (h2:f 0=some (.inr 0)):∃k:Nat,bn f N0 (L.length:Int)=some (k:Int)/\k<=L.length:=by
 obtain⟨b,b1,b2⟩:=bv (f:=f) (fun s=>∃i:Nat,s=(i:Int)/\i<=L.length) (fun s=>s.toNat) (fun b=>∃k:Nat,b=(k:Int)/\k<=L.length) (fun s⟨i,e,hi⟩=>by
  subst e;cases i with
  |zero=>exact .inr ⟨0,h2,0,rfl,Nat.zero_le _⟩
  | succ i =>
    have hs:=h1 i _ (List.getElem?_eq_getElem (show i<L.length by omega));rw[hs];split
    ·exact .inl ⟨_,rfl,⟨i,rfl,by omega⟩,by simp⟩
    ·exact .inr ⟨_,rfl,i+1,rfl,hi⟩) N0 (L.length:Int) ⟨L.length,rfl,Nat.le_refl _⟩ (cw (by omega))
 obtain⟨k,e,hk⟩:=b2;exact⟨k,by rw[b1,e],hk⟩
theorem UC{n:ah}(hn:bK n=true){s d:Int}{L:List ar}{fs:List Int}(hr:RtB n ⟨s,fs⟩)(hL:∀r∈L,RtB n r)(hl:L.length<=500):
 ∃L',IZ ⟨s,fs⟩ n.Nodes n.Fibers d L=some (n.Nodes,n.Fibers,d,L',L)/\L'.length=L.length+1/\∀r∈L',RtB n r:=by
 obtain⟨k,k1,k2⟩:=Ho (f:=BV ⟨s,fs⟩ n.Nodes n.Fibers L) (L:=L) (by omega) (PU n ⟨s,fs⟩) (fun i y hy=>by
  have hlt:=(List.getElem?_eq_some_iff.1 hy).1;have e1:decide (0<((i+1:Nat):Int))=true:=by simp only[decide_eq_true_eq];omega
  have e2:IntKind.wrap .i64 (((i+1:Nat):Int)-1)=(i:Int):=by rw[aE (by omega) (by omega)];omega
  unfold BV;rw[e1,cond_true,e2,aU ⟨by omega,by omega⟩,Option.bind_some,Int.toNat_natCast,hy,Option.bind_some,uy hn hr (hL y (List.mem_of_getElem? hy)),Option.bind_some];cases decide (PU n ⟨s,fs⟩ y<0)<;>rfl) (by simp[BV])
 unfold IZ;rw[k1,Option.bind_some,aU ⟨trivial,by omega,trivial,by simpa using k2⟩];simp only[Option.bind_some,bnd,Int.toNat_natCast];rw[aU (by rw[jC _ _ k2];simp;omega),Option.bind_some,aU (by rw[jC _ _ k2];simp;omega),Option.bind_some,aU ⟨by omega,trivial,k2,trivial⟩,Option.bind_some,aU (by rw[jC _ _ k2,uX _ _ k2];simp;omega),Option.bind_some,jC _ _ k2,uX _ _ k2];refine⟨_,rfl,by simp;omega,fun r hr'=>?_⟩;simp only[List.append_assoc,List.mem_append,List.mem_singleton] at hr';rcases hr' with h|rfl|h
 ·exact hL r (List.mem_of_mem_take h)
 ·exact hr
 ·exact hL r (List.mem_of_mem_drop h)
structure sB(n:ah)(s:Int)(p q:List Int):Prop where
 len:q.length=p.length+1
 nd:q.Nodup
 rg:∀x∈q,0<=x/\x<(n.Nodes.length:Int)
 pr:∀e∈p,0<=e/\e<(n.Fibers.length:Int)
 st:0<=s/\s<8
theorem sB.le{n:ah}{s:Int}{p q:List Int}(h:sB n s p q):q.length<=n.Nodes.length:=jB _ q h.nd h.rg
theorem sB.rt{n:ah}(hn:bK n=true){s:Int}{p q:List Int}(h:sB n s p q):RtB n ⟨s,p⟩:=by
 obtain⟨b1,b2,b3⟩:=ji hn;have h1:=h.le;have h2:=h.len;exact⟨by show p.length<=20;omega,h.pr,h.st⟩
def OkL(n:ah)(L:List ar):Prop:=L.length<=201/\∀r∈L,RtB n r
theorem oP{n:ah}(hn:bK n=true){s d:Int}{k:Nat}{rc:Int->List ByteArray->List ay->Int->List ar->List Int->List Int->Option (List ByteArray×List ay×Int×List ar×List Int)}
 (L:List ar) (p q:List Int) (hrc:∀(L:List ar)(p1 q1:List Int),sB n s p1 q1->q1.length+k=n.Nodes.length->q1.length=q.length+1->OkL n L->L.length<=200->∃L',rc s n.Nodes n.Fibers d L p1 q1=some (n.Nodes,n.Fibers,d,L',q1)/\OkL n L') (hp:sB n s p q) (hq:q.length+k+1=n.Nodes.length\/k=0/\q.length=n.Nodes.length) (hL:OkL n L) (hl:L.length<=200):
 ∃L',BR rc s n.Nodes n.Fibers d L p q=some (n.Nodes,n.Fibers,d,L',q)/\OkL n L':=by
 obtain⟨b1,b2,b3⟩:=ji hn;have h1:=hp.le;have h2:=hp.len;have hix:IntKind.wrap .i64 ((q.length:Int)-1)=((q.length-1:Nat):Int):=by rw[aE (by omega) (by omega)];omega
 have hat:q[q.length-1]?=some (q[q.length-1]'(by omega)):=List.getElem?_eq_getElem _;generalize hv:q[q.length-1]'(by omega)=v at hat;unfold BR;rw[hix,aU ⟨by omega,by omega⟩,Option.bind_some,Int.toNat_natCast,hat,Option.bind_some];cases v==d with
 | true =>
   obtain⟨L',e1,e2,e3⟩:=UC hn (d:=d) (hp.rt hn) hL.2 (by have:=hL.1;omega);rw[cond_true,e1,Option.bind_some];exact⟨L',rfl,by omega,e3⟩
 | false =>
   rw[cond_false];obtain⟨b,o1,o2⟩:=bv (f:=Jg s p q rc v) (fun t=>∃(i:Nat)(L':List ar),t=((i:Int),n.Nodes,n.Fibers,d,L')/\i<=n.Fibers.length/\OkL n L') (fun t=>n.Fibers.length-t.1.toNat) (fun b=>∃L',b=(n.Nodes,n.Fibers,d,L')/\OkL n L') (fun t⟨i,L',e,hi,hL'⟩=>by
    subst e;unfold Jg;by_cases h3:i<n.Fibers.length/\L'.length<=200
    ·left;have e1:decide ((i:Int)<(n.Fibers.length:Int))=true:=by simp[h3.1]
     have e2:decide ((L'.length:Int)<=200)=true:=by simp only[decide_eq_true_eq];omega
     have hwi:wi (i:Int) 0 ((n.Fibers.length:Int)-1)=true:=cG.2 (by omega);simp only[e1,e2,cond_true,Option.bind_some,jN n (i:Int) v hwi,fJ q _ (show q.length<=1048576 by omega)];by_cases h4:0<=dd n (i:Int) v/\(q.any fun y=>y==dd n (i:Int) v)=false
     ·have e3:decide (0<=dd n (i:Int) v)=true:=by simp[h4.1]
      obtain⟨f,f1,f2⟩:=oI hwi;have hfo:=pu hn f2;obtain⟨fa,fb,fc,_⟩:=hfo;have hlt:dd n (i:Int) v<(n.Nodes.length:Int):=by
       have h0:=h4.1;unfold dd at h0⊢;rw[f2] at h0⊢;simp only[je] at h0⊢;by_cases c1:v=f.A
       ·rw[if_pos c1];omega
       ·rw[if_neg c1];by_cases c2:v=f.B
        ·rw[if_pos c2];omega
        ·rw[if_neg c2];omega
      have hP:sB n s (p++[(i:Int)]) (q++[dd n (i:Int) v]):=by
       refine⟨by simp;omega,?_,fun x hx=>?_,fun x hx=>?_,hp.st⟩
       ·rw[List.nodup_append];refine⟨hp.nd,by simp,fun x hx y hy e=>?_⟩;simp only[List.mem_singleton] at hy;have:=List.any_eq_false.1 h4.2 x hx;simp only[beq_iff_eq] at this;exact this (e.trans hy)
       ·rcases List.mem_append.1 hx with h|h
        ·exact hp.rg x h
        ·simp only[List.mem_singleton] at h;rw[h];exact⟨h4.1,hlt⟩
       ·rcases List.mem_append.1 hx with h|h
        ·exact hp.pr x h
        ·simp only[List.mem_singleton] at h;rw[h];omega
      have hle:=hP.le;simp only[List.length_append,List.length_singleton] at hle;obtain⟨L2,c1,c2⟩:=hrc L' (p++[(i:Int)]) (q++[dd n (i:Int) v]) hP (by simp only[List.length_append,List.length_singleton];omega) (by simp) hL' h3.2;have ep:nf p=some p:=by unfold nf;rw[aU (by omega)];rfl
      have eq:nf q=some q:=by unfold nf;rw[aU (by omega)];rfl
      simp only[e3,h4.2,cond_true,Bool.not_false,Option.bind_some,ep,eq,bnd];rw[aU (by omega),Option.bind_some,aU (by omega),Option.bind_some,c1,Option.bind_some];refine⟨_,rfl,⟨i+1,L2,by rw[aE (by omega) (by omega)];rfl,by omega,c2⟩,?_⟩;simp only;rw[aE (by omega) (by omega)];omega
     ·have e3:(cond (decide (0<=dd n (i:Int) v)) (some (!(q.any fun y=>y==dd n (i:Int) v))) (some false):Option Bool)=some false:=by
       by_cases h5:0<=dd n (i:Int) v
       ·have:(q.any fun y=>y==dd n (i:Int) v)=true:=by
         cases h6:(q.any fun y=>y==dd n (i:Int) v) with
         |true=>rfl
         |false=>exact absurd ⟨h5,h6⟩ h4
        simp[h5,this]
       ·simp[h5]
      rw[e3];simp only[Option.bind_some,cond_false];refine⟨_,rfl,⟨i+1,L',by rw[aE (by omega) (by omega)];rfl,by omega,hL'⟩,?_⟩;simp only;rw[aE (by omega) (by omega)];omega
    ·right;have e1:(cond (decide ((i:Int)<(n.Fibers.length:Int))) (some (decide ((L'.length:Int)<=200))) (some false):Option Bool)=some false:=by
      by_cases h5:i<n.Fibers.length
      ·have:¬L'.length<=200:=fun h=>h3 ⟨h5,h⟩;have e6:decide ((L'.length:Int)<=200)=false:=by simp only[decide_eq_false_iff_not];omega
       simp[h5,e6]
      ·simp[h5]
     simp only[e1,Option.bind_some,cond_false];exact⟨_,rfl,L',rfl,hL'⟩) N0 (0,n.Nodes,n.Fibers,d,L) ⟨0,L,rfl,Nat.zero_le _,hL⟩ (cw (by simp only;omega))
   obtain⟨L',e,hL'⟩:=o2;rw[o1,e];exact⟨L',rfl,hL'⟩
theorem Kn{n:ah}(hn:bK n=true){s d:Int}:∀(k m:Nat),k<m->∀(L:List ar)(p q:List Int),sB n s p q->q.length+k=n.Nodes.length->OkL n L->L.length<=200->
 ∃L',vK m s n.Nodes n.Fibers d L p q=some (n.Nodes,n.Fibers,d,L',q)/\OkL n L'
 |0,0,h=>by omega
 | 0, m + 1, _ => fun L p q hp hq hL hl => by
   exact oP hn (k:=0) L p q (fun L1 p1 q1 hp1 hq1 e _ _=>by omega) hp (.inr ⟨rfl,by omega⟩) hL hl
 | k + 1, m, hm => fun L p q hp hq hL hl => by
   obtain⟨m,rfl⟩:∃m',m=m'+1:=⟨m-1,by omega⟩;exact oP hn (k:=k) L p q (fun L1 p1 q1 hp1 hq1 _ hL1 hl1=>Kn hn k m (by omega) L1 p1 q1 hp1 hq1 hL1 hl1) hp (.inl (by omega)) hL hl
theorem VN{n:ah}(hn:bK n=true){a b:Int}(ha:0<=a/\a<(n.Nodes.length:Int)):∃ok L,Lr n a b=some (ok,L)/\L.length<=200/\∀r∈L,RtB n r:=by
 obtain⟨b1,b2,b3⟩:=ji hn;have hP:sB n a [] [a]:=⟨rfl,by simp,fun x hx=>by simp only[List.mem_singleton] at hx;rw[hx];exact ha,fun e he=>(by cases he),⟨ha.1,by omega⟩⟩;have e:Qj a n.Nodes n.Fibers b [a]=BR (vK N0) a n.Nodes n.Fibers b [] [] [a]:=rfl;obtain⟨L',e1,e2,e3⟩:=oP hn (d:=b) (k:=n.Nodes.length-2) (rc:=vK N0) [] [] [a] (fun L1 p1 q1 hp1 hq1 _ hL1 hl1=>Kn hn (n.Nodes.length-2) N0 (cw (by omega)) L1 p1 q1 hp1 hq1 hL1 hl1) hP (.inl (by simp only[List.length_singleton];omega)) ⟨by simp,fun r hr=>by cases hr⟩ (by simp);unfold Lr;simp only[bnd];rw[e,e1,Option.bind_some];by_cases h:200<L'.length
 ·have e4:decide ((200:Int)<(L'.length:Int))=true:=by simp only[decide_eq_true_eq];omega
  rw[e4];exact⟨false,[],rfl,by simp,fun r hr=>by cases hr⟩
 ·have e4:decide ((200:Int)<(L'.length:Int))=false:=by simp only[decide_eq_false_iff_not];omega
  rw[e4,cond_false,aU (by simp only;omega),Option.bind_some];exact⟨true,L',rfl,by omega,e3⟩
def F2:List aR:=[⟨3000,10⟩,⟨900,20⟩]
theorem Ub(len:Int):∃r,LZ F2 len=some r/\-1<=r/\r<2:=by
 unfold LZ;obtain⟨b,b1,b2⟩:=bv (f:=LV F2 len) (fun s=>∃i:Nat,s.2=(i:Int)/\i<=2/\-1<=s.1/\s.1<(2:Int)) (fun s=>2-s.2.toNat) (fun b=>-1<=b/\b<(2:Int)) (fun s⟨i,e,hi,h1,h2⟩=>by
  obtain⟨x,y⟩:=s;simp only at e h1 h2;subst e;unfold LV;by_cases h:i<2
  ·left;obtain⟨f,hf⟩:∃f,F2[i]?=some f:=⟨_,List.getElem?_eq_getElem (show i<F2.length from h)⟩;have e1:decide ((i:Int)<(F2.length:Int))=true:=by simp only[decide_eq_true_eq];show(i:Int)<2;omega
   simp only[e1,cond_true,aQ,hf,Option.bind_some];rw[aE (by omega) (by omega)];cases decide (len<=f.Reach) with
   |true=>exact⟨_,rfl,⟨i+1,rfl,by omega,by simp only;omega,by simp only;omega⟩,by simp only;omega⟩
   |false=>exact⟨_,rfl,⟨i+1,rfl,by omega,h1,h2⟩,by simp only;omega⟩
  ·right;have e1:decide ((i:Int)<(F2.length:Int))=false:=by simp only[decide_eq_false_iff_not];show¬(i:Int)<2;omega
   simp only[e1,cond_false];exact⟨_,rfl,h1,h2⟩) N0 (-1,0) ⟨0,rfl,by omega,by simp,by simp⟩ (cw (by simp))
 exact⟨b,by rw[b1];rfl,b2.1,b2.2⟩
theorem zd(len rate:Int)(hr:1<=rate/\rate<=1000):∃x,rz F2 len rate=some x/\0<=x/\x<=24:=by
 obtain⟨r,r1,r2,r3⟩:=Ub len;unfold rz;rw[r1,Option.bind_some];by_cases h0:r<0
 ·exact⟨0,by rw[decide_eq_true h0];rfl,by omega,by omega⟩
 ·rw[decide_eq_false h0,cond_false];have key:∀q:Int,(q=10\/q=20)->∃x,((grd (q≠0)).bind fun _=>cond (decide (24<(IntKind.wrap .i64 (Int.tdiv (IntKind.wrap .i64 ((IntKind.wrap .i64 (rate+q))-1)) q)))) (some 0) (some (IntKind.wrap .i64 (Int.tdiv (IntKind.wrap .i64 ((IntKind.wrap .i64 (rate+q))-1)) q))))=some x/\0<=x/\x<=24:=fun q hq=>by
   have hq0:q≠0:=by omega
   rw[aU hq0,Option.bind_some,aE (n:=rate+q) (by omega) (by omega),aE (n:=rate+q-1) (by omega) (by omega)];have hd:0<=Int.tdiv (rate+q-1) q:=Int.tdiv_nonneg (by omega) (by omega);have hd2:Int.tdiv (rate+q-1) q<=rate+q-1:=by
    rw[Int.tdiv_eq_ediv_of_nonneg (by omega)];exact Int.ediv_le_self _ (by omega)
   rw[aE (by omega) (by omega)];by_cases h:24<Int.tdiv (rate+q-1) q
   ·rw[decide_eq_true h];exact⟨0,rfl,by omega,by omega⟩
   ·rw[decide_eq_false h];exact⟨_,rfl,hd,by omega⟩
  have hr01:r=0\/r=1:=by omega
  rcases hr01 with rfl|rfl
  ·exact key 10 (.inl rfl)
  ·exact key 20 (.inr rfl)
structure UsO(n:ah)(Rs:List ar)(Ss:List Int):Prop where
 len:Ss.length=Rs.length
 le:Rs.length<=200
 rt:∀r∈Rs,RtB n r
 sl:∀s∈Ss,0<=s/\s<=24
theorem Hv{n:ah}(hn:bK n=true){d:be}(hd:0<=d.From/\d.From<(n.Nodes.length:Int))(hr:1<=d.Rate/\d.Rate<=1000):∃ok Rs Ss,Jz n 0 2 d F2=some (ok,Rs,Ss,F2)/\UsO n Rs Ss:=by
 obtain⟨ok,L,e1,e2,e3⟩:=VN hn (b:=d.To) hd;unfold Jz;rw[e1,Option.bind_some];cases ok with
 |false=>exact⟨false,[],[],rfl,rfl,by simp,fun r hr=>(by cases hr),fun r hr=>by cases hr⟩
 | true =>
   simp only[Bool.not_true,cond_false];obtain⟨b,b1,b2⟩:=bv (f:=JF n 0 2 d F2 (true,L)) (fun s=>∃i:Nat,s.1=(i:Int)/\i<=L.length/\s.2.1.length<=i/\UsO n s.2.1 s.2.2) (fun s=>L.length-s.1.toNat) (fun b=>UsO n b.1 b.2) (fun s⟨i,e,hi,hl,hU⟩=>by
    obtain⟨x,Rs,Ss⟩:=s;simp only at e hl hU;subst e;unfold JF;by_cases h:i<L.length
    ·left;have hx:L[i]?=some L[i]:=List.getElem?_eq_getElem h;have hR:=e3 L[i] (List.getElem_mem h);obtain⟨z,z1,z2,z3⟩:=zd (kt n L[i]) d.Rate hr;have e4:decide ((i:Int)<(L.length:Int))=true:=by simp[h]
     have e5:dt F2 0 2=F2:=rfl;simp only[e4,cond_true];rw[aU ⟨by omega,by omega⟩,Option.bind_some,Int.toNat_natCast,hx,Option.bind_some,eC hR,Option.bind_some];simp only[bnd,e5,z1,Option.bind_some];rw[aE (by omega) (by omega)];have hll:=hU.len;cases decide (0<z) with
     | true =>
       rw[cond_true,aU (by omega),Option.bind_some,aU (by omega),Option.bind_some];refine⟨_,rfl,⟨i+1,rfl,by omega,by simp;omega,by simp;omega,by simp;omega,fun r hr=>?_,fun q hq=>?_⟩,by simp only;omega⟩
       ·rcases List.mem_append.1 hr with h1|h1
        ·exact hU.rt r h1
        ·simp only[List.mem_singleton] at h1;rw[h1];exact hR
       ·rcases List.mem_append.1 hq with h1|h1
        ·exact hU.sl q h1
        ·simp only[List.mem_singleton] at h1;rw[h1];exact⟨z2,z3⟩
     |false=>exact⟨_,rfl,⟨i+1,rfl,by omega,by simp only;omega,hU⟩,by simp only;omega⟩
    ·right;have e4:decide ((i:Int)<(L.length:Int))=false:=by simp only[decide_eq_false_iff_not];omega
     simp only[e4,cond_false];exact⟨_,rfl,hU⟩) N0 (0,[],[]) ⟨0,rfl,by omega,by simp,rfl,by simp,fun r hr=>(by cases hr),fun r hr=>by cases hr⟩ (cw (by simp only;omega))
   rw[b1,Option.bind_some];exact⟨true,b.1,b.2,rfl,b2⟩
theorem Ll{n:ah}{Rs:List ar}{Ss:List Int}(h:UsO n Rs Ss):∃r:Int,Jt Rs Ss=some r/\-1<=r/\r<(Rs.length:Int):=by
 have hle:=h.le;have hlen:=h.len;unfold Jt;obtain⟨b,b1,b2⟩:=bv (f:=Lu Rs Ss) (fun s=>∃i:Nat,s.2=(i:Int)/\i<=Rs.length/\-1<=s.1/\s.1<(i:Int)) (fun s=>Rs.length-s.2.toNat) (fun b=>-1<=b/\b<(Rs.length:Int)) (fun s⟨i,e,hi,h1,h2⟩=>by
  obtain⟨x,y⟩:=s;simp only at e h1 h2;subst e;unfold Lu;by_cases hl:i<Rs.length
  ·left;have e1:decide ((i:Int)<(Rs.length:Int))=true:=by simp[hl]
   have hc:∃c:Bool,(cond (decide (x<0)) (some true) ((bw Ss (i:Int)).bind fun yZ4=>(bw Rs (i:Int)).bind fun yZ5=>(bw Ss x).bind fun yZ6=>(bw Rs x).bind fun yZ7=>some (decide ((IntKind.wrap .i64 (yZ4*(yZ5.Fibers.length:Int)))<(IntKind.wrap .i64 (yZ6*(yZ7.Fibers.length:Int)))))):Option Bool)=some c:=by
    by_cases hx:x<0
    ·exact⟨true,by rw[decide_eq_true hx];rfl⟩
    ·rw[decide_eq_false hx,cond_false,aQ,aQ,List.getElem?_eq_getElem (show i<Ss.length by omega),List.getElem?_eq_getElem hl];have hg1:bw Ss x=some (Ss[x.toNat]'(by omega)):=by unfold bw;rw[if_pos (by omega)];exact List.getElem?_eq_getElem _
     have hg2:bw Rs x=some (Rs[x.toNat]'(by omega)):=by unfold bw;rw[if_pos (by omega)];exact List.getElem?_eq_getElem _
     rw[hg1,hg2];exact⟨_,rfl⟩
   obtain⟨c,hc⟩:=hc;simp only[e1,cond_true,hc,Option.bind_some];rw[aE (by omega) (by omega)];cases c with
   |true=>exact⟨_,rfl,⟨i+1,rfl,by omega,by simp only;omega,by simp only;omega⟩,by simp only;omega⟩
   |false=>exact⟨_,rfl,⟨i+1,rfl,by omega,h1,by simp only;omega⟩,by simp only;omega⟩
  ·right;have e1:decide ((i:Int)<(Rs.length:Int))=false:=by simp only[decide_eq_false_iff_not];omega
   simp only[e1,cond_false];exact⟨_,rfl,h1,by omega⟩) N0 (-1,0) ⟨0,rfl,by omega,by simp,by simp⟩ (cw (by simp only;omega))
 exact⟨b,by rw[b1];rfl,b2.1,b2.2⟩
theorem apT{n:ah}(hn:bK n=true){a b:ar}(ha:RtB n a)(hb:RtB n b):sF n a b=some (apP n a.Fibers b.Fibers):=by
 have h1:=ha.1;have h2:=hb.1;exact jW n a b (ji hn).2.2 (by omega) (by omega) ha.2.1
def PrI(m:Nat)(s:Int×Int×Int×Int):Prop:=(-1<=s.1/\s.1<(m:Int))/\(0<=s.1->0<=s.2.1/\s.2.1<(m:Int))
theorem Qr{n:ah}(hn:bK n=true){Rs:List ar}{Ss:List Int}(h:UsO n Rs Ss)(s1:Int×Int×Int×Int){i:Nat}(hi:s1.2.2.2=(i:Int))(hil:i<Rs.length)(x y w:Int)(h0:PrI Rs.length (x,y,w,0)):
 ∃b:Int×Int×Int,bn (M_p n Rs Ss s1) N0 (x,y,w,0)=some b/\PrI Rs.length (b.1,b.2.1,b.2.2,0):=by
 have hle:=h.le;have hlen:=h.len;obtain⟨b,b1,b2⟩:=bv (f:=M_p n Rs Ss s1) (fun s=>∃j:Nat,s.2.2.2=(j:Int)/\j<=Rs.length/\PrI Rs.length (s.1,s.2.1,s.2.2.1,0)) (fun s=>Rs.length-s.2.2.2.toNat) (fun b=>PrI Rs.length (b.1,b.2.1,b.2.2,0)) (fun s⟨j,e,hj,hP⟩=>by
  obtain⟨x,y,w,z⟩:=s;simp only at e hP;subst e;by_cases hl:j<Rs.length
  ·left;have e1:decide ((j:Int)<(Rs.length:Int))=true:=by simp[hl]
   have g1:Ss[i]?=some (Ss[i]'(by omega)):=List.getElem?_eq_getElem _;have g2:Rs[i]?=some (Rs[i]'hil):=List.getElem?_eq_getElem _;have g3:Ss[j]?=some (Ss[j]'(by omega)):=List.getElem?_eq_getElem _;have g4:Rs[j]?=some (Rs[j]'hl):=List.getElem?_eq_getElem _;have ha:=apT hn (h.rt _ (List.getElem_mem hil)) (h.rt _ (List.getElem_mem hl));have hw:IntKind.wrap .i64 ((j:Int)+1)=((j+1:Nat):Int):=by rw[aE (by omega) (by omega)];rfl
   have stay:∃s',(some (.inl (x,y,w,IntKind.wrap .i64 ((j:Int)+1))):Option ((Int×Int×Int×Int)⊕(Int×Int×Int)))=some (.inl s')/\(∃j:Nat,s'.2.2.2=(j:Int)/\j<=Rs.length/\PrI Rs.length (s'.1,s'.2.1,s'.2.2.1,0))/\Rs.length-s'.2.2.2.toNat<Rs.length-((j:Int)).toNat:=
    ⟨_,rfl,⟨j+1,hw,by omega,hP⟩,by simp only[hw];omega⟩
   have go:∀q:Int,∃s',(some (.inl ((i:Int),(j:Int),q,IntKind.wrap .i64 ((j:Int)+1))):Option ((Int×Int×Int×Int)⊕(Int×Int×Int)))=some (.inl s')/\(∃j:Nat,s'.2.2.2=(j:Int)/\j<=Rs.length/\PrI Rs.length (s'.1,s'.2.1,s'.2.2.1,0))/\Rs.length-s'.2.2.2.toNat<Rs.length-((j:Int)).toNat:=fun q=>
    ⟨_,rfl,⟨j+1,hw,by omega,⟨by simp only;omega,fun _=>by simp only;omega⟩⟩,by simp only[hw];omega⟩
   unfold M_p;simp only[e1,cond_true,hi,aQ,g1,g2,g3,g4,Option.bind_some,ha];generalize IntKind.wrap .i64 (Ss[j]*(Rs[j].Fibers.length:Int))=u;generalize IntKind.wrap .i64 (Ss[i]*(Rs[i].Fibers.length:Int))=v;generalize apP n Rs[i].Fibers Rs[j].Fibers=c;cases((i:Int)==(j:Int))<;>cases decide (u<v)<;>cases(v==u)<;>cases decide ((j:Int)<(i:Int))<;>cases c<;>simp only[cond_true,cond_false,Option.bind_some,Bool.not_true,Bool.not_false]<;>first|exact stay|(split<;>first|exact stay|exact go _)|(cases decide (x<0)<;>simp only[cond_true,cond_false,Option.bind_some]<;>first|exact go _|(cases decide (IntKind.wrap .i64 (v+u)<w)<;>simp only[cond_true,cond_false]<;>first|exact stay|exact go _))
  ·right;have e1:decide ((j:Int)<(Rs.length:Int))=false:=by simp only[decide_eq_false_iff_not];omega
   unfold M_p;simp only[e1,cond_false];exact⟨_,rfl,hP⟩) N0 (x,y,w,0) ⟨0,rfl,by omega,h0⟩ (cw (by simp only;omega))
 exact⟨b,b1,b2⟩
theorem Qp{n:ah}(hn:bK n=true){Rs:List ar}{Ss:List Int}(h:UsO n Rs Ss):∃a b:Int,GV n Rs Ss=some (a,b)/\(-1<=a/\a<(Rs.length:Int))/\(0<=a->0<=b/\b<(Rs.length:Int)):=by
 have hle:=h.le;unfold GV;obtain⟨b,b1,b2⟩:=bv (f:=HZ n Rs Ss) (fun s=>∃j:Nat,s.2.2.2=(j:Int)/\j<=Rs.length/\PrI Rs.length (s.1,s.2.1,s.2.2.1,0)) (fun s=>Rs.length-s.2.2.2.toNat) (fun b=>PrI Rs.length (b.1,b.2,0,0)) (fun s⟨j,e,hj,hP⟩=>by
  obtain⟨x,y,w,z⟩:=s;simp only at e hP;subst e;unfold HZ;by_cases hl:j<Rs.length
  ·left;have e1:decide ((j:Int)<(Rs.length:Int))=true:=by simp[hl]
   have hw:IntKind.wrap .i64 ((j:Int)+1)=((j+1:Nat):Int):=by rw[aE (by omega) (by omega)];rfl
   obtain⟨c,c1,c2⟩:=Qr hn h (x,y,w,(j:Int)) rfl hl x y w hP;simp only[e1,cond_true,c1,Option.bind_some];exact⟨_,rfl,⟨j+1,hw,by omega,c2⟩,by simp only[hw];omega⟩
  ·right;have e1:decide ((j:Int)<(Rs.length:Int))=false:=by simp only[decide_eq_false_iff_not];omega
   simp only[e1,cond_false];exact⟨_,rfl,hP⟩) N0 (-1,-1,0,0) ⟨0,rfl,by omega,⟨by simp only;omega,fun h=>by simp only at h;omega⟩⟩ (cw (by simp only;omega))
 exact⟨b.1,b.2,by rw[b1];rfl,b2.1,b2.2⟩
theorem wY{S B:Type}{f:S->Option (S⊕B)}(st:Nat->S)(k:Nat)(r:B)(h1:∀j,j<k->f (st j)=some (.inl (st (j+1))))(h2:f (st k)=some (.inr r))(hk:k<1000000):bn f N0 (st 0)=some r:=by
 have:=cb (f:=f) (List.range k) (fun i(_:Unit)=>st i) (fun _ _ _=>.inl ()) (fun _=>r) (fun _ _=>True) (fun i a x hx _=>by
  have hlt:=(List.getElem?_eq_some_iff.1 hx).1;rw[List.length_range] at hlt;exact .inl ⟨(),rfl,trivial,h1 i hlt⟩) (fun a _=>by rw[List.length_range];exact h2) () trivial (by rw[List.length_range];omega)
 rw[this];have gen:∀(ys:List Nat)(i:Nat),bB (fun _(_:Nat)(_:Unit)=>(.inl ():Unit⊕B)) (fun _=>r) i ys ()=r:=by
  intro ys;induction ys with
  |nil=>intro i;rfl
  |cons y ys ih=>intro i;exact ih (i+1)
 rw[gen]
theorem Dw:Mf F2=some true:=by
 have h:bn (Hg F2) N0 0=some (.inl ()):=by
  have:=wY (f:=Hg F2) (fun j=>(j:Int)) 2 (.inl ()) (fun j hj=>by
   match j,hj with
   |0,_=>rfl
   |1,_=>rfl) rfl (by omega)
  exact this
 unfold Mf;rw[h];rfl
def DmO(n:ah)(d:be):Prop:=(0<=d.From/\d.From<(n.Nodes.length:Int))/\(1<=d.Rate/\d.Rate<=1000)
theorem DJ{n:ah}(hn:bK n=true)(d:be):∃b,LJ n d=some b/\(b=true->DmO n d):=by
 obtain⟨b1,b2,b3⟩:=cC hn;unfold LJ;simp only[iv,Option.bind_some];rw[aE (n:=(n.Nodes.length:Int)-1) (by omega) (by omega)];cases h1:wi d.From 0 ((n.Nodes.length:Int)-1) with
 |false=>exact⟨false,rfl,fun h=>by cases h⟩
 | true =>
   cases h2:wi d.To 0 ((n.Nodes.length:Int)-1) with
   |false=>exact⟨false,rfl,fun h=>by cases h⟩
   | true =>
     cases d.From !=d.To with
     |false=>exact⟨false,rfl,fun h=>by cases h⟩
     | true =>
       cases h3:wi d.Rate 1 1000 with
       |false=>exact⟨false,rfl,fun h=>by cases h⟩
       | true =>
         have:=cG.1 h1;have:=cG.1 h3;exact⟨_,rfl,fun _=>⟨by omega,by omega⟩⟩
theorem JU(n:ah)(d:be)(hz:bC n<=1048576):∃ok Rs Ss,Cw n 0 2 d F2=some (ok,Rs,Ss,F2)/\UsO n Rs Ss/\(Rs≠[]\/ok=true->bK n=true/\DmO n d):=by
 have e5:dt F2 0 2=F2:=rfl;unfold Cw;simp only[pf n hz,Option.bind_some,bnd,e5,Dw];cases hn:bK n with
 |false=>exact⟨false,[],[],rfl,⟨rfl,by simp,fun r hr=>(by cases hr),fun r hr=>(by cases hr)⟩,fun h=>by rcases h with h|h;exact absurd rfl h;cases h⟩
 | true =>
   obtain⟨b,b1,b2⟩:=DJ hn d;simp only[Bool.not_true,cond_false,b1,Option.bind_some];cases b with
   |false=>exact⟨false,[],[],rfl,⟨rfl,by simp,fun r hr=>(by cases hr),fun r hr=>(by cases hr)⟩,fun h=>by rcases h with h|h;exact absurd rfl h;cases h⟩
   | true =>
     obtain⟨ok,Rs,Ss,u1,u2⟩:=Hv hn (b2 rfl).1 (b2 rfl).2;simp only[Bool.not_true,cond_false,u1,Option.bind_some];exact⟨ok,Rs,Ss,rfl,u2,fun _=>⟨trivial,b2 rfl⟩⟩
theorem rt0(n:ah):RtB n ⟨0,[]⟩:=⟨by simp,fun e he=>(by cases he),by simp,by simp⟩
theorem GT(n:ah)(d:be)(hz:bC n<=1048576):∃r q f,EN n 0 2 d F2=some (r,q,f,F2)/\RtB n r/\(f=true->bK n=true/\DmO n d):=by
 obtain⟨ok,Rs,Ss,u1,u2,u3⟩:=JU n d hz;obtain⟨k,k1,k2,k3⟩:=Ll u2;have hlen:=u2.len;unfold EN;rw[u1,Option.bind_some];simp only[k1,Option.bind_some];cases ok with
 |false=>exact⟨_,_,_,rfl,rt0 n,fun h=>by cases h⟩
 | true =>
   by_cases h0:k<0
   ·simp only[Bool.not_true,cond_false,decide_eq_true h0,Option.bind_some,cond_true];exact⟨_,_,_,rfl,rt0 n,fun h=>by cases h⟩
   ·simp only[Bool.not_true,cond_false,decide_eq_false h0,Option.bind_some];have hk:k.toNat<Rs.length:=by omega
    rw[aU ⟨by omega,k3⟩,Option.bind_some,List.getElem?_eq_getElem hk,Option.bind_some,aU ⟨by omega,by omega⟩,Option.bind_some,List.getElem?_eq_getElem (show k.toNat<Ss.length by omega),Option.bind_some];exact⟨_,_,_,rfl,u2.rt _ (List.getElem_mem hk),fun _=>u3 (.inr rfl)⟩
theorem Gj(n:ah)(d:be)(hz:bC n<=1048576):∃r q f,CK n 0 2 d F2=some (r,q,f,F2)/\RtB n r/\RtB n q/\(f=true->bK n=true/\DmO n d):=by
 obtain⟨ok,Rs,Ss,u1,u2,u3⟩:=JU n d hz;unfold CK;rw[u1,Option.bind_some];cases ok with
 |false=>exact⟨_,_,_,rfl,rt0 n,rt0 n,fun h=>by cases h⟩
 | true =>
   obtain⟨hn,hd⟩:=u3 (.inr rfl);obtain⟨a,b,k1,k2,k3⟩:=Qp hn u2;simp only[Bool.not_true,cond_false,k1,Option.bind_some];by_cases h0:a<0
   ·simp only[decide_eq_true h0,cond_true];exact⟨_,_,_,rfl,rt0 n,rt0 n,fun h=>by cases h⟩
   ·obtain⟨k4,k5⟩:=k3 (by omega);have ha:a.toNat<Rs.length:=by omega
    have hb:b.toNat<Rs.length:=by omega
    simp only[decide_eq_false h0,cond_false];rw[aU ⟨by omega,k2.2⟩,Option.bind_some,List.getElem?_eq_getElem ha,Option.bind_some,aU ⟨k4,k5⟩,Option.bind_some,List.getElem?_eq_getElem hb,Option.bind_some];exact⟨_,_,_,rfl,u2.rt _ (List.getElem_mem ha),u2.rt _ (List.getElem_mem hb),fun _=>⟨hn,hd⟩⟩
def RtF(n:ah)(r:ar):Prop:=r.Fibers.length<=20/\∀e∈r.Fibers,0<=e/\e<(n.Fibers.length:Int)
structure SvR(n:ah)(s:af):Prop where
 wr:RtF n s.Work
 sr:RtF n s.Spare
 wb:dw s.WorkBlock
 sb:dw s.SpareBlock
theorem RtB.f{n:ah}{r:ar}(h:RtB n r):RtF n r:=⟨h.1,h.2.1⟩
theorem kT.r{n:ah}{s:af}(h:kT n s):SvR n s:=
 ⟨⟨by have:=h.wr.len;omega,h.wr.fib⟩,⟨by have:=h.sr.len;omega,h.sr.fib⟩,h.wb,h.sb⟩
theorem NV{n:ah}(hn:bK n=true){a b:af}(ha:SvR n a)(hb:SvR n b):∃c,ve n a b=some c:=by
 have a1:=ha.wr.1;have a2:=ha.sr.1;have b1:=hb.wr.1;have b2:=hb.sr.1;have hF:=(cC hn).2.2;unfold ve;simp only[dm a.Work a.WorkBlock b.Work b.WorkBlock (by omega) (by omega) ha.wb hb.wb,dm a.Work a.WorkBlock b.Spare b.SpareBlock (by omega) (by omega) ha.wb hb.sb,dm a.Spare a.SpareBlock b.Work b.WorkBlock (by omega) (by omega) ha.sb hb.wb,dm a.Spare a.SpareBlock b.Spare b.SpareBlock (by omega) (by omega) ha.sb hb.sb,jW n a.Work b.Work hF (by omega) (by omega) ha.wr.2,Option.bind_some];cases bW a.Work a.WorkBlock b.Work b.WorkBlock<;>cases bW a.Work a.WorkBlock b.Spare b.SpareBlock<;>cases bW a.Spare a.SpareBlock b.Work b.WorkBlock<;>cases a.Class==2<;>cases b.Class==2<;>cases apP n a.Work.Fibers b.Work.Fibers<;>exact⟨_,rfl⟩
theorem zB{n:ah}(hn:bK n=true){list:List af}(hl:list.length<=1000)(hs:∀x∈list,SvR n x){s:af}(h:SvR n s):∃c,CQ n list s=some c:=by
 unfold CQ;obtain⟨b,b1,_⟩:=bv (f:=JT n list s) (fun t=>∃i:Nat,t=(i:Int)/\i<=list.length) (fun t=>list.length-t.toNat) (fun _=>True) (fun t⟨i,e,hi⟩=>by
  subst e;unfold JT;by_cases h3:i<list.length
  ·have e1:decide ((i:Int)<(list.length:Int))=true:=by simp[h3]
   obtain⟨c,hc⟩:=NV hn (hs _ (List.getElem_mem h3)) h;simp only[e1,cond_true,aQ,List.getElem?_eq_getElem h3,Option.bind_some,hc];rw[aE (by omega) (by omega)];cases c with
   |false=>exact .inr ⟨_,rfl,trivial⟩
   |true=>exact .inl ⟨_,rfl,⟨i+1,rfl,by omega⟩,by(try simp only);omega⟩
  ·have e1:decide ((i:Int)<(list.length:Int))=false:=by simp only[decide_eq_false_iff_not];omega
   simp only[e1,cond_false];exact .inr ⟨_,rfl,trivial⟩) N0 0 ⟨0,rfl,by omega⟩ (cw (by(try simp only);omega))
 rw[b1];cases b<;>exact⟨_,rfl⟩
theorem Mc{n:ah}(hn:bK n=true){list:List af}(hl:list.length<=1000)(hs:∀x∈list,SvR n x)(s:af)(hw:RtF n s.Work)(hp:RtF n s.Spare)(a b:Int)(ha:0<=a/\a<=24)(hb:0<=b/\b<=24):
 ∃s' c,IL n 0 list.length s a b list=some (s',c,list)/\s'.Work=s.Work/\(s'.Spare=s.Spare):=by
 have b00:dw ⟨0,0⟩:=⟨⟨by simp,by simp⟩,by simp,by simp⟩;have r0:RtF n ⟨0,[]⟩:=⟨by simp,fun e he=>(by cases he)⟩;unfold IL;obtain⟨o,o1,o2⟩:=bv (f:=Jw n 0 list.length s a list) (fun t=>∃i:Nat,t.1=(i:Int)/\i<=25/\t.2.Work=s.Work/\t.2.Spare=⟨0,[]⟩/\dw t.2.SpareBlock) (fun t=>26-t.1.toNat) (fun o=>match o with| .inl v=>v.Work=s.Work/\dw v.WorkBlock| .inr x=>x=(s,false,list)) (fun t⟨i,e,hi,t1,t2,t3⟩=>by
  obtain⟨x,v⟩:=t;simp only at e t1 t2 t3;subst e;unfold Jw;simp only[bnd,eG];rw[aE (n:=(i:Int)+a) (by omega) (by omega)];by_cases h:24<(i:Int)+a
  ·right;rw[decide_eq_true h];exact⟨_,rfl,rfl⟩
  ·rw[decide_eq_false h,cond_false];have hblk:dw ⟨(i:Int),a⟩:=⟨⟨by simp only;omega,by simp only;omega⟩,by simp only;omega,by simp only;omega⟩;obtain⟨c,hc⟩:=zB hn hl hs (s:=⟨v.Id,v.Class,⟨v.Work.Start,v.Work.Fibers⟩,⟨(i:Int),a⟩,⟨v.Spare.Start,v.Spare.Fibers⟩,⟨v.SpareBlock.First,v.SpareBlock.Count⟩⟩) ⟨by show RtF n v.Work;rw[t1];exact hw,by show RtF n v.Spare;rw[t2];exact r0,hblk,t3⟩;rw[hc,Option.bind_some];cases c with
   |true=>right;exact⟨_,rfl,t1,hblk⟩
   | false =>
     left;refine⟨_,rfl,⟨i+1,?_,by omega,t1,t2,t3⟩,?_⟩
     ·simp only;rw[aE (by omega) (by omega)];rfl
     ·simp only;rw[aE (by omega) (by omega)];omega) N0 (0,⟨0,0,⟨s.Work.Start,s.Work.Fibers⟩,⟨0,0⟩,⟨0,[]⟩,⟨0,0⟩⟩) ⟨0,rfl,by omega,rfl,rfl,b00⟩ (cw (by simp only;omega))
 rw[o1,Option.bind_some];cases o with
 | inr x =>
   simp only at o2⊢;rw[o2];exact⟨s,false,rfl,rfl,rfl⟩
 | inl v =>
   simp only at o2⊢;cases s.Class==0 with
   |true=>exact⟨_,true,rfl,rfl,rfl⟩
   | false =>
     rw[cond_false];obtain⟨q,q1,q2⟩:=bv (f:=Hi n 0 list.length b list) (fun t=>∃i:Nat,t.1=(i:Int)/\i<=25/\t.2.Work=s.Work/\t.2.Spare=s.Spare/\dw t.2.WorkBlock) (fun t=>26-t.1.toNat) (fun o=>match o with| .inl v=>v.Work=s.Work/\v.Spare=s.Spare| .inr x=>x.1.Work=s.Work/\x.1.Spare=s.Spare/\x.2.2=list) (fun t⟨i,e,hi,t1,t2,t3⟩=>by
      obtain⟨x,v⟩:=t;simp only at e t1 t2 t3;subst e;unfold Hi;simp only[bnd,eG];rw[aE (n:=(i:Int)+b) (by omega) (by omega)];by_cases h:(i:Int)+b<=24
      ·rw[decide_eq_true h,cond_true];have hblk:dw ⟨(i:Int),b⟩:=⟨⟨by simp only;omega,by simp only;omega⟩,by simp only;omega,by simp only;omega⟩;obtain⟨c,hc⟩:=zB hn hl hs (s:=⟨v.Id,v.Class,⟨v.Work.Start,v.Work.Fibers⟩,⟨v.WorkBlock.First,v.WorkBlock.Count⟩,⟨v.Spare.Start,v.Spare.Fibers⟩,⟨(i:Int),b⟩⟩) ⟨by show RtF n v.Work;rw[t1];exact hw,by show RtF n v.Spare;rw[t2];exact hp,t3,hblk⟩;rw[hc,Option.bind_some];cases c with
       |true=>right;exact⟨_,rfl,t1,t2,rfl⟩
       | false =>
         left;refine⟨_,rfl,⟨i+1,?_,by omega,t1,t2,t3⟩,?_⟩
         ·simp only;rw[aE (by omega) (by omega)];rfl
         ·simp only;rw[aE (by omega) (by omega)];omega
      ·right;rw[decide_eq_false h,cond_false];exact⟨_,rfl,t1,t2⟩) N0 (0,⟨s.Id,s.Class,⟨s.Work.Start,s.Work.Fibers⟩,⟨v.WorkBlock.First,v.WorkBlock.Count⟩,⟨s.Spare.Start,s.Spare.Fibers⟩,⟨s.SpareBlock.First,s.SpareBlock.Count⟩⟩) ⟨0,rfl,by omega,rfl,rfl,o2.2⟩ (cw (by simp only;omega))
     rw[q1,Option.bind_some];cases q with
     |inl u=>exact⟨u,false,rfl,q2.1,q2.2⟩
     | inr x =>
       obtain⟨u,c,l⟩:=x;simp only at q2⊢;rw[q2.2.2];exact⟨u,c,rfl,q2.1,q2.2.1⟩
theorem Fv(s:af)(h1:s.Work.Fibers.length<=1000)(h2:s.Spare.Fibers.length<=1000):vZ s=some s:=by
 unfold vZ LA nf;rw[aU (by omega)];simp only[Option.bind_some];rw[aU (by omega)];rfl
def SvL(s:af):Prop:=s.Work.Fibers.length<=1000/\s.Spare.Fibers.length<=1000
theorem Tf{list:List af}(hl:list.length<=1000)(hs:∀x∈list,SvL x)(s:af)(h:SvL s):∃L,Lc list s=some L/\L.length=list.length+1/\∀x∈L,x∈list\/x=s:=by
 unfold Lc;obtain⟨o,o1,k,o2,o3,o4,o5⟩:=bv (f:=Js list s) (fun t=>∃i:Nat,t.1=(i:Int)/\i<=list.length/\t.2.length=i/\∀x∈t.2,x∈list) (fun t=>list.length-t.1.toNat) (fun o=>∃i:Nat,o.1=(i:Int)/\i<=list.length/\o.2.length=i/\∀x∈o.2,x∈list) (fun t⟨i,e,hi,t1,t2⟩=>by
  obtain⟨x,acc⟩:=t;simp only at e t1 t2;subst e;unfold Js;by_cases h3:i<list.length
  ·have e1:decide ((i:Int)<(list.length:Int))=true:=by simp[h3]
   have g:=List.getElem?_eq_getElem h3;have hm:=List.getElem_mem h3;have ho:=Fv list[i] (hs _ hm).1 (hs _ hm).2;simp only[e1,cond_true,aQ,g,Option.bind_some,ho,bnd];cases decide (list[i].Id<s.Id) with
   |false=>exact .inr ⟨_,rfl,i,rfl,hi,t1,t2⟩
   | true =>
     rw[cond_true,aU (by omega),Option.bind_some,aE (by omega) (by omega)];exact .inl ⟨_,rfl,⟨i+1,rfl,by omega,by simp[t1],fun y hy=>by
      rcases List.mem_append.1 hy with h4|h4
      ·exact t2 y h4
      ·simp only[List.mem_singleton] at h4;rw[h4];exact hm⟩,by simp only;omega⟩
  ·have e1:decide ((i:Int)<(list.length:Int))=false:=by simp only[decide_eq_false_iff_not];omega
   simp only[e1,cond_false,Option.bind_some];exact .inr ⟨_,rfl,i,rfl,hi,t1,t2⟩) N0 (0,[]) ⟨0,rfl,by omega,rfl,fun x hx=>(by cases hx)⟩ (cw (by simp only;omega))
 rw[o1,Option.bind_some,Fv s h.1 h.2,Option.bind_some];simp only[bnd];rw[aU (by omega),Option.bind_some];obtain⟨q,q1,q2,q3⟩:=bv (f:=Mx list) (fun t=>∃i:Nat,t.1=(i:Int)/\i<=list.length/\t.2.length=i+1/\∀x∈t.2,x∈list\/x=s) (fun t=>list.length-t.1.toNat) (fun o=>o.length=list.length+1/\∀x∈o,x∈list\/x=s) (fun t⟨i,e,hi,t1,t2⟩=>by
  obtain⟨x,acc⟩:=t;simp only at e t1 t2;subst e;unfold Mx;by_cases h3:i<list.length
  ·have e1:decide ((i:Int)<(list.length:Int))=true:=by simp[h3]
   have g:=List.getElem?_eq_getElem h3;have hm:=List.getElem_mem h3;have ho:=Fv list[i] (hs _ hm).1 (hs _ hm).2;simp only[e1,cond_true,aQ,g,Option.bind_some,ho,bnd];rw[aU (by omega),Option.bind_some,aE (by omega) (by omega)];exact .inl ⟨_,rfl,⟨i+1,rfl,by omega,by simp[t1],fun y hy=>by
    rcases List.mem_append.1 hy with h4|h4
    ·exact t2 y h4
    ·simp only[List.mem_singleton] at h4;rw[h4];exact .inl hm⟩,by simp only;omega⟩
  ·have e1:decide ((i:Int)<(list.length:Int))=false:=by simp only[decide_eq_false_iff_not];omega
   simp only[e1,cond_false];exact .inr ⟨_,rfl,by omega,t2⟩) N0 (o.1,o.2++[s]) ⟨k,o2,o3,by simp[o4],fun y hy=>by
    rcases List.mem_append.1 hy with h4|h4
    ·exact .inl (o5 y h4)
    ·simp only[List.mem_singleton] at h4;exact .inr h4⟩ (cw (by simp only;omega))
 have es:(⟨s.Id,s.Class,⟨s.Work.Start,s.Work.Fibers⟩,⟨s.WorkBlock.First,s.WorkBlock.Count⟩,⟨s.Spare.Start,s.Spare.Fibers⟩,⟨s.SpareBlock.First,s.SpareBlock.Count⟩⟩:af)=s:=rfl;rw[es,q1,Option.bind_some];exact⟨q,rfl,q2,q3⟩
theorem tz{n:ah}{r:ar}(h:RtB n r){d:be}(hd:DmO n d):∃x,((oO n r).bind fun l=>rz F2 l d.Rate)=some x/\0<=x/\x<=24:=by
 obtain⟨x,x1,x2⟩:=zd (kt n r) d.Rate hd.2;exact⟨x,by rw[eC h,Option.bind_some,x1],x2⟩
theorem TF(n:ah)(d:be)(list:List af)(hz:bC n<=1048576)(hl:bM list<=1048576)(hL:∀x∈list,SvL x):
 ∃id ok L,JH n 0 2 0 list.length d F2 list=some (id,ok,L,F2,list)/\(ok=true->L.length<=9/\∀x∈L,SvL x):=by
 have hll:=Ea hl;have no:∀p:Prop,((false:Bool)=true->p):=fun p h=>by cases h
 unfold JH;simp only[bnd,eG,qu n list hz hl,Option.bind_some];cases hg:eH n list with
 |false=>exact⟨_,_,_,rfl,no _⟩
 | true =>
   have hI:=gH hg;have hn:=hI.net;have h8:=hI.len;have hR:∀x∈list,SvR n x:=fun x hx=>(hI.svc x hx).r;simp only[Bool.not_true,cond_false,Option.bind_some];cases h88:((list.length:Int)==8) with
   |true=>exact⟨_,_,_,rfl,no _⟩
   | false =>
     rw[cond_false];obtain⟨o,o1,o2,o3⟩:=bv (f:=FO 0 list.length list) (fun t=>∃i:Nat,t.1=(i:Int)/\i<=list.length/\t.2.Work=⟨0,[]⟩/\t.2.Spare=⟨0,[]⟩) (fun t=>list.length-t.1.toNat) (fun o=>o.Work=⟨0,[]⟩/\o.Spare=⟨0,[]⟩) (fun t⟨i,e,hi,t1,t2⟩=>by
      obtain⟨x,v⟩:=t;simp only at e t1 t2;subst e;unfold FO;by_cases h3:i<list.length
      ·have e1:decide ((i:Int)<(list.length:Int))=true:=by simp[h3]
       simp only[e1,cond_true];rw[aU ⟨by omega,by omega⟩,Option.bind_some,Int.toNat_natCast,Nat.zero_add,List.getElem?_eq_getElem h3,Option.bind_some,Option.bind_some];cases list[i].Id==v.Id with
       |false=>exact .inr ⟨_,rfl,t1,t2⟩
       | true =>
         rw[cond_true,aE (n:=(i:Int)+1) (by omega) (by omega)];exact .inl ⟨_,rfl,⟨i+1,rfl,by omega,t1,t2⟩,by simp only;omega⟩
      ·have e1:decide ((i:Int)<(list.length:Int))=false:=by simp only[decide_eq_false_iff_not];omega
       simp only[e1,cond_false,Option.bind_some];exact .inr ⟨_,rfl,t1,t2⟩) N0 (0,⟨1,d.Class,⟨0,[]⟩,⟨0,0⟩,⟨0,[]⟩,⟨0,0⟩⟩) ⟨0,rfl,by omega,rfl,rfl⟩ (cw (by simp only;omega))
     rw[o1,Option.bind_some];obtain⟨r,q,f,c1,c2,c3⟩:=GT n d hz;simp only[c1,Option.bind_some]
     -- the routes
     have hmid:∃(g:Bool)(v:af)(w:ar),((cond (d.Class !=0) ((CK n 0 2 d F2).bind fun rZ16=>some (rZ16.2.2.1,(⟨o.Id,o.Class,⟨o.Work.Start,o.Work.Fibers⟩,⟨o.WorkBlock.First,o.WorkBlock.Count⟩,⟨rZ16.2.1.Start,rZ16.2.1.Fibers⟩,⟨o.SpareBlock.First,o.SpareBlock.Count⟩⟩:af),rZ16.1,rZ16.2.2.2)) (some (f,o,r,F2)):Option (Bool×af×ar×List aR)))=some (g,v,w,F2)/\RtB n w/\RtB n v.Spare/\(g=true->DmO n d):=by
      cases d.Class !=0 with
      |false=>exact⟨f,o,r,rfl,c2,by rw[o3];exact rt0 n,fun h=>(c3 h).2⟩
      | true =>
        obtain⟨x,y,g,k1,k2,k3,k4⟩:=Gj n d hz;exact⟨g,_,x,by rw[k1];rfl,k2,k3,fun h=>(k4 h).2⟩
     obtain⟨g,v,w,m1,m2,m3,m4⟩:=hmid;rw[m1,Option.bind_some];simp only;cases g with
     |false=>exact⟨_,_,_,rfl,no _⟩
     | true =>
       have hd:=m4 rfl;obtain⟨x1,y1,y2⟩:=tz m3 hd;obtain⟨x2,y3,y4⟩:=tz m2 hd;have e5:dt F2 0 2=F2:=rfl;have hsp:∃b,(cond (d.Class !=0) ((oO n v.Spare).bind fun rZ20=>(rz F2 rZ20 d.Rate).bind fun rZ23=>some rZ23) (some 0):Option Int)=some b/\0<=b/\b<=24:=by
        cases d.Class !=0 with
        |false=>exact⟨0,rfl,by omega,by omega⟩
        | true =>
          refine⟨x1,?_,y2⟩;rw[cond_true];simpa using y1
       obtain⟨b,hb1,hb2⟩:=hsp;simp only[Bool.not_true,cond_false,e5,hb1,Option.bind_some];have y3':=y3;rw[eC m2,Option.bind_some] at y3';rw[eC m2,Option.bind_some,y3',Option.bind_some];obtain⟨s',c,p1,p2,p3⟩:=Mc hn (list:=list) (by omega) hR (⟨v.Id,v.Class,⟨w.Start,w.Fibers⟩,⟨v.WorkBlock.First,v.WorkBlock.Count⟩,⟨v.Spare.Start,v.Spare.Fibers⟩,⟨v.SpareBlock.First,v.SpareBlock.Count⟩⟩:af) m2.f m3.f x2 b y4 hb2;rw[p1,Option.bind_some];cases c with
       |false=>exact⟨_,_,_,rfl,no _⟩
       | true =>
         have hsl:SvL s':=by
          have h1:=m2.1;have h2:=m3.1;unfold SvL;rw[p2,p3];exact⟨by simp only;omega,by simp only;omega⟩
         obtain⟨L,l1,l2,l3⟩:=Tf (list:=list) (by omega) hL s' hsl;simp only[Bool.not_true,cond_false,eG,l1,Option.bind_some];refine⟨_,true,L,rfl,fun _=>⟨by omega,fun x hx=>?_⟩⟩;rcases l3 x hx with h|h
         ·exact hL x h
         ·rw[h];exact hsl
end Vs

namespace Vs
open Go
structure bF(c:ax)(m:Nat):Prop where
 by8:∀x∈c.code,0<=x/\x<=255
 len:c.code.length<=65536
 at0:0<=c.atF
 atm:c.atF<=(m:Int)
theorem UY(x:Int):0<=bits .and .u64 x 255/\bits .and .u64 x 255<=255:=by
 have h:(BitVec.ofInt (IntKind.bits .u64) x &&& BitVec.ofInt (IntKind.bits .u64) 255).toNat<=255:=by
  rw[BitVec.toNat_and];exact Nat.le_trans Nat.and_le_right (by decide)
 unfold bits;simp only;generalize (BitVec.ofInt (IntKind.bits .u64) x &&& BitVec.ofInt (IntKind.bits .u64) 255).toNat=k at h;have:IntKind.wrap .u64 (k:Int)=(k:Int):=by
  unfold IntKind.wrap;simp[IntKind.bits,IntKind.signed];omega
 rw[this];omega
theorem Kf{c:ax}{m:Nat}(h:bF c m)(hm:m<=1000000000000):∃b c',AQ c=some (b,c')/\0<=b/\b<=255/\bF c' (m+1):=by
 obtain⟨h1,h2,h3,h4⟩:=h;have hb:∃b,(cond (decide (c.atF<(c.code.length:Int))) ((bw c.code c.atF).bind fun yZ2=>some (IntKind.wrap .i64 yZ2)) (some 0):Option Int)=some b/\0<=b/\b<=255:=by
  by_cases e:c.atF<(c.code.length:Int)
  ·rw[decide_eq_true e,cond_true];have hlt:c.atF.toNat<c.code.length:=by omega
   have hg:bw c.code c.atF=some c.code[c.atF.toNat]:=by
    unfold bw;rw[if_pos h3];exact List.getElem?_eq_getElem hlt
   have:=h1 _ (List.getElem_mem hlt);rw[hg];refine⟨c.code[c.atF.toNat],?_,this.1,this.2⟩;simp only[Option.bind_some];rw[aE (by omega) (by omega)]
  ·rw[decide_eq_false e,cond_false];exact⟨0,rfl,by omega,by omega⟩
 obtain⟨b,b1,b2,b3⟩:=hb;unfold AQ;rw[b1];simp only[Option.bind_some];rw[aE (n:=c.atF+1) (by omega) (by omega)];by_cases e:c.atF+1<=(c.code.length:Int)
 ·rw[decide_eq_true e,cond_true];exact⟨_,_,rfl,b2,b3,⟨h1,h2,by simp only;omega,by simp only;omega⟩⟩
 ·rw[decide_eq_false e,cond_false];have h5:=UY (Int.fdiv (IntKind.wrap .u64 ((IntKind.wrap .u64 ((IntKind.wrap .u64 (c.seed*6364136223846793005))+(IntKind.wrap .u64 b)))+897897)) (2^(min (Int.toNat 40) (IntKind.bits .u64))));refine⟨_,_,rfl,?_,?_,⟨h1,h2,by simp only;omega,by simp only;omega⟩⟩
  ·rw[aE (by omega) (by omega)];exact h5.1
  ·rw[aE (by omega) (by omega)];exact h5.2
theorem bX{c:ax}{m:Nat}(n:Int)(h:bF c m)(hm:m<=100000000000):∃x c',M_b n c=some (x,c')/\0<=x/\(x<n\/x=0)/\bF c' (m+2):=by
 unfold M_b;by_cases e:n<=1
 ·rw[decide_eq_true e,cond_true];exact⟨0,c,rfl,by omega,.inr rfl,⟨h.by8,h.len,h.at0,by have:=h.atm;omega⟩⟩
 ·rw[decide_eq_false e,cond_false];obtain⟨b,c1,g1,g2,g3,g4⟩:=Kf h (by omega);rw[g1];simp only[Option.bind_some];by_cases e2:200<n
  ·rw[decide_eq_true e2,cond_true];obtain⟨b',c2,k1,k2,k3,k4⟩:=Kf g4 (by omega);rw[k1];simp only[Option.bind_some];rw[aU (by omega)];simp only[Option.bind_some];refine⟨_,_,rfl,?_,.inl ?_,k4⟩
   ·rw[aE (n:=b*256) (by omega) (by omega),aE (by omega) (by omega)];exact Int.tmod_nonneg _ (by omega)
   ·exact Int.tmod_lt_of_pos _ (by omega)
  ·rw[decide_eq_false e2,cond_false,aU (by omega)];simp only[Option.bind_some];exact⟨_,_,rfl,Int.tmod_nonneg _ g2,.inl (Int.tmod_lt_of_pos _ (by omega)),⟨g4.by8,g4.len,g4.at0,by have:=g4.atm;omega⟩⟩
theorem bF.up{c:ax}{m k:Nat}(h:bF c m)(hk:m<=k):bF c k:=⟨h.by8,h.len,h.at0,by have:=h.atm;omega⟩
theorem yS{c:ax}{m:Nat}(n:Int)(h:bF c m)(hm:m<=100000000000):∃b c',sq n c=some (b,c')/\bF c' (m+2):=by
 obtain⟨x,c1,g1,g2,g3,g4⟩:=bX n h hm;unfold sq;rw[g1];exact⟨_,_,rfl,g4⟩
theorem fk{c:ax}{m:Nat}(l:List Int)(h:bF c m)(hm:m<=100000000000)(hl:0<l.length):∃x c',M_r c l=some (x,c',l)/\x∈l/\bF c' (m+2):=by
 obtain⟨i,c1,g1,g2,g3,g4⟩:=bX (l.length:Int) h hm;unfold M_r;rw[g1];simp only[Option.bind_some];have hi:i.toNat<l.length:=by omega
 rw[aU (by omega)];simp only[Option.bind_some,List.getElem?_eq_getElem hi];exact⟨_,_,rfl,List.getElem_mem hi,g4⟩
theorem WB{c:ax}{m:Nat}(l:List ByteArray)(h:bF c m)(hm:m<=100000000000)(hl:0<l.length):∃x c',Lj c l=some (x,c',l)/\x∈l/\bF c' (m+2):=by
 obtain⟨i,c1,g1,g2,g3,g4⟩:=bX (l.length:Int) h hm;unfold Lj;rw[g1];simp only[Option.bind_some];have hi:i.toNat<l.length:=by omega
 rw[aU (by omega)];simp only[Option.bind_some,List.getElem?_eq_getElem hi];exact⟨_,_,rfl,List.getElem_mem hi,g4⟩
end Vs

namespace Vs
open Go
theorem CP(f g:ay):∃r,uY f g=some r:=by
 unfold uY;cases(f.A !=g.A)
 ·cases(f.B !=g.B)
  ·cases(f.Length !=g.Length)<;>exact⟨_,rfl⟩
  ·exact⟨_,rfl⟩
 ·exact⟨_,rfl⟩
theorem zW(a b:Int):∃r,AJ a b=some r:=by
 unfold AJ;cases decide (a<b)<;>exact⟨_,rfl⟩
theorem Ig(a b:Int):∃r,Cy a b=some r/\a<=r/\b<=r/\(r=a\/r=b):=by
 unfold Cy;by_cases h:b<a
 ·rw[decide_eq_true h,cond_true];exact⟨a,rfl,by omega,by omega,.inl rfl⟩
 ·rw[decide_eq_false h,cond_false];exact⟨b,rfl,by omega,by omega,.inr rfl⟩
theorem yH(l:List ay)(f:ay)(hl:l.length<=1048576):∃l',Dz l f=some l'/\l'.length=l.length+1:=by
 obtain⟨o,o1,i,rfl,o3⟩:=bv (f:=Cs l f) (fun s=>∃i:Nat,s=i/\i<=l.length) (fun s=>l.length-s.toNat) (fun o=>∃i:Nat,o=(i:Int)/\i<=l.length) (fun s hI=>by
  obtain⟨i,rfl,hi⟩:=hI;by_cases h:i<l.length
  ·obtain⟨r,hr⟩:=CP l[i] f;simp only[Cs,decide_eq_true (show(i:Int)<(l.length:Int) by omega),cond_true,aQ,List.getElem?_eq_getElem h,Option.bind_some,hr];by_cases h2:r<=0
   ·left;rw[decide_eq_true h2,cond_true,aE (n:=(i:Int)+1) (by omega) (by omega)];exact⟨_,rfl,⟨i+1,by simp,by omega⟩,by omega⟩
   ·right;rw[decide_eq_false h2,cond_false];exact⟨_,rfl,i,rfl,hi⟩
  ·right;simp only[Cs,decide_eq_false (show¬(i:Int)<(l.length:Int) by omega),cond_false];exact⟨_,rfl,i,rfl,hi⟩) N0 0 ⟨0,rfl,by omega⟩ (cw (by omega))
 unfold Dz;rw[o1];simp only[Option.bind_some,slT,slF,Int.toNat_natCast,bnd];rw[if_pos ⟨by omega,o3⟩,if_pos ⟨by omega,o3⟩];simp only[Option.bind_some];rw[aU (by simp;omega),];simp only[Option.bind_some];rw[aU (by simp;omega)];simp only[Option.bind_some];rw[aU (by simp;omega)];exact⟨_,rfl,by simp;omega⟩
theorem BW{c:ax}{m:Nat}(x:Int)(c0:ax)(hx:0<=x/\x<5)(i:Int)(hi:0<=i/\i<2+x)(fs:List ay)(hf:fs.length<=1000)(h:bF c m)(hm:m<=10000000000):
 ∃fs' c',wZ (x,c0) (i,fs,c)=some (.inl (i+1,fs',c'))/\fs'.length<=fs.length+1/\bF c' (m+6):=by
 obtain⟨b,c1,hb,hc⟩:∃b c1,(cond (i==Int.tmod (i+1) (2+x)) (some (true,c)) ((sq 10 c).bind fun rZ10=>some (rZ10.1,rZ10.2)):Option (Bool×ax))=some (b,c1)/\bF c1 (m+2):=by
  cases(i==Int.tmod (i+1) (2+x))
  ·obtain⟨b,c1,g1,g2⟩:=yS 10 h (by omega);exact⟨b,c1,by rw[cond_false,g1];rfl,g2⟩
  ·exact⟨true,c,rfl,h.up (by omega)⟩
 simp only[wZ,aE (n:=2+x) (by omega) (by omega),aE (n:=i+1) (by omega) (by omega),decide_eq_true hi.2,cond_true,aU (show(2+x)≠0 by omega),Option.bind_some,hb];cases b with
 |true=>exact⟨fs,c1,rfl,by omega,hc.up (by omega)⟩
 | false =>
   obtain⟨a1,ha1⟩:=zW i (Int.tmod (i+1) (2+x));obtain⟨a2,ha2,_⟩:=Ig i (Int.tmod (i+1) (2+x));obtain⟨x8,c2,g1,g2,g3,g4⟩:=bX 8 hc (by omega);obtain⟨rk,c3,k1,k2,k3⟩:=fk [0,0,0,1,2] g4 (by omega) (by simp);obtain⟨l',l1,l2⟩:=yH fs ⟨a1,a2,IntKind.wrap .i64 (100*(IntKind.wrap .i64 (1+x8))),rk⟩ (by omega);simp only[cond_false,ha1,ha2,g1,bnd,k1,l1,Option.bind_some];exact⟨l',c3,rfl,by omega,k3.up (by omega)⟩
theorem Cg{c:ax}{m:Nat}(x:Int)(c0:ax)(hx:0<=x/\x<5)(i:Int)(hi:0<i/\i<=10)(fs:List ay)(hf:fs.length<=1000)(h:bF c m)(hm:m<=10000000000):
 ∃fs' c',xW (x,c0) (i,fs,c)=some (.inl (i-1,fs',c'))/\fs'.length<=fs.length+1/\bF c' (m+8):=by
 obtain⟨p,c1,p1,p2,p3,p4⟩:=bX (2+x) h (by omega);obtain⟨q,c2,q1,q2,q3,q4⟩:=bX (2+x) p4 (by omega);simp only[xW,aE (n:=2+x) (by omega) (by omega),aE (n:=i-1) (by omega) (by omega),decide_eq_true hi.1,cond_true,Option.bind_some,p1,q1];cases(p !=q) with
 |false=>exact⟨fs,c2,rfl,by omega,q4.up (by omega)⟩
 | true =>
   obtain⟨a1,ha1⟩:=zW p q;obtain⟨a2,ha2,_⟩:=Ig p q;obtain⟨x8,c2',g1,g2,g3,g4⟩:=bX 8 q4 (by omega);obtain⟨rk,c3,k1,k2,k3⟩:=fk [0,0,0,1,2] g4 (by omega) (by simp);obtain⟨l',l1,l2⟩:=yH fs ⟨a1,a2,IntKind.wrap .i64 (100*(IntKind.wrap .i64 (1+x8))),rk⟩ (by omega);simp only[cond_true,ha1,ha2,g1,bnd,k1,l1,Option.bind_some];exact⟨l',c3,rfl,by omega,k3.up (by omega)⟩
theorem qZ{c:ax}{m:Nat}(h:bF c m)(hm:m<=1000000000):∃(K:Nat)(nodes:List ByteArray)(fs:List ay)(c':ax),BA c=some (0,K,nodes,fs,c')/\2<=K/\K<=6/\nodes.length=6/\(∀s∈nodes,s.size<=9)/\fs.length<=9/\bF c' (m+100):=by
 obtain⟨x,c1,x1,x2,x3,x4⟩:=bX 5 h (by omega);have hx:0<=x/\x<5:=by omega
 obtain⟨⟨f1,c2⟩,o1,o2,o3⟩:=bv (f:=wZ (x,c1)) (fun s=>0<=s.1/\s.1<=2+x/\(s.2.1.length:Int)<=s.1/\bF s.2.2 (m+2+6*s.1.toNat)) (fun s=>(2+x-s.1).toNat) (fun o=>o.1.length<=6/\bF o.2 (m+38)) (fun s hI=>by
  obtain⟨j,l,cc⟩:=s;obtain⟨i1,i2,i3,i4⟩:=hI;simp only at i1 i2 i3 i4;by_cases hj:j<2+x
  ·left;obtain⟨fs',c',g1,g2,g3⟩:=BW x c1 hx j ⟨i1,hj⟩ l (by omega) i4 (by omega);exact⟨_,g1,⟨by simp only;omega,by simp only;omega,by simp only;omega,g3.up (by simp only;omega)⟩,by simp only;omega⟩
  ·right;refine⟨(l,cc),?_,by simp only;omega,i4.up (by omega)⟩;simp only[wZ,aE (n:=2+x) (by omega) (by omega),decide_eq_false hj,cond_false]) N0 (0,[],c1) ⟨by simp,by simp only;omega,by simp,x4.up (by simp)⟩ (cw (by simp only;omega))
 simp only at o2 o3;obtain⟨y,c3,y1,y2,y3,y4⟩:=bX 4 o3 (by omega);have hy:0<=y/\y<4:=by omega
 obtain⟨⟨f2,c4⟩,q1,q2,q3⟩:=bv (f:=xW (x,c1)) (fun s=>0<=s.1/\s.1<=3/\(s.2.1.length:Int)<=9-s.1/\bF s.2.2 (m+40+8*(3-s.1.toNat))) (fun s=>s.1.toNat) (fun o=>o.1.length<=9/\bF o.2 (m+64)) (fun s hI=>by
  obtain⟨j,l,cc⟩:=s;obtain⟨i1,i2,i3,i4⟩:=hI;simp only at i1 i2 i3 i4;by_cases hj:0<j
  ·left;obtain⟨fs',c',g1,g2,g3⟩:=Cg x c1 hx j ⟨hj,by omega⟩ l (by omega) i4 (by omega);exact⟨_,g1,⟨by simp only;omega,by simp only;omega,by simp only;omega,g3.up (by simp only;omega)⟩,by simp only;omega⟩
  ·right;refine⟨(l,cc),?_,by simp only;omega,i4.up (by omega)⟩;simp only[xW,decide_eq_false hj,cond_false]) N0 (y,f1,c3) ⟨by simp only;omega,by simp only;omega,by simp only;omega,y4.up (by simp only;omega)⟩ (cw (by simp only;omega))
 simp only at q2 q3;unfold BA;simp only[x1,Option.bind_some,bnd,aE (n:=2+x) (by omega) (by omega)];rw[aU ⟨trivial,by omega,trivial,by omega⟩];simp only[Option.bind_some,o1,y1,q1];exact⟨_,_,_,_,rfl,by omega,by omega,rfl,by decide,q2,q3.up (by omega)⟩
structure Ni(K:Nat)(nodes:List ByteArray)(fs:List ay):Prop where
 k1:1<=K
 k:K<=nodes.length
 n:nodes.length<=10
 z:∀s∈nodes,s.size<=9
 f:fs.length<=15
theorem JG{c:ax}{m:Nat}(fs:List ay)(h0:0<fs.length)(h9:fs.length<=9)(h:bF c m)(hm:m<=10000000000):∃fs' c',bn DV N0 (fs,c)=some (fs',c')/\fs'.length<=15/\bF c' (m+100):=by
 obtain⟨⟨f2,c4⟩,q1,q2,q3⟩:=bv (f:=DV) (fun s=>0<s.1.length/\s.1.length<=15/\bF s.2 (m+2*s.1.length)) (fun s=>16-s.1.length) (fun o=>o.1.length<=15/\bF o.2 (m+100)) (fun s hI=>by
  obtain⟨l,cc⟩:=s;obtain⟨i1,i2,i3⟩:=hI;simp only at i1 i2 i3;obtain⟨x,c1,x1,x2,x3,x4⟩:=bX 2 i3 (by omega);simp only[DV,x1,Option.bind_some,aE (n:=14+x) (by omega) (by omega),aE (n:=(l.length:Int)-1) (by omega) (by omega)];by_cases hj:(l.length:Int)<14+x
  ·left;have e:((l.length:Int)-1).toNat<l.length:=by omega
   rw[decide_eq_true hj,cond_true,aU (by omega)];simp only[Option.bind_some,List.getElem?_eq_getElem e,bnd];rw[aU (by omega)];exact⟨_,rfl,⟨by simp,by simp only[List.length_append,List.length_cons,List.length_nil];omega,x4.up (by simp only[List.length_append,List.length_cons,List.length_nil];omega)⟩,by simp only[List.length_append,List.length_cons,List.length_nil];omega⟩
  ·right;rw[decide_eq_false hj,cond_false];exact⟨_,rfl,by simp only;omega,x4.up (by omega)⟩) N0 (fs,c) ⟨by simp only;omega,by simp only;omega,h.up (by omega)⟩ (cw (by simp only;omega))
 exact⟨f2,c4,q1,q2,q3⟩
theorem FM{α:Type}(xs:List α)(k:Nat)(h:k<=xs.length):dt xs 0 k=xs.take k:=by
 rw[eB];simp
theorem rC{c:ax}{m:Nat}(h:bF c m)(hm:m<=1000000000):∃(K:Nat)(nodes:List ByteArray)(fs:List ay)(c':ax),Jn c=some (0,K,nodes,fs,c')/\Ni K nodes fs/\bF c' (m+300):=by
 obtain⟨K,nodes,fs,c1,n1,n2,n3,n4,n5,n6,n7⟩:=qZ h (by omega);have hD:Ni K nodes fs:=⟨by omega,by omega,by omega,n5,by omega⟩;unfold Jn;simp only[n1,Option.bind_some];by_cases h0:fs.length=0
 ·rw[show((fs.length:Int)==0)=true by simp[h0],cond_true];exact⟨_,_,_,_,rfl,hD,n7.up (by omega)⟩
 rw[show((fs.length:Int)==0)=false by simp;exact fun e=>h0 (by simp[e]),cond_false];obtain⟨i,c2,i1,i2,i3,i4⟩:=bX (fs.length:Int) n7 (by omega);have hi:i.toNat<fs.length:=by omega
 obtain⟨r,c3,r1,r2,r3,r4⟩:=bX 24 i4 (by omega);simp only[i1,Option.bind_some];rw[aU (by omega)];simp only[Option.bind_some,List.getElem?_eq_getElem hi,r1];have fin:∀(K':Nat)(f:ay)(nodes':List ByteArray)(fs':List ay)(c':ax),Ni K' nodes' fs'->i.toNat<fs'.length->bF c' (m+300)->
  ∃(K'':Nat)(nodes'':List ByteArray)(fs'':List ay)(c'':ax),((grd (0<=i/\i<(fs'.length:Int))).bind fun _=>(fs'[(Int.toNat i)]?).bind fun _=>bnd (fs'.set (Int.toNat i) f) fun l=>some ((0:Nat),K',nodes',l,c'))=some (0,K'',nodes'',fs'',c'')/\Ni K'' nodes'' fs''/\bF c'' (m+300):=by
  intro K' f nodes' fs' c' hD' hi' hc';rw[aU (by omega)];simp only[Option.bind_some,List.getElem?_eq_getElem hi',bnd];exact⟨_,_,_,_,rfl,⟨hD'.k1,hD'.k,hD'.n,hD'.z,by rw[List.length_set];exact hD'.f⟩,hc'⟩
 rcases bt (r==0) with e|e
 ·obtain⟨x,c4,k1,k2,k3⟩:=WB [(⟨#[98]⟩:ByteArray),(⟨#[]⟩:ByteArray),(⟨#[65]⟩:ByteArray),(⟨#[97,98,99,100,101,102,103,104]⟩:ByteArray),(⟨#[97,98,99,100,101,102,103,104,105]⟩:ByteArray),(⟨#[120,49]⟩:ByteArray)] r4 (by omega) (by simp);have hx:x.size<=9:=(show∀s∈[(⟨#[98]⟩:ByteArray),(⟨#[]⟩:ByteArray),(⟨#[65]⟩:ByteArray),(⟨#[97,98,99,100,101,102,103,104]⟩:ByteArray),(⟨#[97,98,99,100,101,102,103,104,105]⟩:ByteArray),(⟨#[120,49]⟩:ByteArray)],s.size<=9 by decide) x k2;have h00:0+Int.toNat 0<nodes.length:=by simp;omega
  simp only[e,cond_true,bnd,k1,Option.bind_some];rw[aU (by omega)];simp only[Option.bind_some,List.getElem?_eq_getElem h00];refine fin _ _ _ _ _ ⟨by omega,by rw[List.length_set];omega,by rw[List.length_set];omega,fun s hs=>?_,by omega⟩ hi (k3.up (by omega));rcases List.mem_or_eq_of_mem_set hs with h1|h1
  ·exact n5 s h1
  ·rw[h1];exact hx
 rw[e,cond_false];rcases bt (r==1) with e|e
 ·obtain⟨x,c4,k1,k2,k3,k4⟩:=bX 8 r4 (by omega);simp only[e,cond_true,k1,Option.bind_some];exact fin _ _ _ _ _ hD hi (k4.up (by omega))
 rw[e,cond_false];rcases bt (r==2) with e|e
 ·obtain⟨x,c4,k1,k2,k3,k4⟩:=bX 10 r4 (by omega);simp only[e,cond_true,k1,Option.bind_some];exact fin _ _ _ _ _ hD hi (k4.up (by omega))
 rw[e,cond_false];rcases bt (r==3) with e|e
 ·obtain⟨x,c4,k1,k2,k3⟩:=fk [0,1,5000,5001] r4 (by omega) (by simp);simp only[e,cond_true,bnd,k1,Option.bind_some];exact fin _ _ _ _ _ hD hi (k3.up (by omega))
 rw[e,cond_false];rcases bt (r==4) with e|e
 ·obtain⟨x,c4,k1,k2,k3⟩:=fk [(-1),9,10] r4 (by omega) (by simp);simp only[e,cond_true,bnd,k1,Option.bind_some];exact fin _ _ _ _ _ hD hi (k3.up (by omega))
 rw[e,cond_false];rcases bt (r==5) with e|e
 ·have h00:Int.toNat 0<fs.length:=by simp;omega
  simp only[e,cond_true];rw[aU (by omega)];simp only[Option.bind_some,List.getElem?_eq_getElem h00,bnd];rw[aU (by omega)];exact fin K _ nodes (fs++[fs[Int.toNat 0]]) _ ⟨hD.k1,hD.k,hD.n,hD.z,by simp;omega⟩ (by simp;omega) (r4.up (by omega))
 rw[e,cond_false];rcases bt (r==6) with e|e
 ·obtain⟨fs',c4,k1,k2,k3⟩:=JG fs (by omega) n6 r4 (by omega);simp only[e,cond_true,k1,Option.bind_some];exact⟨_,_,_,_,rfl,⟨by omega,by omega,by omega,n5,k2⟩,k3.up (by omega)⟩
 rw[e,cond_false];rcases bt (r==7) with e|e
 ·simp only[e,cond_true,bnd,FM nodes K hD.k];rw[aU (by omega)];simp only[Option.bind_some];refine fin _ _ _ _ _ ⟨by simp,(by simp only[List.length_append,List.length_take,List.length_cons,List.length_nil];have:=hD.k;omega),by simp;omega,fun s hs=>?_,by omega⟩ hi (r4.up (by omega));rcases List.mem_append.1 hs with h1|h1
  ·exact n5 s (List.mem_of_mem_take h1)
  ·exact(show∀s∈[(⟨#[112]⟩:ByteArray),(⟨#[113]⟩:ByteArray),(⟨#[114]⟩:ByteArray),(⟨#[115]⟩:ByteArray)],s.size<=9 by decide) s h1
 rw[e,cond_false];exact fin _ _ _ _ _ hD hi (r4.up (by omega))
end Vs

namespace Vs
open Go
theorem md{α:Type}(xs:List α)(k:Nat)(h:k<=xs.length):dt xs 0 k=xs.take k:=jC xs k h
theorem tY{K:Nat}{nodes:List ByteArray}{fs:List ay}(hK:K<=10)(h:∀s∈nodes,s.size<=9)(hf:fs.length<=20):bC ⟨nodes.take K,fs⟩<=1048576:=by
 have hs:∀(l:List ByteArray),(∀s∈l,s.size<=9)->(l.map fun x=>x.size).sum<=9*l.length:=by
  intro l;induction l with
  |nil=>intro _;simp
  | cons a l ih =>
    intro hl;have h1:=hl a (by simp);have h2:=ih fun s hs=>hl s (by simp[hs]);simp only[List.map_cons,List.sum_cons,List.length_cons];omega
 have h1:=hs (nodes.take K) fun s hs=>h s (List.mem_of_mem_take hs);have h2:(nodes.take K).length<=10:=by rw[List.length_take];omega
 unfold bC lQ pD;simp only;omega
theorem zF{L:List af}(h1:L.length<=20)(h2:∀x∈L,SvL x):bM L<=1048576:=by
 have hs:∀(l:List af),(∀s∈l,SvL s)->(l.map fun x=>gR x).sum<=2000*l.length:=by
  intro l;induction l with
  |nil=>intro _;simp
  | cons a l ih =>
    intro hl;obtain⟨w1,w2⟩:=hl a (by simp);have w3:=ih fun s hs=>hl s (by simp[hs]);simp only[List.map_cons,List.sum_cons,List.length_cons];have e:gR a=a.Work.Fibers.length+a.Spare.Fibers.length:=rfl;omega
 have:=hs L h2;unfold bM;omega
theorem HI{c:ax}{m:Nat}(h:bF c m)(hm:m<=1000000000):∃(K:Nat)(nodes:List ByteArray)(fs:List ay)(c':ax),Io c=some (0,K,nodes,fs,c')/\2<=K/\K<=6/\nodes.length=6/\(∀s∈nodes,s.size<=9)/\fs.length<=10/\bF c' (m+100):=by
 obtain⟨K,nodes,fs,c1,n1,n2,n3,n4,n5,n6,n7⟩:=qZ h hm;unfold Io;rw[n1,Option.bind_some];simp only[bnd];cases((fs.length:Int)==0) with
 |false=>exact⟨K,nodes,fs,c1,rfl,n2,n3,n4,n5,by omega,n7⟩
 | true =>
   rw[cond_true,aU (by omega),Option.bind_some];exact⟨K,nodes,_,c1,rfl,n2,n3,n4,n5,by simp;omega,n7⟩
theorem Df{n:ah}(hn:2<=n.Nodes.length)(hn2:n.Nodes.length<=20){c:ax}{m:Nat}(h:bF c m)(hm:m<=1000000000):∃d c',Ir n c=some (d,c')/\bF c' (m+20):=by
 unfold Ir;obtain⟨x1,c1,a1,a2,a3,a4⟩:=bX (n.Nodes.length:Int) h (by omega);rw[a1,Option.bind_some];obtain⟨x2,c2,b1,b2,b3,b4⟩:=bX (IntKind.wrap .i64 ((n.Nodes.length:Int)-1)) a4 (by omega);simp only[b1,Option.bind_some,bnd];rw[aU (by omega),Option.bind_some];obtain⟨x3,c3,d1,d2,d3⟩:=fk [10,20,40,50,90,120] b4 (by omega) (by simp);simp only[d1,Option.bind_some];obtain⟨x4,c4,e1,e2,e3,e4⟩:=bX 3 d3 (by omega);simp only[e1,Option.bind_some];obtain⟨x5,c5,f1,f2,f3,f4⟩:=bX 48 e4 (by omega);simp only[f1,Option.bind_some];cases x5==0 with
 | true =>
   obtain⟨x6,c6,g1,g2,g3,g4⟩:=bX 10 f4 (by omega);simp only[cond_true,g1,Option.bind_some];exact⟨_,_,rfl,g4.up (by omega)⟩
 | false =>
   rw[cond_false];cases x5==1 with
   | true =>
     obtain⟨x6,c6,g1,g2,g3⟩:=fk [0,1,1000,1001] f4 (by omega) (by simp);simp only[cond_true,g1,Option.bind_some];exact⟨_,_,rfl,g3.up (by omega)⟩
   | false =>
     rw[cond_false];cases x5==2 with
     | true =>
       obtain⟨x6,c6,g1,g2,g3⟩:=fk [-1,3] f4 (by omega) (by simp);simp only[cond_true,g1,Option.bind_some];exact⟨_,_,rfl,g3.up (by omega)⟩
     |false=>exact⟨_,_,rfl,f4.up (by omega)⟩
theorem vp{c:ax}{m:Nat}(h:bF c m)(hm:m<=10000000):∃(n:ah)(L:List af)(c':ax),GQ c=some (n,0,L.length,L,c')/\bC n<=1048576/\2<=n.Nodes.length/\n.Nodes.length<=10/\n.Fibers.length<=10/\L.length<=9/\(∀x∈L,SvL x)/\bF c' (m+500):=by
 obtain⟨K,nodes,fs,c1,n1,n2,n3,n4,n5,n6,n7⟩:=HI h (by omega);have hz:=tY (K:=K) (by omega) n5 (show fs.length<=20 by omega);have hk:(nodes.take K).length=K:=by rw[List.length_take];omega
 unfold GQ;rw[n1,Option.bind_some];simp only[bnd];obtain⟨x,c2,x1,x2,x3,x4⟩:=bX 6 n7 (by omega);rw[md _ _ (by omega),x1,Option.bind_some];obtain⟨o,o1,o2,o3,o4,o5⟩:=bv (f:=Lp (0,K,nodes,fs,c1) (nodes.take K)) (fun t=>t.2.1=2/\t.1=t.2.2.2.1.length/\t.2.2.2.2.1=F2/\0<=t.2.2.1/\t.2.2.1<=6/\t.2.2.2.1.length<=9/\(∀s∈t.2.2.2.1,SvL s)/\bF t.2.2.2.2.2 (m+102+20*(6-t.2.2.1.toNat))) (fun t=>t.2.2.1.toNat) (fun o=>o.1=o.2.1.length/\o.2.1.length<=9/\(∀s∈o.2.1,SvL s)/\bF o.2.2 (m+500)) (fun t hI=>by
  obtain⟨k,two,j,L,F,cc⟩:=t;obtain⟨i1,i2,i3,i4,i5,i6,i7,i8⟩:=hI;simp only at i1 i2 i3 i4 i5 i6 i7 i8;subst i1 i2 i3;unfold Lp;by_cases hj:0<j
  ·left;obtain⟨d,c3,d1,d2⟩:=Df (n:=⟨nodes.take K,fs⟩) (by rw[hk];exact n2) (by rw[hk];omega) i8 (by omega);obtain⟨id,ok,L',a1,a2⟩:=TF ⟨nodes.take K,fs⟩ d L hz (zF (by omega) i7) i7;simp only[decide_eq_true hj,cond_true,d1,Option.bind_some,a1];rw[aE (by omega) (by omega)];cases ok with
   | true =>
     obtain⟨a3,a4⟩:=a2 rfl;exact⟨_,rfl,⟨rfl,rfl,rfl,by simp only;omega,by simp only;omega,a3,a4,d2.up (by simp only;omega)⟩,by simp only;omega⟩
   |false=>exact⟨_,rfl,⟨rfl,rfl,rfl,by simp only;omega,by simp only;omega,i6,i7,d2.up (by simp only;omega)⟩,by simp only;omega⟩
  ·right;simp only[decide_eq_false hj,cond_false];exact⟨_,rfl,rfl,i6,i7,i8.up (by omega)⟩) N0 (0,2,x,[],F2,c2) ⟨rfl,rfl,rfl,x2,by simp only;omega,by simp,fun s hs=>(by cases hs),x4.up (by simp only;omega)⟩ (cw (by simp only;omega))
 have ef:([(⟨3000,10⟩:aR),(⟨900,20⟩:aR)])=F2:=rfl;rw[ef,o1,Option.bind_some,o2];exact⟨_,_,_,rfl,hz,by rw[hk];exact n2,by rw[hk];omega,n6,o3,o4,o5⟩
theorem TH{n:ah}(hF:n.Fibers.length<=20)(s:Int×List Int×List Int×ax)(hq:0<s.2.1.length)(hq2:s.2.1.length<=100):∃l,bn (CN n s) N0 (0,[])=some l/\l.length<=20/\∀e∈l,0<=e/\e<(n.Fibers.length:Int):=by
 obtain⟨o,o1,o2,o3⟩:=bv (f:=CN n s) (fun t=>∃i:Nat,t.1=(i:Int)/\i<=n.Fibers.length/\t.2.length<=i/\∀e∈t.2,0<=e/\e<(n.Fibers.length:Int)) (fun t=>n.Fibers.length-t.1.toNat) (fun o=>o.length<=20/\∀e∈o,0<=e/\e<(n.Fibers.length:Int)) (fun t⟨i,e,hi,t1,t2⟩=>by
  obtain⟨x,acc⟩:=t;simp only at e t1 t2;subst e;unfold CN;by_cases h3:i<n.Fibers.length
  ·left;have e1:decide ((i:Int)<(n.Fibers.length:Int))=true:=by simp[h3]
   have hix:IntKind.wrap .i64 ((s.2.1.length:Int)-1)=((s.2.1.length-1:Nat):Int):=by rw[aE (by omega) (by omega)];omega
   simp only[e1,cond_true,hix];rw[aU ⟨by omega,by omega⟩,Option.bind_some,Int.toNat_natCast,List.getElem?_eq_getElem (show s.2.1.length-1<s.2.1.length by omega),Option.bind_some,jN n (i:Int) _ (cG.2 (by omega)),Option.bind_some];generalize dd n (i:Int) (s.2.1[s.2.1.length-1]'(by omega))=v;have hc:∃c,(cond (decide (0<=v)) ((M_m s.2.1 v).bind fun rZ14=>some (!rZ14)) (some false):Option Bool)=some c:=by
    rw[fJ _ _ (show s.2.1.length<=1048576 by omega)];cases decide (0<=v)<;>exact⟨_,rfl⟩
   obtain⟨c,hc⟩:=hc;rw[hc,Option.bind_some,aE (by omega) (by omega)];cases c with
   |false=>exact⟨_,rfl,⟨i+1,rfl,by omega,by simp only;omega,t2⟩,by simp only;omega⟩
   | true =>
     simp only[cond_true,bnd];rw[aU (by omega),Option.bind_some];exact⟨_,rfl,⟨i+1,rfl,by omega,by simp;omega,fun y hy=>by
      rcases List.mem_append.1 hy with h4|h4
      ·exact t2 y h4
      ·simp only[List.mem_singleton] at h4;rw[h4];omega⟩,by simp only;omega⟩
  ·right;have e1:decide ((i:Int)<(n.Fibers.length:Int))=false:=by simp only[decide_eq_false_iff_not];omega
   simp only[e1,cond_false];exact⟨_,rfl,by omega,t2⟩) N0 (0,[]) ⟨0,rfl,by omega,by simp,fun e he=>(by cases he)⟩ (cw (by simp only;omega))
 exact⟨o,o1,o2,o3⟩
theorem II{n:ah}(hF:n.Fibers.length<=20){c:ax}{m:Nat}(h:bF c m)(hm:m<=1000000000):∃s p c',Jj n c=some (s,p,c')/\p.length<=5/\bF c' (m+20):=by
 unfold Jj;obtain⟨x,c1,a1,a2,a3,a4⟩:=bX (n.Nodes.length:Int) h (by omega);obtain⟨y,c2,b1,b2,b3,b4⟩:=bX 4 a4 (by omega);simp only[a1,Option.bind_some,bnd,b1];rw[aE (n:=1+y) (by omega) (by omega)];obtain⟨o,o1,o2,o3⟩:=bv (f:=Mp n) (fun t=>0<=t.1/\t.1<=4/\0<t.2.1.length/\(t.2.1.length:Int)<=5-t.1/\(t.2.2.1.length:Int)<=4-t.1/\bF t.2.2.2 (m+4+2*(4-t.1.toNat))) (fun t=>t.1.toNat) (fun o=>o.1.length<=5/\bF o.2 (m+20)) (fun t hI=>by
  obtain⟨k,q,p,cc⟩:=t;obtain⟨i1,i2,i3,i4,i5,i6⟩:=hI;simp only at i1 i2 i3 i4 i5 i6;unfold Mp;by_cases hk:0<k
  ·obtain⟨l,l1,l2,l3⟩:=TH hF (k,q,p,cc) i3 (by simp only;omega);simp only[decide_eq_true hk,cond_true,l1,Option.bind_some];by_cases h0:l.length=0
   ·rw[show((l.length:Int)==0)=true by simp[h0],cond_true];exact .inr ⟨_,rfl,by simp only;omega,i6.up (by omega)⟩
   ·have e0:((l.length:Int)==0)=false:=by rw[beq_eq_false_iff_ne];omega
    obtain⟨z,c3,d1,d2,d3,d4⟩:=bX (l.length:Int) i6 (by omega);have hz:z.toNat<l.length:=by omega
    have hix:IntKind.wrap .i64 ((q.length:Int)-1)=((q.length-1:Nat):Int):=by rw[aE (by omega) (by omega)];omega
    obtain⟨g1,g2⟩:=l3 _ (List.getElem_mem hz);rw[e0,cond_false,d1,Option.bind_some];simp only;rw[aU ⟨d2,by omega⟩,Option.bind_some,List.getElem?_eq_getElem hz,Option.bind_some];simp only[bnd,hix];rw[aU (by omega),Option.bind_some,aU ⟨by omega,by omega⟩,Option.bind_some,Int.toNat_natCast,List.getElem?_eq_getElem (show q.length-1<q.length by omega),Option.bind_some,jN n _ _ (cG.2 (by omega)),Option.bind_some,aU (by omega),Option.bind_some,aE (by omega) (by omega)];exact .inl ⟨_,rfl,⟨by simp only;omega,by simp only;omega,by simp,by simp;omega,by simp;omega,d4.up (by simp only;omega)⟩,by simp only;omega⟩
  ·simp only[decide_eq_false hk,cond_false];exact .inr ⟨_,rfl,by simp only;omega,i6.up (by omega)⟩) N0 (1+y,[x],[],c2) ⟨by simp only;omega,by simp only;omega,by simp,by simp only[List.length_singleton];omega,by simp only[List.length_nil];omega,b4.up (by simp only;omega)⟩ (cw (by simp only;omega))
 rw[o1,Option.bind_some];exact⟨_,_,_,rfl,o2,o3⟩
theorem mG{n:ah}(hF:n.Fibers.length<=20){c:ax}{m:Nat}(h:bF c m)(hm:m<=1000000000):∃s p c',AB n c=some (s,p,c')/\p.length<=6/\bF c' (m+30):=by
 unfold AB;obtain⟨s,p,c1,a1,a2,a3⟩:=II hF h hm;obtain⟨x,c2,b1,b2,b3,b4⟩:=bX 16 a3 (by omega);simp only[a1,Option.bind_some,b1];obtain⟨y,c3,d1,d2,d3,d4⟩:=bX 8 b4 (by omega);cases x==0 with
 |true=>simp only[cond_true,d1,Option.bind_some];exact⟨_,_,_,rfl,by omega,d4.up (by omega)⟩
 | false =>
   rw[cond_false];cases x==1 with
   | true =>
     simp only[cond_true,d1,Option.bind_some,bnd];rw[aU (by omega),Option.bind_some];exact⟨_,_,_,rfl,by simp;omega,d4.up (by omega)⟩
   | false =>
     rw[cond_false];cases x==2 with
     |true=>exact⟨_,_,_,rfl,by simp,b4.up (by omega)⟩
     | false =>
       rw[cond_false];cases x==3 with
       |false=>exact⟨_,_,_,rfl,by omega,b4.up (by omega)⟩
       | true =>
         rw[cond_true];by_cases h1:1<p.length
         ·have e1:decide ((1:Int)<(p.length:Int))=true:=by simp only[decide_eq_true_eq];omega
          have hix:IntKind.wrap .i64 ((p.length:Int)-1)=((p.length-1:Nat):Int):=by rw[aE (by omega) (by omega)];omega
          simp only[e1,cond_true,hix,bnd];rw[aU ⟨by omega,by omega⟩,Option.bind_some,Int.toNat_natCast,List.getElem?_eq_getElem (show p.length-1<p.length by omega),Option.bind_some,aU (by omega),Option.bind_some];exact⟨_,_,_,rfl,by simp;omega,b4.up (by omega)⟩
         ·have e1:decide ((1:Int)<(p.length:Int))=false:=by simp only[decide_eq_false_iff_not];omega
          rw[e1];exact⟨_,_,_,rfl,by omega,b4.up (by omega)⟩
theorem uW{c:ax}{m:Nat}(h:bF c m)(hm:m<=1000000000):∃b c',BZ c=some (b,c')/\bF c' (m+10):=by
 unfold BZ;obtain⟨b,c1,a1,a2⟩:=yS 12 h (by omega);rw[a1,Option.bind_some];cases b with
 | true =>
   obtain⟨x,c2,b1,b2,b3,b4⟩:=bX 26 a2 (by omega);obtain⟨y,c3,d1,d2,d3,d4⟩:=bX 27 b4 (by omega);simp only[cond_true,b1,Option.bind_some,d1];exact⟨_,_,rfl,d4.up (by omega)⟩
 | false =>
   obtain⟨x,c2,b1,b2,b3,b4⟩:=bX 6 a2 (by omega);obtain⟨y,c3,d1,d2,d3,d4⟩:=bX (IntKind.wrap .i64 ((IntKind.wrap .i64 (24-(IntKind.wrap .i64 (1+x))))+1)) b4 (by omega);simp only[cond_false,b1,Option.bind_some,d1];exact⟨_,_,rfl,d4.up (by omega)⟩
def Gb(n:ah)(L:List af):Prop:=bC n<=1048576/\n.Fibers.length<=20/\L.length<=10/\∀x∈L,SvL x
theorem fH{x:Int}{L:List af}{n:ah}{s:af}{c:ax}{m:Nat}(hx:0<=x/\x<(L.length:Int))(h:Gb n L)(hs:SvL s)(hc:bF c m):∃(n':ah)(L':List af)(c':ax),((grd (0<=x/\x<((L.length:Nat):Int))).bind fun _=>(L[(0+(Int.toNat x))]?).bind fun _=>bnd (L.set (0+(Int.toNat x)) s) fun lZ38=>some (n,0,L.length,lZ38,c))=some (n',0,L'.length,L',c')/\Gb n' L'/\bF c' m:=by
 rw[aU hx,Option.bind_some,List.getElem?_eq_getElem (show 0+x.toNat<L.length by omega),Option.bind_some];refine⟨n,L.set (0+x.toNat) s,c,by rw[List.length_set];rfl,⟨h.1,h.2.1,by rw[List.length_set];exact h.2.2.1,fun y hy=>?_⟩,hc⟩;rcases List.mem_or_eq_of_mem_set hy with h1|h1
 ·exact h.2.2.2 y h1
 ·rw[h1];exact hs
theorem oX{c:ax}{m:Nat}(h:bF c m)(hm:m<=1000000):∃(n:ah)(L:List af)(c':ax),IY c=some (n,0,L.length,L,c')/\Gb n L/\bF c' (m+2000):=by
 obtain⟨n,L,c1,s1,s2,s3,s4,s5,s6,s7,s8⟩:=vp h (by omega);have hD:Gb n L:=⟨s2,by omega,by omega,s7⟩;unfold IY;rw[s1,Option.bind_some];simp only;by_cases h0:L.length=0
 ·rw[show(((L.length:Nat):Int)==0)=true by simp[h0],cond_true];exact⟨n,L,c1,rfl,hD,s8.up (by omega)⟩
 have e0:(((L.length:Nat):Int)==0)=false:=by rw[beq_eq_false_iff_ne];omega
 obtain⟨x,c2,x1,x2,x3,x4⟩:=bX (L.length:Int) s8 (by omega);have hx:0<=x/\x<(L.length:Int):=by omega
 have hxl:0+x.toNat<L.length:=by omega
 obtain⟨y,c3,y1,y2,y3,y4⟩:=bX 24 x4 (by omega);rw[e0,cond_false,x1,Option.bind_some];simp only;rw[aU hx,Option.bind_some,List.getElem?_eq_getElem hxl,Option.bind_some,y1,Option.bind_some];have hy:=s7 _ (List.getElem_mem hxl);generalize L[0+x.toNat]=s at hy;have up:∀{k:Nat}{c:ax},bF c k->k<=m+2000->bF c (m+2000):=fun h hk=>h.up hk;simp only[bnd];cases y==0 with
 | true =>
   obtain⟨z,c4,z1,z2,z3⟩:=fk [0,999,1000,500,1] y4 (by omega) (by simp);simp only[cond_true,z1,Option.bind_some];exact fH hx hD (by exact hy) (up z3 (by omega))
 | false =>
   rw[cond_false];cases y==1 with
   | true =>
     obtain⟨z,c4,z1,z2,z3,z4⟩:=bX 5 y4 (by omega);simp only[cond_true,z1,Option.bind_some];exact fH hx hD (by exact hy) (up z4 (by omega))
   | false =>
     rw[cond_false];cases y==2 with
     | true =>
       obtain⟨a,p,c4,z1,z2,z3⟩:=mG hD.2.1 y4 (by omega);simp only[cond_true,z1,Option.bind_some];exact fH hx hD ⟨by simp only;omega,hy.2⟩ (up z3 (by omega))
     | false =>
       rw[cond_false];cases y==3 with
       | true =>
         obtain⟨b,c4,z1,z2⟩:=uW y4 (by omega);simp only[cond_true,z1,Option.bind_some];exact fH hx hD (by exact hy) (up z2 (by omega))
       | false =>
         rw[cond_false];cases y==4 with
         | true =>
           obtain⟨a,p,c4,z1,z2,z3⟩:=mG hD.2.1 y4 (by omega);simp only[cond_true,z1,Option.bind_some];exact fH hx hD ⟨hy.1,by simp only;omega⟩ (up z3 (by omega))
         | false =>
           rw[cond_false];cases y==5 with
           | true =>
             obtain⟨b,c4,z1,z2⟩:=uW y4 (by omega);simp only[cond_true,z1,Option.bind_some];exact fH hx hD (by exact hy) (up z2 (by omega))
           | false =>
             rw[cond_false];cases y==6 with
             | true =>
               simp only[cond_true,eG];rw[aU (by omega)];simp only[Option.bind_some];have hl:(L.length+1)=(L++[s]).length:=by simp
               rw[hl];exact fH (by rw[<-hl];omega) ⟨hD.1,hD.2.1,by rw[<-hl];omega,fun z hz=>by
                rcases List.mem_append.1 hz with h4|h4
                ·exact s7 z h4
                ·simp only[List.mem_singleton] at h4;rw[h4];exact hy⟩ hy (up y4 (by omega))
             | false =>
               rw[cond_false];cases y==7 with
               | true =>
                 obtain⟨K,nodes,fs,c4,z1,z2,z3⟩:=rC y4 (by omega);simp only[cond_true,z1,Option.bind_some];rw[md _ _ z2.k];have hz:=tY (K:=K) (by have:=z2.k;have:=z2.n;omega) z2.z (show fs.length<=20 by have:=z2.f;omega);exact fH hx ⟨hz,by have:=z2.f;simp only;omega,hD.2.2.1,s7⟩ hy (up z3 (by omega))
               | false =>
                 simp only[cond_false,Option.bind_some];exact fH hx hD hy (up y4 (by omega))
theorem wz(n:ah)(h:n.Fibers.length<=20)(i:Nat)(f:ay)(hf:n.Fibers[i]?=some f)(hr:f.Risk≠0):pO n (i:Int)=some (cB f.Risk 0 n.Fibers):=by
 unfold pO;have e:(f.Risk==0)=false:=by simpa using hr
 simp only[aQ,hf,Option.bind_some,e,cond_false];rw[pn (f:=M_d n (i:Int)) n.Fibers f.Risk (by omega) (fun j x b hx hb=>by
  have hlt:=(List.getElem?_eq_some_iff.1 hx).1;have e1:decide ((j:Int)<n.Fibers.length)=true:=by simp[hlt]
  simp only[M_d,e1,cond_true,aQ,hx,hf,Option.bind_some,bnd];rw[aU (by omega),aE (by omega) (by omega)];by_cases e:x.Risk=f.Risk
  ·simp[e]
  ·simp[e,gW]) (fun a=>by simp[M_d])]
 rfl
theorem tm(n:ah)(h:n.Fibers.length<=20):sT n=some (aX n):=by
 unfold sT;rw[lV (f:=M_e n) n.Fibers (fun r a hr1 hr9 ha=>by
  have e1:decide (r<=9)=true:=by simp[hr9]
  simp only[M_e,e1,cond_true];have key:bn (M_l n (r,a)) N0 0=some (if 0<(cB r 0 n.Fibers).length then a++[cB r 0 n.Fibers] else a):=by
   rw[cZ (f:=M_l n (r,a)) n.Fibers (fun _ f=>decide (f.Risk=r)) (a++[cB r 0 n.Fibers]) a (fun i x hx _=>by
    have hlt:=(List.getElem?_eq_some_iff.1 hx).1;have e1:decide ((i:Int)<n.Fibers.length)=true:=by simp[hlt]
    simp only[M_l,e1,cond_true,aQ,hx,Option.bind_some,bnd];by_cases e:x.Risk=r
    ·have e0:x.Risk≠0:=by omega
     have e2:(x.Risk==r)=true:=by simp[e]
     rw[wz n h i x hx e0];simp only[e2,cond_true,Option.bind_some];rw[aU (by omega)];simp[e]
    ·have e2:(x.Risk==r)=false:=by simp[e]
     simp only[e2,cond_false];rw[aE (by omega) (by omega)];simp[e]) (by simp[M_l]) (by omega)]
   by_cases hp:0<(cB r 0 n.Fibers).length
   ·rw[if_pos hp];obtain⟨j,f,h1,h2⟩:=kR.1 hp;have:dV (fun _(f:ay)=>decide (f.Risk=r)) n.Fibers=true:=fl.2 ⟨j,f,h1,by simp[h2]⟩;rw[this];rfl
   ·rw[if_neg hp];have:dV (fun _(f:ay)=>decide (f.Risk=r)) n.Fibers=false:=cD.2 fun i x hx=>by
     simp only[decide_eq_false_iff_not];intro e;exact hp (kR.2 ⟨i,x,hx,e⟩)
    rw[this];rfl
  rw[key];simp only[Option.bind_some];rw[aE (by omega) (by omega)]) (fun a=>by simp[M_e])]
 simp only[Option.bind_some];have hl:=List.length_filter_le (fun l:List Int=>decide (0<l.length)) (fh.map fun r=>cB r 0 n.Fibers);have hl9:(fh.map fun r=>cB r 0 n.Fibers).length=9:=rfl;rw[pb (f:=M_k n) n.Fibers _ (by omega) (by omega) (fun i x a hx ha=>by
  have hlt:=(List.getElem?_eq_some_iff.1 hx).1;have e1:decide ((i:Int)<n.Fibers.length)=true:=by simp[hlt]
  simp only[M_k,e1,cond_true,aQ,hx,Option.bind_some,bnd];rw[aU (by omega),aE (by omega) (by omega)];by_cases e:x.Risk=0
  ·simp[e]
  ·simp[e,gW]) (fun a=>by simp[M_k])]
 rfl
theorem Na{n:ah}(hF:n.Fibers.length<=20){c:ax}{m:Nat}(h:bF c m)(hm:m<=100000000):∃k ids c',Gl n c=some (0,k,ids,c')/\k<=ids.length/\ids.length<=20/\bF c' (m+100):=by
 unfold Gl;obtain⟨o,o1,o2,o3⟩:=bv (f:=JV n) (fun t=>∃i:Nat,t.1=(i:Int)/\i<=n.Fibers.length/\t.2.1.length<=i/\(∀e∈t.2.1,0<=e)/\bF t.2.2 (m+2*i)) (fun t=>n.Fibers.length-t.1.toNat) (fun o=>o.1.length<=20/\bF o.2 (m+40)) (fun t⟨i,e,hi,t1,t3,t2⟩=>by
  obtain⟨x,acc,cc⟩:=t;simp only at e t1 t2 t3;subst e;unfold JV;by_cases h3:i<n.Fibers.length
  ·left;have e1:decide ((i:Int)<(n.Fibers.length:Int))=true:=by simp[h3]
   obtain⟨z,c4,z1,z2⟩:=yS 4 t2 (by omega);simp only[e1,cond_true,bnd,z1,Option.bind_some];rw[aE (by omega) (by omega)];cases z with
   |false=>exact⟨_,rfl,⟨i+1,rfl,by omega,by simp only;omega,t3,z2.up (by omega)⟩,by simp only;omega⟩
   | true =>
     rw[cond_true,aU (by omega),Option.bind_some];exact⟨_,rfl,⟨i+1,rfl,by omega,by simp;omega,fun y hy=>by
      rcases List.mem_append.1 hy with h4|h4
      ·exact t3 y h4
      ·simp only[List.mem_singleton] at h4;omega,z2.up (by omega)⟩,by simp only;omega⟩
  ·right;have e1:decide ((i:Int)<(n.Fibers.length:Int))=false:=by simp only[decide_eq_false_iff_not];omega
   simp only[e1,cond_false];exact⟨_,rfl,by simp only;omega,t2.up (by omega)⟩) N0 (0,[],c) ⟨0,rfl,by omega,by simp,fun e he=>(by cases he),h⟩ (cw (by simp only;omega))
 obtain⟨z,c4,z1,z2⟩:=yS 8 o3 (by omega);rw[o1,Option.bind_some,tm n hF,Option.bind_some,z1,Option.bind_some];simp only;cases z with
 |true=>exact⟨o.1.length,o.1,c4,rfl,Nat.le_refl _,o2,z2.up (by omega)⟩
 | false =>
   simp only[Bool.not_false,cond_true];obtain⟨k,k1,k2⟩:=bv (f:=Md o (aX n)) (fun t=>t<=o.1.length) (fun t=>t) (fun k=>k<=o.1.length) (fun t ht=>by
    unfold Md;by_cases h0:0<t
    ·have e1:decide ((0:Int)<(t:Int))=true:=by simp[h0]
     have hix:IntKind.wrap .i64 ((t:Int)-1)=((t-1:Nat):Int):=by rw[aE (by omega) (by omega)];omega
     simp only[e1,cond_true,hix];rw[aU ⟨by omega,by omega⟩,Option.bind_some,Int.toNat_natCast,List.getElem?_eq_getElem (show t-1<o.1.length by omega),Option.bind_some,Option.bind_some];cases decide (((aX n).length:Int)<=o.1[t-1]'(by omega)) with
     |false=>exact .inr ⟨t,rfl,ht⟩
     | true =>
       rw[cond_true,aU ⟨trivial,by omega,trivial,by omega⟩,Option.bind_some];exact .inl ⟨_,rfl,by omega,by omega⟩
    ·have e1:decide ((0:Int)<(t:Int))=false:=by simp only[decide_eq_false_iff_not];omega
     simp only[e1,cond_false,Option.bind_some];exact .inr ⟨t,rfl,ht⟩) N0 o.1.length (Nat.le_refl _) (cw (by omega))
   rw[k1];exact⟨k,o.1,c4,rfl,k2,o2,z2.up (by omega)⟩
end Vs

namespace Vs
open Go
theorem ly(a:Nat):BitVec.ofInt 64 (a:Int)=BitVec.ofNat 64 a:=by
 apply BitVec.eq_of_toNat_eq;simp[BitVec.toNat_ofInt]
theorem borS(a b:Nat)(ha:a<2^62)(hb:b<2^62):bits .or .i64 (a:Int) (b:Int)=((a ||| b:Nat):Int):=by
 have hab:a ||| b<2^62:=Nat.or_lt_two_pow ha hb;show IntKind.wrap .i64 ((BitVec.ofInt 64 (a:Int) ||| BitVec.ofInt 64 (b:Int)).toNat:Int)=_;rw[ly,ly,BitVec.toNat_or,BitVec.toNat_ofNat,BitVec.toNat_ofNat,Nat.mod_eq_of_lt (by omega),Nat.mod_eq_of_lt (by omega),aE (by omega) (by omega)]
theorem Rz(a b:Nat)(ha:a<2^62)(hb:b<2^62):bits .and .i64 (a:Int) (b:Int)=((a &&& b:Nat):Int):=by
 have hab:a &&& b<=a:=Nat.and_le_left;show IntKind.wrap .i64 ((BitVec.ofInt 64 (a:Int) &&& BitVec.ofInt 64 (b:Int)).toNat:Int)=_;rw[ly,ly,BitVec.toNat_and,BitVec.toNat_ofNat,BitVec.toNat_ofNat,Nat.mod_eq_of_lt (by omega),Nat.mod_eq_of_lt (by omega),aE (by omega) (by omega)]
theorem Wi(m i:Nat)(hi:i<64)(hm:m<2^62):bits .and .i64 (Int.fdiv (m:Int) (2^(min i (IntKind.bits .i64)))) 1=if m.testBit i then 1 else 0:=by
 have e1:min i (IntKind.bits .i64)=i:=by rw[show IntKind.bits .i64=64 from rfl];omega
 have e2:Int.fdiv (m:Int) (2^i)=((m/2^i:Nat):Int):=by
  rw[Int.fdiv_eq_ediv_of_nonneg _ (by exact_mod_cast Nat.zero_le (2^i))];simp
 have hlt:m/2^i<2^62:=Nat.lt_of_le_of_lt (Nat.div_le_self ..) hm;rw[e1,e2];have e3:bits .and .i64 ((m/2^i:Nat):Int) 1=((m/2^i%2:Nat):Int):=by
  rw[show(1:Int)=((1:Nat):Int) from rfl,Rz _ _ hlt (by omega),Nat.and_one_is_mod]
 rw[e3,Nat.testBit_eq_decide_div_mod_eq];have:=Nat.mod_two_eq_zero_or_one (m/2^i);rcases this with h|h<;>rw[h]<;>simp
def iP(b:aH)(i:Nat):Bool:=decide (b.First<=(i:Int)/\(i:Int)<b.First+b.Count)
theorem Ms{b:aH}(h:dw b)(h2:b.First+b.Count<=24):∃m:Nat,dj b=(m:Int)/\m<2^24/\∀i,m.testBit i=iP b i:=by
 obtain⟨⟨a1,a2⟩,a3,a4⟩:=h;obtain⟨F,C⟩:=b;obtain⟨f,rfl⟩:=Int.eq_ofNat_of_zero_le a1;obtain⟨c,rfl⟩:=Int.eq_ofNat_of_zero_le a3;simp only at a2 a4 h2;have q1:(2:Nat)^c<=2^24:=Nat.pow_le_pow_right (by omega) (by omega);have q2:0<(2:Nat)^c:=Nat.two_pow_pos c;have q3:(2:Nat)^c*2^f<=2^24:=by rw[<-Nat.pow_add];exact Nat.pow_le_pow_right (by omega) (by omega)
 have q4:0<(2:Nat)^f:=Nat.two_pow_pos f;have q5:(2^c-1)*2^f<2^24:=Nat.lt_of_lt_of_le (Nat.mul_lt_mul_of_pos_right (by omega) q4) q3;refine⟨(2^c-1)*2^f,?_,q5,fun i=>?_⟩
 ·unfold dj;have e1:min (Int.toNat (c:Int)) (IntKind.bits .i64)=c:=by rw[show IntKind.bits .i64=64 from rfl,Int.toNat_natCast];omega
  have e2:min (Int.toNat (f:Int)) (IntKind.bits .i64)=f:=by rw[show IntKind.bits .i64=64 from rfl,Int.toNat_natCast];omega
  simp only[e1,e2];have p1:(1*2^c:Int)=((2^c:Nat):Int):=by rw[Int.one_mul];exact_mod_cast rfl
  rw[p1,aE (n:=((2^c:Nat):Int)) (by omega) (by omega),aE (n:=((2^c:Nat):Int)-1) (by omega) (by omega)];have p2:(((2^c:Nat):Int)-1)*2^f=(((2^c-1)*2^f:Nat):Int):=by
   rw[Int.natCast_mul,Int.natCast_sub (by omega)];congr 1
  rw[p2,aE (by omega) (by omega)]
 ·rw[<-Nat.shiftLeft_eq,Nat.testBit_shiftLeft,Nat.testBit_two_pow_sub_one];unfold iP;rw[Bool.eq_iff_iff];simp only[Bool.and_eq_true,decide_eq_true_eq];omega
theorem LW{b:aH}(h:dw b)(h2:b.First+b.Count<=24):(((List.range 24).countP (iP b):Nat):Int)=b.Count:=by
 obtain⟨⟨a1,a2⟩,a3,a4⟩:=h;obtain⟨F,C⟩:=b;obtain⟨f,rfl⟩:=Int.eq_ofNat_of_zero_le a1;obtain⟨c,rfl⟩:=Int.eq_ofNat_of_zero_le a3;simp only at a2 a4 h2⊢;have key:∀N:Nat,(List.range N).countP (iP ⟨(f:Int),(c:Int)⟩)=min (f+c) N-min f N:=by
  intro N;induction N with
  |zero=>simp
  | succ N ih =>
    rw[List.range_succ,List.countP_append,ih];have e:iP ⟨(f:Int),(c:Int)⟩ N=decide (f<=N/\N<f+c):=by
     unfold iP;rw[Bool.eq_iff_iff];simp only[decide_eq_true_eq];omega
    simp only[List.countP_cons,List.countP_nil,e,decide_eq_true_eq];split<;>omega
 rw[key];omega
theorem ET{a b:aH}(ha:dw a)(ha2:a.First+a.Count<=24)(hb:dw b)(hb2:b.First+b.Count<=24)(h:(bits .and .i64 (dj a) (dj b) !=0)=false)(i:Nat):(iP a i&&iP b i)=false:=by
 obtain⟨x,x1,x2,x3⟩:=Ms ha ha2;obtain⟨y,y1,y2,y3⟩:=Ms hb hb2;rw[x1,y1,Rz x y (by omega) (by omega)] at h;have h0:x &&& y=0:=by simpa using h
 rw[<-x3,<-y3,<-Nat.testBit_and,h0,Nat.zero_testBit]
theorem Pm(m:Nat)(hm:m<2^62):Dr (m:Int)=some (((List.range 24).countP fun i=>m.testBit i:Nat):Int):=by
 unfold Dr;obtain⟨b,hb,hq⟩:=bv (f:=DG (m:Int)) (fun t=>∃k:Nat,k<=24/\t=((((List.range k).countP fun i=>m.testBit i:Nat):Int),(k:Int))) (fun t=>24-t.2.toNat) (fun b=>b=(((List.range 24).countP fun i=>m.testBit i:Nat):Int)) (fun t⟨k,hk,e⟩=>by
  subst e;by_cases h:k<24
  ·left;have hc:((List.range k).countP fun i=>m.testBit i)<=k:=by
    have:=List.countP_le_length (p:=fun i=>m.testBit i) (l:=List.range k);simpa using this
   refine⟨((((List.range (k+1)).countP fun i=>m.testBit i:Nat):Int),((k+1:Nat):Int)),?_,⟨k+1,by omega,rfl⟩,by simp;omega⟩;have h1:decide ((k:Int)<24)=true:=by simp;omega
   simp only[DG,h1,cond_true];rw[sU (n:=(k:Int)) (by omega) (by omega),aU (by omega),Option.bind_some,Int.toNat_natCast,Wi m k (by omega) hm,aE (n:=(k:Int)+1) (by omega) (by omega),List.range_succ,List.countP_append];simp only[List.countP_cons,List.countP_nil];cases e:m.testBit k
   ·simp only[Bool.false_eq_true,if_false];rw[aE (by omega) (by omega)];rfl
   ·simp only[if_true];rw[aE (by omega) (by omega)];rfl
  ·right;have:k=24:=by omega
   subst this;exact⟨_,by simp[DG],rfl⟩) N0 (0,0) ⟨0,by omega,rfl⟩ (cw (by simp))
 rw[hb,hq];rfl
theorem wx(p q r:Nat->Bool):∀(N:Nat),(∀i,i<N->p i=(q i||r i))->(∀i,i<N->(q i&&r i)=false)->(List.range N).countP p=(List.range N).countP q+(List.range N).countP r
 |0,_,_=>rfl
 | N + 1, h, hd => by
   rw[List.range_succ,List.countP_append,List.countP_append,List.countP_append,wx p q r N (fun i hi=>h i (by omega)) (fun i hi=>hd i (by omega))];have h1:=h N (by omega);have h2:=hd N (by omega);simp only[List.countP_cons,List.countP_nil,h1];cases hq:q N<;>cases hr:r N
   ·simp<;>omega
   ·simp<;>omega
   ·simp<;>omega
   ·rw[hq,hr] at h2;cases h2
theorem oM(p:Nat->Bool)(N:Nat)(h:∀i,i<N->p i=false):(List.range N).countP p=0:=by
 rw[List.countP_eq_zero];intro i hi;rw[h i (by simpa using hi)];simp
theorem yQ(y:Nat):∀(N:Nat),y<N->(List.range N).countP (fun i:Nat=>decide (i=y))=1
 |0,h=>by omega
 | N + 1, h => by
   rw[List.range_succ,List.countP_append];by_cases hy:N=y
   ·subst hy;rw[oM _ N fun i hi=>decide_eq_false (by omega)];simp
   ·rw[yQ y N (by omega)];simp[hy]
theorem zx(N:Nat):∀(P:List Int),P.Nodup->(∀y∈P,0<=y/\y<N)->(List.range N).countP (fun i:Nat=>decide ((i:Int)∈P))=P.length
 |[],_,_=>oM _ N fun i _=>by simp
 | y :: P, hn, hr => by
   rw[List.nodup_cons] at hn;have hy:=hr y List.mem_cons_self;rw[wx _ (fun i=>decide (i=y.toNat)) (fun i:Nat=>decide ((i:Int)∈P)) N (fun i _=>by
    rw[Bool.eq_iff_iff];simp only[List.mem_cons,decide_eq_true_eq,Bool.or_eq_true];constructor
    ·rintro(h|h)
     ·left;omega
     ·exact .inr h
    ·rintro(h|h)
     ·left;omega
     ·exact .inr h) (fun i _=>by
    by_cases h:i=y.toNat
    ·have:¬(i:Int)∈P:=by rw[show(i:Int)=y by omega];exact hn.1
     simp[this]
    ·simp[h]),yQ _ N (by omega),zx N P hn.2 fun z hz=>hr z (List.mem_cons_of_mem _ hz)]
   simp;omega
theorem xX(c:Int)(p:Nat->Bool):∀N,((List.range N).map fun i=>if p i then c else 0).sum=c*((List.range N).countP p:Nat)
 |0=>by simp
 | N + 1 => by
   rw[List.range_succ,List.map_append,List.sum_append,xX c p N,List.countP_append];simp only[List.map_cons,List.map_nil,List.sum_cons,List.sum_nil,List.countP_cons,List.countP_nil];cases p N
   ·simp
   ·simp[Int.mul_add]
theorem yo(f g:Nat->Int):∀N,((List.range N).map fun i=>f i+g i).sum=((List.range N).map f).sum+((List.range N).map g).sum
 |0=>by simp
 | N + 1 => by
   rw[List.range_succ,List.map_append,List.map_append,List.map_append,List.sum_append,List.sum_append,List.sum_append,yo f g N];simp only[List.map_cons,List.map_nil,List.sum_cons,List.sum_nil];omega
abbrev Use:=ar×aH
def io(p:af×Int):List Use:=(if p.2==0||p.2==2 then [(p.1.Work,p.1.WorkBlock)] else [])++(if p.2==1||(p.2==0&&p.1.Class==1) then [(p.1.Spare,p.1.SpareBlock)] else [])
def orA(f:Nat)(a:Int)(q:Use):Int:=if decide ((f:Int)∈q.1.Fibers) then bits .or .i64 a (dj q.2) else a
theorem zN(f:Nat):∀(ps:List (af×Int))(k:Nat)(a:Int),cM (amS f) k ps a=(ps.flatMap io).foldl (orA f) a
 |[],_,_=>rfl
 | p :: ps, k, a => by
   simp only[cM,List.flatMap_cons,List.foldl_append];rw[zN f ps];congr 1;unfold amS io orA;cases(p.2==0||p.2==2)<;>cases(p.2==1||(p.2==0&&p.1.Class==1))<;>simp
structure yC(n:ah)(aL:List Int)(q:Use):Prop where
 rt:uz n q.1
 bi:dw q.2
 b24:q.2.First+q.2.Count<=24
 av:∀x∈q.1.Fibers,x∉aL
theorem rR(f:Nat){n:ah}{aL:List Int}:∀(qs:List Use)(m:Nat),m<2^24->(∀q∈qs,yC n aL q)->∃m':Nat,qs.foldl (orA f) (m:Int)=(m':Int)/\m'<2^24/\∀i,m'.testBit i=(m.testBit i||qs.any fun q=>decide ((f:Int)∈q.1.Fibers)&&iP q.2 i)
 |[],m,hm,_=>⟨m,rfl,hm,fun i=>by simp⟩
 | q :: qs, m, hm, hq => by
   have hq0:=hq q List.mem_cons_self;have hqs:=fun x hx=>hq x (List.mem_cons_of_mem _ hx);by_cases c:(f:Int)∈q.1.Fibers
   ·obtain⟨x,x1,x2,x3⟩:=Ms hq0.bi hq0.b24;obtain⟨m',a1,a2,a3⟩:=rR f qs (m ||| x) (Nat.or_lt_two_pow hm x2) hqs;refine⟨m',?_,a2,fun i=>?_⟩
    ·simp only[List.foldl_cons,orA,decide_eq_true c,if_true];rw[x1,borS m x (by omega) (by omega)];exact a1
    ·rw[a3,Nat.testBit_or,x3,List.any_cons,decide_eq_true c,Bool.true_and,Bool.or_assoc]
   ·obtain⟨m',a1,a2,a3⟩:=rR f qs m hm hqs;refine⟨m',?_,a2,fun i=>?_⟩
    ·simp only[List.foldl_cons,orA,decide_eq_false c,Bool.false_eq_true,if_false];exact a1
    ·rw[a3,List.any_cons,decide_eq_false c,Bool.false_and,Bool.false_or]
def AH(a b:Use):Prop:=bW a.1 a.2 b.1 b.2=false
theorem ra{a b:List Int}{x:Int}(ha:x∈a)(hb:x∈b):cN a b=false:=by
 unfold cN;rw[Bool.not_eq_false',List.any_eq_true];exact⟨x,ha,decide_eq_true hb⟩
theorem zU(f:Nat){n:ah}{aL:List Int}:∀qs:List Use,qs.Pairwise AH->(∀q∈qs,yC n aL q)->(((List.range 24).countP fun i=>qs.any fun q=>decide ((f:Int)∈q.1.Fibers)&&iP q.2 i:Nat):Int)=(qs.map fun q=>if decide ((f:Int)∈q.1.Fibers) then q.2.Count else 0).sum
 |[],_,_=>by simp
 | q :: qs, hp, hq => by
   obtain⟨p1,p2⟩:=List.pairwise_cons.1 hp;have hq0:=hq q List.mem_cons_self;have hqs:=fun x hx=>hq x (List.mem_cons_of_mem _ hx);have ih:=zU f qs p2 hqs;rw[wx _ (fun i=>decide ((f:Int)∈q.1.Fibers)&&iP q.2 i) (fun i=>qs.any fun q=>decide ((f:Int)∈q.1.Fibers)&&iP q.2 i) 24 (fun i _=>by rw[List.any_cons]) (fun i _=>by
    rw[Bool.eq_false_iff];intro h;simp only[Bool.and_eq_true,List.any_eq_true,decide_eq_true_eq] at h;obtain⟨⟨h1,h2⟩,q',h3,h4,h5⟩:=h;have hc:=p1 q' h3;unfold AH bW at hc;rw[ra h1 h4] at hc;have hq':=hqs q' h3;have:=ET hq0.bi hq0.b24 hq'.bi hq'.b24 (by simpa using hc) i;rw[h2,h5] at this;cases this)]
   rw[Int.natCast_add,ih,List.map_cons,List.sum_cons];congr 1;by_cases c:(f:Int)∈q.1.Fibers
   ·simp only[decide_eq_true c,Bool.true_and,if_true];exact LW hq0.bi hq0.b24
   ·simp only[decide_eq_false c,Bool.false_and,Bool.false_eq_true,if_false];rw[oM _ 24 fun _ _=>rfl];rfl
def kM(qs:List Use):Int:=(qs.map fun q=>q.2.Count*(q.1.Fibers.length:Int)).sum
theorem yd{n:ah}{aL:List Int}:∀qs:List Use,(∀q∈qs,yC n aL q)->((List.range n.Fibers.length).map fun f:Nat=>(qs.map fun q=>if decide ((f:Int)∈q.1.Fibers) then q.2.Count else 0).sum).sum=kM qs
 | [], _ => by
   have:=xX 0 (fun _=>false) n.Fibers.length;simp only[List.map_nil,List.sum_nil,kM];simpa using this
 | q :: qs, hq => by
   have hq0:=hq q List.mem_cons_self;have ih:=yd qs fun x hx=>hq x (List.mem_cons_of_mem _ hx);have e:=yo (fun f:Nat=>if decide ((f:Int)∈q.1.Fibers) then q.2.Count else 0) (fun f:Nat=>(qs.map fun q=>if decide ((f:Int)∈q.1.Fibers) then q.2.Count else 0).sum) n.Fibers.length;simp only[List.map_cons,List.sum_cons] at e⊢;rw[e,ih,xX q.2.Count (fun f:Nat=>decide ((f:Int)∈q.1.Fibers)) n.Fibers.length,zx n.Fibers.length q.1.Fibers hq0.rt.nod fun y hy=>hq0.rt.fib y hy];unfold kM;rw[List.map_cons,List.sum_cons]
theorem zD(g:List Int->af->Int):∀(xs:List af)(i:Nat)(a:List Int),∃r,bB (fun(_:Nat) s(out:List Int)=>(.inl (out++[g out s]):List Int⊕List Int)) (fun o=>o) i xs a=a++r/\∀j x,xs[j]?=some x->r[j]?=some (g (a++r.take j) x)
 |[],i,a=>⟨[],by simp[bB],by simp⟩
 | x :: xs, i, a => by
   obtain⟨r,h1,h3⟩:=zD g xs (i+1) (a++[g a x]);refine⟨g a x::r,by simp only[bB];rw[h1];simp,fun j y hj=>?_⟩;cases j with
   |zero=>simp at hj;subst hj;simp
   |succ j=>simp at hj;have:=h3 j y hj;simpa using this
theorem si(aL:List Int)(list:List af){i:Nat}{x:af}(h:list[i]?=some x):(cv aL list)[i]?=some (stP aL list ((cv aL list).take i) x):=by
 obtain⟨r,h1,h2⟩:=zD (stP aL list) list 0 [];have e:cv aL list=r:=by unfold cv;rw[h1];rfl
 rw[e];simpa using h2 i x h
theorem rK{aL:List Int}{list:List af}{out:List Int}{s:af}(h:stP aL list out s=1):cN s.Work.Fibers aL=false/\s.Class≠0/\cN s.Spare.Fibers aL=true/\fU list out s=false:=by
 unfold stP at h;cases hw:cN s.Work.Fibers aL<;>cases hs:cN s.Spare.Fibers aL<;>cases hb:fU list out s<;>by_cases hc:s.Class=0<;>simp[hw,hs,hb,hc] at h⊢
theorem yA{aL:List Int}{list:List af}{out:List Int}{s:af}(h:stP aL list out s=0):cN s.Work.Fibers aL=true/\cN s.Spare.Fibers aL=true:=by
 unfold stP at h;cases hw:cN s.Work.Fibers aL<;>cases hs:cN s.Spare.Fibers aL<;>cases hb:fU list out s<;>by_cases hc:s.Class=0<;>simp[hw,hs,hb,hc] at h⊢
theorem TS{aL:List Int}{list:List af}{out:List Int}{s:af}(h:stP aL list out s=2):cN s.Work.Fibers aL=true:=by
 unfold stP at h;cases hw:cN s.Work.Fibers aL<;>cases hs:cN s.Spare.Fibers aL<;>cases hb:fU list out s<;>by_cases hc:s.Class=0<;>simp[hw,hs,hb,hc] at h⊢
theorem Hr{aL:List Int}{list:List af}{out:List Int}{s:af}(h:stP aL list out s=3)(hc:s.Class≠0):cN s.Work.Fibers aL=false/\(cN s.Spare.Fibers aL=false\/fU list out s=true):=by
 unfold stP at h;cases hw:cN s.Work.Fibers aL<;>cases hs:cN s.Spare.Fibers aL<;>cases hb:fU list out s<;>simp[hw,hs,hb,hc] at h⊢
theorem vV{a aL:List Int}(h:cN a aL=true):∀x∈a,x∉aL:=by
 intro x hx hg;rw[ra hx hg] at h;cases h
theorem rX{a aL:List Int}(h:cN a aL=false):∃x∈a,x∈aL:=by
 unfold cN at h;rw[Bool.not_eq_false',List.any_eq_true] at h;obtain⟨x,h1,h2⟩:=h;exact⟨x,h1,by simpa using h2⟩
theorem sS{n:ah}{s:af}(h:gO n s=true):fm s.WorkBlock=true/\(s.Class≠0->fm s.SpareBlock=true/\apP n s.Work.Fibers s.Spare.Fibers=true):=by
 unfold gO at h;simp only[Bool.and_eq_true] at h;refine⟨h.1.2,fun hc=>?_⟩;have h5:=h.2;rw[if_neg hc] at h5;simp only[Bool.and_eq_true] at h5;exact⟨h5.1.1.1.2,h5.2⟩
theorem Hh{b:aH}(h:fm b=true):b.First+b.Count<=24:=by
 unfold fm at h;simp only[Bool.and_eq_true,cG] at h;omega
theorem Gn{n:ah}{a b:List Int}(h:apP n a b=true){x y:Int}(hx:x∈a)(hy:y∈b):y∉jZ n x:=by
 unfold apP at h;rw[Bool.not_eq_true',List.any_eq_false] at h;have:=h x hx;rw[List.any_eq_true] at this;exact fun hm=>this ⟨y,hy,decide_eq_true hm⟩
theorem TK{n:ah}{a b:List Int}(h:apP n a b=true)(ha:∀x∈a,iV n x):cN a b=true:=by
 cases e:cN a b with
 |true=>rfl
 | false =>
   obtain⟨x,h1,h2⟩:=rX e;exact absurd ((lz (ha x h1)).2 (.inl rfl)) (Gn h h1 h2)
theorem uP{n:ah}{list:List af}(h:eH n list=true){j i:Nat}{y x:af}(hj:list[j]?=some y)(hi:list[i]?=some x)(hji:j<i):ff n y x=true:=by
 unfold eH at h;simp only[Bool.and_eq_true,decide_eq_true_eq,Bool.not_eq_true'] at h;have h3:=cD.1 h.2 i x hi;unfold fQ at h3;simp only[Bool.or_eq_false_iff] at h3;have h4:=List.any_eq_false.1 h3.2 y (List.mem_of_getElem? (i:=j) (by rw[List.getElem?_take,if_pos hji];exact hj));simpa using h4
theorem sn{p:af×Int}{q:Use}(h:q∈io p):(q=(p.1.Work,p.1.WorkBlock)/\(p.2=0\/p.2=2))\/(q=(p.1.Spare,p.1.SpareBlock)/\(p.2=1\/p.2=0/\p.1.Class=1)):=by
 unfold io at h;rcases List.mem_append.1 h with h|h
 ·split at h
  ·rename_i c;simp only[Bool.or_eq_true,beq_iff_eq] at c;exact .inl ⟨List.mem_singleton.1 h,c⟩
  ·cases h
 ·split at h
  ·rename_i c;simp only[Bool.or_eq_true,Bool.and_eq_true,beq_iff_eq] at c;exact .inr ⟨List.mem_singleton.1 h,c⟩
  ·cases h
theorem kX{aL:List Int}{list:List af}{i:Nat}{p:af×Int}(h:(list.zip (cv aL list))[i]?=some p):list[i]?=some p.1/\p.2=stP aL list ((cv aL list).take i) p.1/\(cv aL list)[i]?=some p.2:=by
 obtain⟨x,c⟩:=p;rw[List.getElem?_zip_eq_some] at h;obtain⟨h1,h2⟩:=h;have:=si aL list h1;rw[h2] at this;exact⟨h1,Option.some.inj this,h2⟩
theorem Gi{n:ah}{list:List af}{aL:List Int}(hs:jy n list):∀q∈(list.zip (cv aL list)).flatMap io,yC n aL q:=by
 intro q hq;obtain⟨p,hp,hq⟩:=List.mem_flatMap.1 hq;obtain⟨i,hi⟩:=List.getElem?_of_mem hp;obtain⟨h1,h2,_⟩:=kX hi;have hx:=hs.svc _ (List.mem_of_getElem? h1);obtain⟨b1,b2⟩:=sS (hs.ok _ (List.mem_of_getElem? h1));rcases sn hq with⟨rfl,h3⟩|⟨rfl,h3⟩
 ·refine⟨hx.wr,hx.wb,Hh b1,vV ?_⟩;rcases h3 with h3|h3
  ·exact(yA (h2.symm.trans h3)).1
  ·exact TS (h2.symm.trans h3)
 ·rcases h3 with h3|⟨h3,h4⟩
  ·obtain⟨_,c2,c3,_⟩:=rK (h2.symm.trans h3);exact⟨hx.sr,hx.sb,Hh (b2 c2).1,vV c3⟩
  ·exact⟨hx.sr,hx.sb,Hh (b2 (by omega)).1,vV (yA (h2.symm.trans h3)).2⟩
theorem Qm{list:List af}{st:List Int}{i j:Nat}{x y:af}(hy:list[j]?=some y)(hj:st[j]?=some 1)(hji:j<i)(h:fU list (st.take i) x=false):bW x.Spare x.SpareBlock y.Spare y.SpareBlock=false:=by
 unfold fU at h;have hm:(list.zip (st.take i))[j]?=some (y,1):=by
  rw[List.getElem?_zip_eq_some];exact⟨hy,by rw[List.getElem?_take,if_pos hji];exact hj⟩
 have:=List.any_eq_false.1 h _ (List.mem_of_getElem? hm);simpa using this
theorem Vw{n:ah}{list:List af}{aL:List Int}(h:eH n list=true):((list.zip (cv aL list)).flatMap io).Pairwise AH:=by
 have hs:=gH h;rw[List.pairwise_flatMap];constructor
 ·intro p hp;obtain⟨i,hi⟩:=List.getElem?_of_mem hp;obtain⟨h1,h2,_⟩:=kX hi;have hx:=hs.svc _ (List.mem_of_getElem? h1);obtain⟨_,b2⟩:=sS (hs.ok _ (List.mem_of_getElem? h1));have key:(p.2==1||(p.2==0&&p.1.Class==1))=true->AH (p.1.Work,p.1.WorkBlock) (p.1.Spare,p.1.SpareBlock):=fun c=>by
   simp only[Bool.or_eq_true,Bool.and_eq_true,beq_iff_eq] at c;have hc:p.1.Class≠0:=by
    rcases c with c|c
    ·exact(rK (h2.symm.trans c)).2.1
    ·omega
   unfold AH bW;rw[TK (b2 hc).2 hx.wr.fib];simp
  unfold io;by_cases c1:(p.2==0||p.2==2)=true
  ·by_cases c2:(p.2==1||(p.2==0&&p.1.Class==1))=true
   ·rw[if_pos c1,if_pos c2];simpa using key c2
   ·rw[if_pos c1,if_neg c2];simp
  ·rw[if_neg c1];by_cases c2:(p.2==1||(p.2==0&&p.1.Class==1))=true
   ·rw[if_pos c2];simp
   ·rw[if_neg c2];simp
 ·rw[List.pairwise_iff_getElem];intro j i hj hi hji a ha b hb;obtain⟨j1,j2,j3⟩:=kX (List.getElem?_eq_getElem hj);obtain⟨i1,i2,i3⟩:=kX (List.getElem?_eq_getElem hi);generalize (list.zip (cv aL list))[j]=p at ha j1 j2 j3;generalize (list.zip (cv aL list))[i]=q at hb i1 i2 i3;have hc:=uP h j1 i1 hji;unfold ff at hc;simp only[Bool.and_eq_true,Bool.not_eq_true',Bool.or_eq_false_iff,Bool.or_eq_true,beq_iff_eq] at hc;obtain⟨⟨⟨c1,c2⟩,c3⟩,c4⟩:=hc;unfold AH;rcases sn ha with⟨rfl,ha⟩|⟨rfl,ha⟩<;>rcases sn hb with⟨rfl,hb⟩|⟨rfl,hb⟩
  ·exact c1
  ·exact c2
  ·exact c3
  ·rcases c4 with⟨⟨d1,d2⟩,_⟩|c4
   ·have ha:p.2=1:=by omega
    have hb:q.2=1:=by omega
    rw[kJ];exact Qm j1 (by rw[j3,ha]) hji (rK (i2.symm.trans hb)).2.2.2
   ·exact c4
theorem Nc{n:ah}{list:List af}(h:eH n list=true)(g:Nat)(hg:g<(aX n).length):rj n list [(g:Int)]=none:=by
 have hs:=gH h;have hG:dl (aX n) [(g:Int)]=(aX n)[g]:=by
  unfold dl;simp[List.getElem?_eq_getElem hg]
 have hgm:(aX n)[g]∈aX n:=List.getElem_mem hg;unfold rj;rw[hG,eh];generalize hGe:(aX n)[g]=G at hgm;intro i x hx;unfold uV;rw[si G list hx,Option.getD_some];have same:∀u v,u∈G->v∈G->iV n u->iV n v->v∈jZ n u:=fun u v hu hv fu fv=>(lz fv).2 ((iw hgm hu fu fv).1 hv);by_cases c:x.Class=0
 ·simp[c]
 by_cases e:stP G list ((cv G list).take i) x=3
 ·exfalso;have hxi:=hs.svc x (List.mem_of_getElem? hx);obtain⟨_,b2⟩:=sS (hs.ok x (List.mem_of_getElem? hx));obtain⟨s1,s2⟩:=Hr e c;obtain⟨u,u1,u2⟩:=rX s1;rcases s2 with s2|s2
  ·obtain⟨v,v1,v2⟩:=rX s2;exact Gn (b2 c).2 u1 v1 (same u v u2 v2 (hxi.wr.fib u u1) (hxi.sr.fib v v1))
  ·unfold fU at s2;obtain⟨p,p1,p2⟩:=List.any_eq_true.1 s2;obtain⟨j,hj⟩:=List.getElem?_of_mem p1;obtain⟨y,c9⟩:=p;rw[List.getElem?_zip_eq_some] at hj;obtain⟨j1,j2⟩:=hj;simp only[Bool.and_eq_true,beq_iff_eq] at p2;obtain⟨rfl,p2⟩:=p2;have hji:j<i:=by
    rw[List.getElem?_take] at j2;split at j2
    ·assumption
    ·cases j2
   rw[List.getElem?_take,if_pos hji,si G list j1] at j2;obtain⟨w1,_⟩:=rK (Option.some.inj j2);obtain⟨w,w1,w2⟩:=rX w1;have hc:ff n y x=true:=uP h j1 hx hji;have p3:bW y.Spare y.SpareBlock x.Spare x.SpareBlock=true:=by rw[kJ];exact p2
   unfold ff at hc;rw[p3] at hc;simp only[Bool.and_eq_true,Bool.not_true,Bool.or_false] at hc;exact Gn hc.2.2 w1 u1 (same w u w2 u2 ((hs.svc y (List.mem_of_getElem? j1)).wr.fib w w1) (hxi.wr.fib u u1))
 ·simp[e]
theorem uj{β:Type}{f:Nat->Option β}:∀(c s:Nat),(∀g,s<=g->g<s+c->f g=none)->xC f c s=none
 |0,_,_=>rfl
 | c + 1, s, h => by
   simp only[xC,h s (Nat.le_refl _) (by omega)];exact uj c (s+1) fun g h1 h2=>h g (by omega) (by omega)
theorem TE{n:ah}{list:List af}(h:eH n list=true):flP n list 1=([],0,false,true):=by
 unfold flP;have e:srF n list (Int.toNat 1) [] 0=none:=by
  show srF n list 1 [] 0=none;unfold srF;refine uj _ _ fun g h1 h2=>?_;unfold srF;rw[List.nil_append,Nc h g (by omega)];rfl
 have hw:wi 1 1 3=true:=by decide
 rw[h,hw,e];rfl
theorem CH{code:List Int}(h1:∀x∈code,0<=x/\x<=255)(h2:code.length<=65536):∃(n:ah)(L:List af)(ids:List Int)(k:Nat),KG code=some (n,0,L.length,0,k,L,ids)/\Gb n L/\k<=ids.length/\ids.length<=20:=by
 have h0:bF (⟨code,0,0⟩:ax) 0:=⟨h1,h2,by simp,by simp⟩;obtain⟨n,L,c1,a1,a2,a3⟩:=oX h0 (by omega);obtain⟨k,ids,c3,d1,d2,d3,d4⟩:=Na a2.2.1 a3 (by omega);unfold KG NX;rw[a1,Option.bind_some];simp only[d1,Option.bind_some];exact⟨n,L,ids,k,rfl,a2,d2,d3⟩
theorem Wd{n:ah}{L:List af}{ids:List Int}{k:Nat}{gr:List (List Int)}(hk:k<=ids.length)(h20:ids.length<=20)(hf:∀g∈ids.take k,0<=g/\g<(gr.length:Int))(hgr:∀g∈gr,g.length<=14):
 bn (M_t (n,0,L.length,0,k,L,ids) (gr,true)) N0 (0,[])=some (dl gr (ids.take k)):=by
 have hkl:(ids.take k).length=k:=by rw[List.length_take];omega
 have:=cb (f:=M_t (n,0,L.length,0,k,L,ids) (gr,true)) (ids.take k) (fun i(a:List Int)=>((i:Int),a)) (fun _ g a=>.inl (a++(gr[g.toNat]?).getD [])) (fun a=>a) (fun i a=>a.length<=14*i) (fun i a g hx hI=>by
  have hlt:=(List.getElem?_eq_some_iff.1 hx).1;have h1:decide ((i:Int)<(k:Int))=true:=by simp;omega
  obtain⟨q1,q2⟩:=hf g (List.mem_of_getElem? hx);have hx2:ids[0+i]?=some g:=by
   rw[List.getElem?_take] at hx;split at hx
   ·rw[Nat.zero_add];exact hx
   ·cases hx
  have hg:gr[g.toNat]?=some (gr[g.toNat]'(by omega)):=List.getElem?_eq_getElem (by omega);have hgl:=hgr _ (List.mem_of_getElem? hg);refine .inl ⟨_,rfl,by rw[hg,List.length_append,Option.getD_some];omega,?_⟩;simp only[M_t,h1,cond_true,Int.toNat_natCast,hx2,Option.bind_some,bnd,hg,Option.getD_some];rw[aU (by omega)];simp only[Option.bind_some];rw[aU (by omega)];simp only[Option.bind_some];rw[aU (by omega),aE (by omega) (by omega)];rfl) (fun a _=>by simp[M_t,hkl]) [] (Nat.le_refl 0) (by omega)
 have e0:((0:Nat):Int)=0:=rfl;simp only[e0] at this;rw[this];have gen:∀(xs:List Int)(i:Nat)(a:List Int),bB (fun(_:Nat)(g:Int)(a:List Int)=>(.inl (a++(gr[g.toNat]?).getD []):List Int⊕List Int)) (fun a=>a) i xs a=a++dl gr xs:=by
  intro xs;induction xs with
  |nil=>intro i a;simp[bB,dl]
  |cons x xs ih=>intro i a;simp only[bB];rw[ih];simp[dl]
 rw[gen];rfl
theorem Sy{c:Int}{l:Nat}(h0:0<=c)(h1:c<=24)(h2:l<=12):0<=c*(l:Int)/\c*(l:Int)<=288:=by
 have a:=Int.mul_nonneg h0 (Int.natCast_nonneg l);have b:c*(l:Int)<=24*12:=Int.mul_le_mul h1 (by omega) (by omega) (by omega);omega
def d3(c:Int):Int:=if c==3 then 1 else 0
theorem VZ{n:ah}{L:List af}{ids st:List Int}{k:Nat}{b:Bool}(hs:jy n L)(hst:st.length=L.length):
 bn (M_u (n,0,L.length,0,k,L,ids) (st,b)) N0 (0,0,0)=some (cM (fun(_:Nat)(p:af×Int)(a:Int×Int)=>(a.1+kM (io p),a.2+d3 p.2)) 0 (L.zip st) (0,0)):=by
 have h8:=hs.len;have hzl:(L.zip st).length=L.length:=by rw[List.length_zip];omega
 have:=fO (f:=M_u (n,0,L.length,0,k,L,ids) (st,b)) (L.zip st) (fun i(a:Int×Int)=>(a.1,a.2,(i:Int))) (fun _(p:af×Int)(a:Int×Int)=>(a.1+kM (io p),a.2+d3 p.2)) (fun a=>a) (fun i a=>0<=a.1/\a.1<=600*i/\0<=a.2/\a.2<=i) (fun i a p hx hI=>by
  obtain⟨x,c⟩:=p;rw[List.getElem?_zip_eq_some] at hx;obtain⟨h1,h2⟩:=hx;have hlt:=(List.getElem?_eq_some_iff.1 h1).1;have hin:=hs.svc x (List.mem_of_getElem? h1);obtain⟨w1,w2⟩:=Sy hin.wb.2.1 hin.wb.2.2 hin.wr.len;obtain⟨s1,s2⟩:=Sy hin.sb.2.1 hin.sb.2.2 hin.sr.len;have e1:decide ((i:Int)<(L.length:Int))=true:=by simp;omega
  have h3:L[0+i]?=some x:=by rw[Nat.zero_add];exact h1
  have g1:grd (0<=(i:Int)/\(i:Int)<(L.length:Int))=some ():=aU (by omega);have g2:grd (0<=(i:Int)/\(i:Int)<(st.length:Int))=some ():=aU (by omega);have ew:IntKind.wrap .i64 (x.WorkBlock.Count*(x.Work.Fibers.length:Int))=x.WorkBlock.Count*(x.Work.Fibers.length:Int):=aE (by omega) (by omega);have es:IntKind.wrap .i64 (x.SpareBlock.Count*(x.Spare.Fibers.length:Int))=x.SpareBlock.Count*(x.Spare.Fibers.length:Int):=aE (by omega) (by omega);have ei:IntKind.wrap .i64 ((i:Int)+1)=((i+1:Nat):Int):=by rw[aE (by omega) (by omega)];rfl
  simp only[M_u,e1,cond_true,Int.toNat_natCast,h3,h2,g1,g2,Option.bind_some,ew,es,ei];have hT:kM (io (x,c))=(if c==0||c==2 then x.WorkBlock.Count*(x.Work.Fibers.length:Int) else 0)+(if c==1||(c==0&&x.Class==1) then x.SpareBlock.Count*(x.Spare.Fibers.length:Int) else 0):=by
   unfold kM io;cases(c==0||c==2)<;>cases(c==1||(c==0&&x.Class==1))<;>simp
  simp only[hT];generalize x.WorkBlock.Count*(x.Work.Fibers.length:Int)=W at w1 w2;generalize x.SpareBlock.Count*(x.Spare.Fibers.length:Int)=S at s1 s2;obtain⟨a1,a2⟩:=a;obtain⟨i1,i2,i3,i4⟩:=hI;simp only at i1 i2 i3 i4⊢;have u1:IntKind.wrap .i64 (a1+W)=a1+W:=aE (by omega) (by omega);have u2:IntKind.wrap .i64 (a1+S)=a1+S:=aE (by omega) (by omega);have u3:IntKind.wrap .i64 (a1+W+S)=a1+W+S:=aE (by omega) (by omega);have u4:IntKind.wrap .i64 (a2+1)=a2+1:=aE (by omega) (by omega);refine⟨?_,?_⟩
  ·unfold d3;refine⟨?_,?_,?_,?_⟩<;>(repeat' split)<;>omega
  ·unfold d3;cases c==3<;>cases c==0<;>cases c==2<;>cases c==1<;>cases x.Class==1<;>simp[u1,u2,u3,u4,Int.add_assoc]<;>(try rw[<-Int.add_assoc,u3,Int.add_assoc])
  ) (fun a _=>by simp[M_u,hzl]) (0,0) (by simp) (by omega)
 exact this
theorem tv:∀(ps:List (af×Int))(k:Nat)(a:Int×Int),cM (fun(_:Nat)(p:af×Int)(a:Int×Int)=>(a.1+kM (io p),a.2+d3 p.2)) k ps a=(a.1+kM (ps.flatMap io),a.2+(ps.map fun p=>d3 p.2).sum)
 |[],_,a=>by simp[cM,kM]
 | p :: ps, k, a => by
   have e:kM (io p++ps.flatMap io)=kM (io p)+kM (ps.flatMap io):=by unfold kM;rw[List.map_append,List.sum_append]
   simp only[cM];rw[tv ps,List.flatMap_cons,e,List.map_cons,List.sum_cons];simp only[Int.add_assoc]
theorem uJ:∀(ps:List (af×Int))(i:Nat)(a:List Int),((bB (fun(_:Nat)(p:af×Int)(a:List Int)=>(.inl (if p.2==3 then a++[p.1.Id] else a):List Int⊕List Int)) (fun a=>a) i ps a).length:Int)=a.length+(ps.map fun p=>d3 p.2).sum
 |[],i,a=>by simp[bB]
 | p :: ps, i, a => by
   simp only[bB];rw[uJ ps,List.map_cons,List.sum_cons];unfold d3;cases p.2==3
   ·simp
   ·simp;omega
def vbI(x:Int):Int:=(((List.range 24).countP fun i=>x.toNat.testBit i:Nat):Int)
theorem TG(x:Int):0<=vbI x/\vbI x<=24:=by
 unfold vbI;have:=List.countP_le_length (p:=fun i=>x.toNat.testBit i) (l:=List.range 24);rw[List.length_range] at this;omega
theorem Mt{n:ah}{L:List af}{aL:List Int}(h:eH n L=true)(f:Nat):∃m:Nat,amF aL (L.zip (cv aL L)) f=(m:Int)/\m<2^24/\vbI (m:Int)=(((L.zip (cv aL L)).flatMap io).map fun q=>if decide ((f:Int)∈q.1.Fibers) then q.2.Count else 0).sum:=by
 have hok:=Gi (aL:=aL) (gH h);have hpw:=Vw (aL:=aL) h;rw[<-zU f _ hpw hok];unfold amF;by_cases c:(f:Int)∈aL
 ·refine⟨0,by rw[if_pos (decide_eq_true c)];rfl,by omega,?_⟩;unfold vbI;congr 2;funext i;rw[Int.toNat_natCast,Nat.zero_testBit];symm;rw[List.any_eq_false];intro q hq hb;simp only[Bool.and_eq_true,decide_eq_true_eq] at hb;exact(hok q hq).av _ hb.1 c
 ·obtain⟨m,a1,a2,a3⟩:=rR f _ 0 (by omega) hok;refine⟨m,by rw[if_neg (by simpa using c),zN];exact a1,a2,?_⟩;unfold vbI;congr 2;funext i;rw[Int.toNat_natCast,a3,Nat.zero_testBit,Bool.false_or]
theorem Nj(l:List Int)(x:Int)(hl:l.length<=1048576):EF l x=some (decide (x∈l)):=by
 unfold EF;rw[gb (f:=Dq l x) l (fun y=>y==x) (.inr true) (.inl ()) (fun i y hy=>by
  have hlt:=(List.getElem?_eq_some_iff.1 hy).1;have h1:decide ((i:Int)<l.length)=true:=by simp[hlt]
  simp only[Dq,h1,cond_true,aQ,hy,Option.bind_some];rw[aE (by omega) (by omega)];cases y==x<;>rfl) (by simp[Dq]) (by omega),kS]
 cases l.any fun y=>y==x<;>rfl
theorem Gq(a:List Int)(hl:a.length<=1048576):FX a a=some true:=by
 unfold FX;rw[bne_self_eq_false,cond_false];rw[gb (f:=DT a a) a (fun _=>false) (.inr false) (.inl ()) (fun i x hx=>by
  have hlt:=(List.getElem?_eq_some_iff.1 hx).1;have h1:decide ((i:Int)<a.length)=true:=by simp[hlt]
  simp only[DT,h1,cond_true,aQ,hx,Option.bind_some,bne_self_eq_false,cond_false];rw[aE (by omega) (by omega)];rfl) (by simp[DT]) (by omega)]
 simp
theorem Ws{n:ah}{L:List af}{aL:List Int}(h:eH n L=true)(hg:aL.length<=1048576):
 bn (M_v ((List.range n.Fibers.length).map (amF aL (L.zip (cv aL L))),true) aL) N0 (0,0)=some (.inl (kM ((L.zip (cv aL L)).flatMap io))):=by
 have hF:=(cC (gH h).net).2.2;have hlen:((List.range n.Fibers.length).map (amF aL (L.zip (cv aL L)))).length=n.Fibers.length:=by simp
 generalize hMS:(List.range n.Fibers.length).map (amF aL (L.zip (cv aL L)))=MS at hlen;have hat:∀(i:Nat)(x:Int),MS[i]?=some x->x=amF aL (L.zip (cv aL L)) i:=fun i x hx=>by
  rw[<-hMS,List.getElem?_map,Option.map_eq_some_iff] at hx;obtain⟨f,h1,h2⟩:=hx;have:=(Vu h1).1;rw[<-h2,this]
 have:=fO (f:=M_v (MS,true) aL) MS (fun i(a:Int)=>(a,(i:Int))) (fun _ x a=>a+vbI x) (fun a=>(.inl a:Int⊕Bool)) (fun i a=>0<=a/\a<=24*i) (fun i a x hx hI=>by
  have hlt:=(List.getElem?_eq_some_iff.1 hx).1;have e1:decide ((i:Int)<(MS.length:Int))=true:=by simp;omega
  have g1:grd (0<=(i:Int)/\(i:Int)<(MS.length:Int))=some ():=aU (by omega);have hv:=TG x;have hx0:=hat i x hx;obtain⟨m,m1,m2,_⟩:=Mt (aL:=aL) h i;refine⟨by omega,?_⟩;have e2:Dr x=some (vbI x):=by
   rw[hx0,m1,Pm m (by omega)];unfold vbI;rw[Int.toNat_natCast]
  have e3:(cond (decide ((i:Int)∈aL)) (some (x !=0)) (some false):Option Bool)=some false:=by
   by_cases c:(i:Int)∈aL
   ·have:x=0:=by rw[hx0];unfold amF;rw[if_pos (decide_eq_true c)]
    rw[decide_eq_true c,this];rfl
   ·rw[decide_eq_false c];rfl
  simp only[M_v,e1,cond_true,g1,Int.toNat_natCast,hx,Option.bind_some,e2,Nj aL _ hg,e3,cond_false];rw[aE (by omega) (by omega),aE (by omega) (by omega)];rfl) (fun a _=>by simp[M_v]) 0 (by simp) (by omega)
 have e0:((0:Nat):Int)=0:=rfl;simp only[e0] at this;rw[this];have gen:∀(xs:List Int)(k:Nat)(a:Int),cM (fun(_:Nat)(x:Int)(a:Int)=>a+vbI x) k xs a=a+(xs.map vbI).sum:=by
  intro xs;induction xs with
  |nil=>intro k a;simp[cM]
  |cons x xs ih=>intro k a;simp only[cM];rw[ih];simp;omega
 rw[gen,Int.zero_add,<-yd _ (Gi (aL:=aL) (gH h)),<-hMS,List.map_map];congr 3;refine List.map_congr_left fun f _=>?_;obtain⟨m,m1,_,m3⟩:=Mt (aL:=aL) h f;rw[<-m3,Function.comp,m1]
theorem Od(n:ah)(hz:bC n<=1048576)(h:bK n=true):Ez n=some (aX n,true):=by
 unfold Ez;rw[gY n hz,h];simp only[Option.bind_some,Bool.not_true,cond_false,jx n (cC h).2.2]
theorem rU(code:List Int)(o1:code.length<=9223372036854775807/\∀x∈code,0<=x/\x<=255):Pj code=some true:=by
 unfold Pj Ng;by_cases hl:(65536:Int)<(code.length:Int)
 ·simp[hl]
 simp only[decide_eq_false hl,Option.bind_some,cond_false];obtain⟨n,L,ids,k,d1,d2,d4,d5⟩:=CH o1.2 (by omega);obtain⟨hz,_,hL,hS⟩:=d2;have hzl:bM L<=1048576:=zF (by omega) hS;have hG:(ids.take k).length=k:=by rw[List.length_take];omega
 have hzg:gj (ids.take k)<=1048576:=by unfold gj;omega
 have e6:dt ids 0 k=ids.take k:=md _ _ d4;simp only[d1,Option.bind_some,bnd,eG,e6,kA n L (ids.take k) hz hzl hzg,kF n L (ids.take k) hz hzl hzg];rw[Gq _ (by have:=pk n L (ids.take k) hz hzl hzg;unfold gj at this;exact this)];simp only[beq_self_eq_true,Bool.not_true,cond_false,Option.bind_some];cases hask:lZ n L (ids.take k) with
 | false =>
   have e:amP n L (ids.take k)=([],false):=by unfold amP;rw[hask];rfl
   rw[e];rfl
 | true =>
   obtain⟨hs,q2,q3⟩:=nT hask;have hok:=(Bool.and_eq_true_iff.1 hask).1;have hF:=(cC hs.net).2.2;have hgr:=eY hF;have hgl:=lB (fun g hg=>(hgr g hg).1) (ids.take k);have e:amP n L (ids.take k)=((List.range n.Fibers.length).map (amF (dl (aX n) (ids.take k)) (L.zip (cv (dl (aX n) (ids.take k)) L))),true):=by unfold amP;rw[hask];rfl
   have e2:saP n L (ids.take k)=(cv (dl (aX n) (ids.take k)) L,true):=by unfold saP;rw[hask];rfl
   have e3:lsP n L (ids.take k)=(zk L (cv (dl (aX n) (ids.take k)) L),true):=by unfold lsP;rw[hask];rfl
   rw[e];simp only[Bool.not_true,cond_false,lP n L 1 hz hzl,TE hok,kL n L (ids.take k) hz hzl (by omega),e2,jX n L (ids.take k) hz hzl hzg,e3,Option.bind_some,gV,bne_self_eq_false,Od n hz hs.net];rw[Wd d4 (by omega) q2 (fun g hg=>(hgr g hg).1),Option.bind_some,VZ hs (gV _ _),Option.bind_some,Ws hok (by omega),tv];have e4:=uJ (L.zip (cv (dl (aX n) (ids.take k)) L)) 0 [];simp only[Option.bind_some,Int.zero_add,beq_self_eq_true,cond_true];unfold zk;rw[e4];simp
end Vs



