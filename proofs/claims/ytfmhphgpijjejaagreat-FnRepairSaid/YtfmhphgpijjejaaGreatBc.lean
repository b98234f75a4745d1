/-
  Part of the proof that the law FnRepair returns true at every input; no condition beside the row's own.
-/
import Derived.Test.YtfmhphgpijjejaaGreatRe
import Derived.Test.YtfmhphgpijjejaaGreatBa
set_option linter.defProp false
set_option linter.unusedSimpArgs false
set_option linter.unusedVariables false
namespace Vs
open Go
def lI(xs:(List ByteArray)):Nat:=xs.length+(xs.map fun x=>x.size).sum
def ny(xs:(List az)):Nat:=xs.length
def bH(x:af):Nat:=lI x.Nodes+ny x.Fibers
def eX(xs:(List Int)):Nat:=xs.length
def zO(x:au):Nat:=eX x.Fibers
def gE(x:ah):Nat:=zO x.Work+zO x.Spare
def bQ(xs:(List ah)):Nat:=xs.length+(xs.map fun x=>gE x).sum
end Vs

namespace Vs
open Go
def wi(x a b:Int):Bool:=decide (a<=x)&&decide (x<=b)
theorem cG{x a b:Int}:wi x a b=true↔a<=x/\x<=b:=by simp[wi]
theorem pc{x a b:Int}:wi x a b=false↔¬(a<=x/\x<=b):=by rw[<-cG];simp
theorem eQ(x a b:Int):M_h x a b=some (wi x a b):=by
 unfold M_h wi;by_cases h:a<=x<;>simp[h]
theorem gu(x a b:Int):M_c x a b=some (wi x a b):=by
 unfold M_c wi;by_cases h:a<=x<;>simp[h]
def ql(c:UInt8):Bool:=decide (97<=c.toNat)&&decide (c.toNat<=122)
def tS(c:UInt8):Bool:=decide (48<=c.toNat)&&decide (c.toNat<=57)
def fF(i:Nat)(c:UInt8):Bool:=!ql c&&(!tS c||i==0)
def pg(s:ByteArray):Bool:=!dF fF s.data.toList&&wi s.size 1 8
theorem oC(s:ByteArray)(i:Nat):sB s (i:Int)=s.data.toList[i]?:=by
 unfold sB;rw[if_pos (by omega),Int.toNat_natCast];by_cases h:i<s.size
 ·have h2:i<s.data.toList.length:=by simpa using h
  rw[getElem?_pos s i h,List.getElem?_eq_getElem h2];rfl
 ·have h2:¬i<s.data.toList.length:=by simpa using h
  rw[getElem?_neg s i h,List.getElem?_eq_none (Nat.le_of_not_lt h2)]
theorem eY(s:ByteArray):s.size=s.data.toList.length:=by show s.data.size=s.data.toList.length;rw[Array.length_toList]
theorem xM(c:UInt8):ql c=(decide (97<=(c.toNat:Int))&&decide ((c.toNat:Int)<=122)):=by
 unfold ql;congr 1<;>exact decide_eq_decide.2 (by omega)
theorem Nd(c:UInt8):tS c=(decide (48<=(c.toNat:Int))&&decide ((c.toNat:Int)<=57)):=by
 unfold tS;congr 1<;>exact decide_eq_decide.2 (by omega)
theorem Kh(s:ByteArray)(hl:s.size<=1048576):Hc s=some (pg s):=by
 unfold Hc pg;rw[eY] at*
 rw[cW (f:=BR s) s.data.toList fF (.inr false) (.inl ()) (fun i c hc _=>by
  have hlt:=(List.getElem?_eq_some_iff.1 hc).1;have h1:decide ((i:Int)<s.size)=true:=decide_eq_true (by rw[eY];omega);simp only[BR,h1,cond_true,oC,hc,Option.bind_some,fF,xM,Nd];rw[aF (by omega) (by omega)];have hi:((i:Int)==0)=(i==0):=by rw[Bool.eq_iff_iff];simp
  rw[hi];cases decide (97<=(c.toNat:Int))<;>cases decide ((c.toNat:Int)<=122)<;>cases decide (48<=(c.toNat:Int))<;>cases decide ((c.toNat:Int)<=57)<;>cases(i==0)<;>rfl) (by simp[BR]) (by omega)]
 rw[<-eY];cases dF fF s.data.toList<;>simp[eQ]
theorem HB(c:UInt8):Jc (c.toNat:Int)=some (ql c||tS c):=by
 unfold Jc;simp only[xM,Nd];cases decide (97<=(c.toNat:Int))<;>cases decide ((c.toNat:Int)<=122)<;>cases decide (48<=(c.toNat:Int))<;>rfl
theorem fstc(c:UInt8):(cond (decide ((c.toNat:Int)<97)) (some true) (some (decide (122<(c.toNat:Int)))):Option Bool)=some (!ql c):=by
 rw[xM];by_cases h1:(c.toNat:Int)<97
 ·have h2:¬97<=(c.toNat:Int):=by omega
  simp[h1,h2]
 ·have h2:97<=(c.toNat:Int):=by omega
  simp only[h1,decide_false,cond_false,h2,decide_true,Bool.true_and];by_cases h3:122<(c.toNat:Int)
  ·have h4:¬(c.toNat:Int)<=122:=by omega
   simp[h3,h4]
  ·have h4:(c.toNat:Int)<=122:=by omega
   simp[h3,h4]
theorem Mm(s:ByteArray)(hl:s.size<=1048576):HJ s=some (pg s):=by
 unfold HJ pg;simp only[gu,Option.bind_some];rcases bt (wi s.size 1 8) with hw|hw
 ·simp only[hw,Bool.not_true,cond_false,Bool.and_true];have hs:0<s.data.toList.length:=by rw[<-eY];have:=(cG.1 hw).1;omega
  have h0:s.data.toList[0]?=some s.data.toList[0]:=List.getElem?_eq_getElem hs;have g0:sB s 0=some s.data.toList[0]:=by rw[<-h0];exact oC s 0
  simp only[g0,Option.bind_some];have key:=cW (f:=M_a s) s.data.toList (fun _ c=>!(ql c||tS c)) (.inr false) (.inl ()) (fun i c hc _=>by
   have hlt:=(List.getElem?_eq_some_iff.1 hc).1;have h1:decide ((i:Int)<s.size)=true:=decide_eq_true (by rw[eY];omega);rw[eY] at hl;simp only[M_a,h1,cond_true,oC,hc,Option.bind_some,HB];rw[aF (by omega) (by omega)];cases ql c<;>cases tS c<;>rfl) (by simp[M_a]) (by rw[eY] at hl;omega)
  rw[fstc];simp only[Option.bind_some,key];rcases bt (ql s.data.toList[0]) with hL|hL
  ·simp only[hL,Bool.not_true,cond_false];have e:dF (fun _ c=>!(ql c||tS c)) s.data.toList=dF fF s.data.toList:=by
    refine xG fun i c hc _=>?_;unfold fF;by_cases hi:i=0
    ·subst hi;rw[h0] at hc;cases hc;rw[hL];rfl
    ·have:(i==0)=false:=by simpa using hi
     rw[this];cases ql c<;>cases tS c<;>rfl
   rw[e];cases dF fF s.data.toList<;>rfl
  ·have:dF fF s.data.toList=true:=eR.2 ⟨0,_,h0,by unfold fF;rw[hL];simp⟩;simp only[hL,this,Bool.not_false,cond_true,Bool.not_true]
 ·simp[hw]
def SY(v:ByteArray)(xs:List ByteArray):Option (Nat×ByteArray):=dG (fun _ x=>x.toList==v.toList) xs
def NK(v:ByteArray)(xs:List ByteArray):Int:=match SY v xs with|some q=>(q.1:Int)|none=>-1
theorem LT(xs:List ByteArray)(v:ByteArray)(hl:xs.length<=1048576):GW xs v=some (NK v xs):=by
 unfold GW NK;rw[dC (f:=Dt xs v) xs (fun _ x=>x.toList==v.toList) (fun i _=>(i:Int)) () (fun i x hx _=>by
  have hlt:=(List.getElem?_eq_some_iff.1 hx).1;have h1:decide ((i:Int)<xs.length)=true:=by simp[hlt]
  simp only[Dt,h1,cond_true,aQ,hx,Option.bind_some];rw[aF (by omega) (by omega)];cases x.toList==v.toList<;>rfl) (by simp[Dt]) (by omega)]
 unfold SY;cases dG (fun _ x=>x.toList==v.toList) xs<;>rfl
theorem so(xs:List ByteArray)(v:ByteArray)(hl:xs.length<=1048576):Hj xs v=some (xs.any fun x=>x.toList==v.toList):=by
 unfold Hj Qk;rw[dC (f:=Ch xs v) xs (fun _ x=>x.toList==v.toList) (fun i _=>(i:Int)) () (fun i x hx _=>by
  have hlt:=(List.getElem?_eq_some_iff.1 hx).1;have h1:decide ((i:Int)<xs.length)=true:=by simp[hlt]
  simp only[Ch,h1,cond_true,aQ,hx,Option.bind_some];rw[aF (by omega) (by omega),show(v.toList==x.toList)=(x.toList==v.toList) from Bool.beq_comm ..];cases x.toList==v.toList<;>rfl) (by simp[Ch]) (by omega)]
 cases e:dG (fun _ x=>x.toList==v.toList) xs with
 | none =>
   have:=eu.1 e;have h:(xs.any fun x=>x.toList==v.toList)=false:=by
    rw[<-nv (fun x:ByteArray=>x.toList==v.toList),cB];exact this
   rw[h];rfl
 | some q =>
   obtain⟨i,x⟩:=q;obtain⟨h1,h2,_⟩:=dm.1 e;have h:(xs.any fun x=>x.toList==v.toList)=true:=List.any_eq_true.2 ⟨x,List.mem_of_getElem? h1,h2⟩;rw[h];simp
def dE(x y:Int):Int:=if x<y then -1 else if y<x then 1 else 0
theorem Wj(x y:Int):ud x y=some (dE x y):=by
 unfold ud uL dE;by_cases h:x<y
 ·simp[h]
 ·by_cases h2:y<x<;>simp[h,h2]
def xX(f g:az):Int:=if f.A≠g.A then dE f.A g.A else if f.B≠g.B then dE f.B g.B else if f.Length≠g.Length then dE f.Length g.Length else dE f.Risk g.Risk
theorem dP{x y:Int}:dE x y=0↔x=y:=by
 unfold dE;split
 ·simp;omega
 ·split
  ·simp;omega
  ·simp;omega
theorem mY(f g:az):Iq f g=some (xX f g):=by
 unfold Iq;simp only[Wj,Option.bind_some,bnd];unfold QE;have key:=dC (f:=Cn [dE f.A g.A,dE f.B g.B,dE f.Length g.Length,dE f.Risk g.Risk]) [dE f.A g.A,dE f.B g.B,dE f.Length g.Length,dE f.Risk g.Risk] (fun _ x=>x !=0) (fun _ x=>x) () (fun i x hx _=>by
  have hlt:=(List.getElem?_eq_some_iff.1 hx).1;have h1:decide ((i:Int)<([dE f.A g.A,dE f.B g.B,dE f.Length g.Length,dE f.Risk g.Risk].length:Nat))=true:=decide_eq_true (by omega);simp only[List.length_cons,List.length_nil] at hlt;simp only[Cn,h1,cond_true,aQ,hx,Option.bind_some];rw[aF (by omega) (by omega)];cases x !=0<;>rfl) (by simp[Cn]) (by simp)
 rw[key];unfold xX dG;simp only[List.zipIdx_cons,List.zipIdx_nil,List.find?_cons,List.find?_nil];by_cases h1:f.A=g.A
 ·rw[dP.2 h1];by_cases h2:f.B=g.B
  ·rw[dP.2 h2];by_cases h3:f.Length=g.Length
   ·rw[dP.2 h3];by_cases h4:f.Risk=g.Risk
    ·simp[h1,h2,h3,h4,dP.2]
    ·have:(dE f.Risk g.Risk !=0)=true:=bne_iff_ne.2 fun e=>h4 (dP.1 e);simp[h1,h2,h3,this]
   ·have:(dE f.Length g.Length !=0)=true:=bne_iff_ne.2 fun e=>h3 (dP.1 e);simp[h1,h2,h3,this]
  ·have:(dE f.B g.B !=0)=true:=bne_iff_ne.2 fun e=>h2 (dP.1 e);simp[h1,h2,this]
 ·have:(dE f.A g.A !=0)=true:=bne_iff_ne.2 fun e=>h1 (dP.1 e);simp[h1,this]
end Vs

namespace Vs
open Go
theorem zf{α:Type}(xs:List α)(i:Nat)(h:i<=xs.length):slT xs (i:Int)=some (xs.take i):=by
 unfold slT;rw[if_pos ⟨by omega,by simpa using h⟩];simp
theorem GT{n:af}(h:bH n<=1048576):n.Nodes.length<=1048576/\n.Fibers.length<=1048576/\∀x∈n.Nodes,x.size<=1048576:=by
 unfold bH lI ny at h;refine⟨by omega,by omega,fun x hx=>?_⟩;obtain⟨i,hi,rfl⟩:=List.getElem_of_mem hx;have:n.Nodes[i].size<=(n.Nodes.map fun x:ByteArray=>x.size).sum:=vS (fun x:ByteArray=>x.size) (xs:=n.Nodes) (i:=i) (x:=n.Nodes[i]) (by simp[hi]);omega
def im(n:af)(i:Nat)(x:ByteArray):Bool:=!pg x||(n.Nodes.take i).any fun y=>y.toList==x.toList
def wS(m:Nat)(f:az):Bool:=decide (f.A<0)||decide (f.B<=f.A)||decide ((m:Int)<=f.B)||!wi f.Length 1 5000||!wi f.Risk 0 9
def gw(n:af)(i:Nat)(f:az):Bool:=wS n.Nodes.length f||(decide (0<i)&&match n.Fibers[i-1]? with|some g=>decide (0<xX g f)|none=>false)
def bM(n:af):Bool:=!dF (im n) n.Nodes&&!dF (gw n) n.Fibers&&wi n.Nodes.length 2 8&&decide (n.Fibers.length<=14)
theorem lM(n:af)(hz:bH n<=1048576):KK n=some (bM n):=by
 obtain⟨h1,h2,h3⟩:=GT hz;unfold KK bM;rw[cW (f:=Dg n) n.Nodes (im n) (.inr false) (.inl ()) (fun i x hx _=>by
  have hlt:=(List.getElem?_eq_some_iff.1 hx).1;have e1:decide ((i:Int)<n.Nodes.length)=true:=by simp[hlt]
  simp only[Dg,e1,cond_true,aQ,hx,Option.bind_some,Kh x (h3 x (List.mem_of_getElem? hx)),zf n.Nodes i (Nat.le_of_lt hlt),so (n.Nodes.take i) x (by simp;omega),im];rw[aF (by omega) (by omega)];rcases bt (pg x) with e|e<;>rcases bt ((n.Nodes.take i).any (fun y=>y.toList==x.toList)) with e'|e'<;>simp only[e,e']<;>rfl) (by simp[Dg]) (by omega)]
 rcases bt (dF (im n) n.Nodes) with hN|hN
 ·simp[hN]
 ·simp only[hN,Bool.false_eq_true,if_false,Option.bind_some,Bool.not_false,Bool.true_and];rw[cW (f:=BP n) n.Fibers (gw n) (.inr false) (.inl ()) (fun i x hx _=>by
   have hlt:=(List.getElem?_eq_some_iff.1 hx).1;have e1:decide ((i:Int)<n.Fibers.length)=true:=by simp[hlt]
   simp only[BP,e1,cond_true,aQ,hx,Option.bind_some,eQ];rw[aF (n:=(i:Int)+1) (by omega) (by omega)];unfold gw wS;cases decide (x.A<0)
   ·cases decide (x.B<=x.A)
    ·cases decide ((n.Nodes.length:Int)<=x.B)
     ·cases wi x.Length 1 5000
      ·rfl
      ·cases wi x.Risk 0 9
       ·rfl
       ·by_cases hi:0<i
        ·have hi':decide ((0:Int)<(i:Int))=true:=by simp[hi]
         have hp:n.Fibers[i-1]?=some n.Fibers[i-1]:=List.getElem?_eq_getElem (by omega);have hw:IntKind.wrap .i64 ((i:Int)-1)=((i-1:Nat):Int):=by rw[aF (by omega) (by omega)];omega
         simp only[hi',cond_true,cond_false,Bool.not_true,hw,aQ,hp,Option.bind_some,mY,hi,decide_true,Bool.true_and,Bool.false_or];cases decide (0<xX n.Fibers[i-1] x)<;>rfl
        ·have hi':decide ((0:Int)<(i:Int))=false:=by simp;omega
         simp[hi',hi]
     ·rfl
    ·rfl
   ·rfl) (by simp[BP]) (by omega)]
  rcases bt (dF (gw n) n.Fibers) with hF|hF
  ·simp[hF]
  ·simp only[hF,Bool.false_eq_true,if_false,Option.bind_some,Bool.not_false,Bool.true_and,eQ];have e:decide ((n.Fibers.length:Int)<=14)=decide (n.Fibers.length<=14):=decide_eq_decide.2 (by omega);rw[e];cases wi n.Nodes.length 2 8<;>rfl
theorem Hg(n:af)(i:Nat)(x:ByteArray)(hx:n.Nodes[i]?=some x):
 (NK x n.Nodes !=(i:Int))=(n.Nodes.take i).any fun y=>y.toList==x.toList:=by
 unfold NK;cases e:SY x n.Nodes with
 | none =>
   have:=eu.1 e i x hx;simp at this
 | some q =>
   obtain⟨j,y⟩:=q;obtain⟨h1,h2,h3⟩:=dm.1 e;simp only;by_cases hj:j=i
   ·subst hj;have:((n.Nodes.take j).any fun y=>y.toList==x.toList)=false:=by
     rw[List.any_eq_false];intro z hz;obtain⟨k,hk,rfl⟩:=List.getElem_of_mem hz;simp only[List.length_take] at hk;have:=h3 k (n.Nodes.take j)[k] (by omega) (by rw[List.getElem_take];exact List.getElem?_eq_getElem (by omega));rw[this];simp
    rw[this];simp
   ·have hji:j<i:=by
     rcases Nat.lt_trichotomy j i with h|h|h
     ·exact h
     ·exact(hj h).elim
     ·have:=h3 i x h hx;simp at this
    have:((n.Nodes.take i).any fun y=>y.toList==x.toList)=true:=List.any_eq_true.2 ⟨y,by
     have:(n.Nodes.take i)[j]?=some y:=by rw[List.getElem?_take,if_pos hji];exact h1
     exact List.mem_of_getElem? this,h2⟩
    rw[this];simp;omega
theorem BX(f:az)(m:Nat)(hm:m<=8)(hm2:2<=m):Fh f (m:Int)=some (!wS m f):=by
 unfold Fh wS;simp only[gu,Option.bind_some];rw[aF (n:=(m:Int)-1) (by omega) (by omega)];rcases bt (wi f.A 0 ((m:Int)-1)) with h1|h1
 ·have h2:=cG.1 h1;rw[aF (n:=f.A+1) (by omega) (by omega)];rcases bt (wi f.B (f.A+1) ((m:Int)-1)) with h3|h3
  ·have h4:=cG.1 h3;have a1:decide (f.A<0)=false:=by simp;omega
   have a2:decide (f.B<=f.A)=false:=by simp;omega
   have a3:decide ((m:Int)<=f.B)=false:=by simp;omega
   simp only[h1,h3,a1,a2,a3,cond_true,Bool.false_or];cases wi f.Length 1 5000<;>cases wi f.Risk 0 9<;>rfl
  ·have h4:=pc.1 h3;simp only[h1,h3,cond_true,cond_false];by_cases a2:f.B<=f.A
   ·simp[a2]
   ·have a3:(m:Int)<=f.B:=by omega
    simp[a3]
 ·have h2:=pc.1 h1;simp only[h1,cond_false];by_cases a1:f.A<0
  ·simp[a1]
  ·by_cases a2:f.B<=f.A
   ·simp[a2]
   ·have a3:(m:Int)<=f.B:=by omega
    simp[a3]
structure sQ(m:Int)(f:az):Prop where
 a0:0<=f.A
 ab:f.A<f.B
 bm:f.B<m
 l1:1<=f.Length
 l2:f.Length<=5000
 r0:0<=f.Risk
 r9:f.Risk<=9
theorem nb{m:Nat}{f:az}(h:wS m f=false):sQ m f:=by
 unfold wS at h;simp only[Bool.or_eq_false_iff,decide_eq_false_iff_not,Bool.not_eq_false',cG] at h;obtain⟨⟨⟨⟨h1,h2⟩,h3⟩,h4,h5⟩,h6,h7⟩:=h;exact⟨by omega,by omega,by omega,h4,h5,h6,h7⟩
theorem HX(f g:az)(m:Nat)(hm:m<=8)(hf:sQ m f)(hg:sQ m g):∃r,tk f g=some r/\decide (0<r)=decide (0<xX f g):=by
 obtain⟨a1,a2,a3,a4,a5,a6,a7⟩:=hf;obtain⟨b1,b2,b3,b4,b5,b6,b7⟩:=hg;have sgn:∀x y:Int,decide (0<x-y)=decide (0<dE x y):=by
  intro x y;unfold dE;by_cases h:x<y
  ·rw[if_pos h];exact decide_eq_decide.2 (by omega)
  ·rw[if_neg h];by_cases h2:y<x
   ·rw[if_pos h2];exact decide_eq_decide.2 (by omega)
   ·rw[if_neg h2];exact decide_eq_decide.2 (by omega)
 unfold tk xX;rw[aF (n:=f.A-g.A) (by omega) (by omega),aF (n:=f.B-g.B) (by omega) (by omega),aF (n:=f.Length-g.Length) (by omega) (by omega),aF (n:=f.Risk-g.Risk) (by omega) (by omega)];by_cases h1:f.A=g.A
 ·have e1:(f.A !=g.A)=false:=by rw[h1];simp
  by_cases h2:f.B=g.B
  ·have e2:(f.B !=g.B)=false:=by rw[h2];simp
   by_cases h3:f.Length=g.Length
   ·have e3:(f.Length !=g.Length)=false:=by rw[h3];simp
    exact⟨f.Risk-g.Risk,by simp only[e1,e2,e3,cond_false],by simp only[h1,h2,h3,ne_eq,not_true,if_false];exact sgn _ _⟩
   ·have e3:(f.Length !=g.Length)=true:=bne_iff_ne.2 h3;exact⟨f.Length-g.Length,by simp only[e1,e2,e3,cond_false,cond_true],by simp only[h1,h2,h3,ne_eq,not_true,not_false_eq_true,if_false,if_true];exact sgn _ _⟩
  ·have e2:(f.B !=g.B)=true:=bne_iff_ne.2 h2;exact⟨f.B-g.B,by simp only[e1,e2,cond_false,cond_true],by simp only[h1,h2,ne_eq,not_true,not_false_eq_true,if_false,if_true];exact sgn _ _⟩
 ·have e1:(f.A !=g.A)=true:=bne_iff_ne.2 h1;exact⟨f.A-g.A,by simp only[e1,cond_true],by simp only[h1,ne_eq,not_false_eq_true,if_true];exact sgn _ _⟩
theorem nC(n:af)(hz:bH n<=1048576):xZ n=some (bM n):=by
 obtain⟨z1,z2,z3⟩:=GT hz;unfold xZ bM;simp only[gu,Option.bind_some];rcases bt (wi n.Nodes.length 2 8) with hw|hw
 ·have hw2:=cG.1 hw;have e:decide (14<(n.Fibers.length:Int))=!decide (n.Fibers.length<=14):=by
   rw[<-decide_not];exact decide_eq_decide.2 (by omega)
  simp only[hw,e,Bool.not_true,cond_false,Option.bind_some,Bool.and_true];rcases bt (decide (n.Fibers.length<=14)) with h14|h14
  ·simp only[h14,Bool.not_true,cond_false,Bool.and_true];rw[cW (f:=M_f n) n.Nodes (im n) (.inr false) (.inl ()) (fun i x hx _=>by
    have hlt:=(List.getElem?_eq_some_iff.1 hx).1;have e1:decide ((i:Int)<n.Nodes.length)=true:=by simp[hlt]
    simp only[M_f,e1,cond_true,aQ,hx,Option.bind_some,Mm x (z3 x (List.mem_of_getElem? hx)),LT n.Nodes x z1,Hg n i x hx,im];rw[aF (by omega) (by omega)];rcases bt (pg x) with e|e<;>rcases bt ((n.Nodes.take i).any (fun y=>y.toList==x.toList)) with e'|e'<;>simp only[e,e']<;>rfl) (by simp[M_f]) (by omega)]
   rcases bt (dF (im n) n.Nodes) with hN|hN
   ·simp[hN]
   ·simp only[hN,Bool.false_eq_true,if_false,Option.bind_some,Bool.not_false,Bool.true_and];rw[cW (f:=Av n) n.Fibers (gw n) (.inr false) (.inl ()) (fun i x hx hprev=>by
     have hlt:=(List.getElem?_eq_some_iff.1 hx).1;have e1:decide ((i:Int)<n.Fibers.length)=true:=by simp[hlt]
     simp only[Av,e1,cond_true,aQ,hx,Option.bind_some,BX x n.Nodes.length (by omega) (by omega),Bool.not_not];rw[aF (n:=(i:Int)+1) (by omega) (by omega)];unfold gw;rcases bt (wS n.Nodes.length x) with h1|h1
     ·simp[h1]
     ·simp only[h1,cond_false,Bool.false_or];by_cases hi:0<i
      ·have hi':decide ((0:Int)<(i:Int))=true:=by simp[hi]
       have hp:n.Fibers[i-1]?=some n.Fibers[i-1]:=List.getElem?_eq_getElem (by omega);have hw:IntKind.wrap .i64 ((i:Int)-1)=((i-1:Nat):Int):=by rw[aF (by omega) (by omega)];omega
       have hb:=hprev (i-1) n.Fibers[i-1] (by omega) hp;unfold gw at hb;simp only[Bool.or_eq_false_iff] at hb;obtain⟨r,r1,r2⟩:=HX n.Fibers[i-1] x n.Nodes.length (by omega) (nb hb.1) (nb h1);simp only[hi',cond_true,hw,aQ,hp,Option.bind_some,r1,r2,hi,decide_true,Bool.true_and];cases decide (0<xX n.Fibers[i-1] x)<;>rfl
      ·have hi':decide ((0:Int)<(i:Int))=false:=by simp;omega
       simp[hi',hi]) (by simp[Av]) (by omega)]
    cases dF (gw n) n.Fibers<;>rfl
  ·simp[h14]
 ·simp[hw]
end Vs

namespace Vs
open Go
theorem df{n:af}(h:bM n=true):2<=n.Nodes.length/\n.Nodes.length<=8/\n.Fibers.length<=14:=by
 unfold bM at h;simp only[Bool.and_eq_true,decide_eq_true_eq,cG] at h;omega
theorem qZ{n:af}(h:bM n=true){i:Nat}{f:az}(hf:n.Fibers[i]?=some f):sQ n.Nodes.length f:=by
 unfold bM at h;simp only[Bool.and_eq_true,Bool.not_eq_true'] at h;have:=cB.1 h.1.1.2 i f hf;unfold gw at this;simp only[Bool.or_eq_false_iff] at this;exact nb this.1
def cA(r:Int):Nat->List az->List Int
 |_,[]=>[]
 |i,f::fs=>if f.Risk=r then(i:Int)::cA r (i+1) fs else cA r (i+1) fs
theorem jA(r:Int)(i:Nat)(f:az)(fs:List az):cA r i (f::fs)=if f.Risk=r then(i:Int)::cA r (i+1) fs else cA r (i+1) fs:=rfl
theorem lk(r:Int):∀(fs:List az)(i:Nat),(cA r i fs).length<=fs.length
 |[],i=>by simp[cA]
 | f :: fs, i => by
   have:=lk r fs (i+1);rw[jA];split<;>simp<;>omega
theorem iR(r:Int):∀(fs:List az)(i:Nat)(x:Int),x∈cA r i fs↔∃j f,fs[j]?=some f/\f.Risk=r/\x=((i+j:Nat):Int)
 |[],i,x=>by simp[cA]
 | f :: fs, i, x => by
   have ih:=iR r fs (i+1) x;have step:(∃j g,(f::fs)[j]?=some g/\g.Risk=r/\x=((i+j:Nat):Int))↔(f.Risk=r/\x=(i:Int))\/∃j g,fs[j]?=some g/\g.Risk=r/\x=((i+1+j:Nat):Int):=by
    constructor
    ·rintro⟨j,g,h1,h2,h3⟩;cases j with
     |zero=>simp at h1;subst h1;exact .inl ⟨h2,h3⟩
     |succ j=>exact .inr ⟨j,g,by simpa using h1,h2,by rw[h3];congr 1;omega⟩
    ·rintro(⟨h1,h2⟩|⟨j,g,h1,h2,h3⟩)
     ·exact⟨0,f,rfl,h1,h2⟩
     ·exact⟨j+1,g,by simpa using h1,h2,by rw[h3];congr 1;omega⟩
   rw[step,<-ih];rw[jA];split
   ·rename_i h;simp[h]
   ·rename_i h;simp[h]
theorem qr(r:Int):∀(fs:List az)(i:Nat)(acc:List Int),bL (fun i(f:az)(a:List Int)=>(.inl (if f.Risk=r then a++[(i:Int)] else a):List Int⊕List Int)) (fun a=>a) i fs acc=acc++cA r i fs
 |[],i,acc=>by simp[bL,cA]
 | f :: fs, i, acc => by
   simp only[bL];rw[qr r fs (i+1)];rw[jA];split<;>simp
def fk:List Int:=[1,2,3,4,5,6,7,8,9]
def aO(n:af):List (List Int):=((fk.map fun r=>cA r 0 n.Fibers).filter fun l=>decide (0<l.length))++(cA 0 0 n.Fibers).map fun i=>[i]
theorem dA(n:af)(h:n.Fibers.length<=14):(aO n).length<=23:=by
 have:=lk 0 n.Fibers 0;have h2:=List.length_filter_le (fun l:List Int=>decide (0<l.length)) (fk.map fun r=>cA r 0 n.Fibers);have h3:(fk.map fun r=>cA r 0 n.Fibers).length=9:=rfl;unfold aO;simp only[List.length_append,List.length_map];omega
theorem ob{f:Int×List Int->Option ((Int×List Int)⊕List Int)}(fs:List az)(r:Int)(hl:fs.length<=1048576)
 (h1:∀(i:Nat) x(a:List Int),fs[i]?=some x->a.length<=i->f ((i:Int),a)=some (.inl (((i+1:Nat):Int),if x.Risk=r then a++[(i:Int)] else a)))
 (h2:∀a,f ((fs.length:Int),a)=some (.inr a)):bl f N0 (0,[])=some (cA r 0 fs):=by
 have:=cx (f:=f) fs (fun i(a:List Int)=>((i:Int),a)) (fun i x a=>.inl (if x.Risk=r then a++[(i:Int)] else a)) (fun a=>a) (fun i a=>a.length<=i) (fun i a x hx hI=>by
  refine .inl ⟨_,rfl,?_,h1 i x a hx hI⟩;split<;>first|omega|(simp only[List.length_append,List.length_cons,List.length_nil];omega)) (fun a _=>h2 a) [] (by simp) (by omega)
 rw[show bl f N0 (0,[])=_ from this,qr];rfl
theorem oJ{f:Int×List (List Int)->Option ((Int×List (List Int))⊕List (List Int))}(fs:List az)(G:List (List Int))(hl:fs.length<=1048576)(hG:G.length<=100)
 (h1:∀(i:Nat) x(a:List (List Int)),fs[i]?=some x->a.length<=100+i->f ((i:Int),a)=some (.inl (((i+1:Nat):Int),if x.Risk=0 then a++[[(i:Int)]] else a)))
 (h2:∀a,f ((fs.length:Int),a)=some (.inr a)):bl f N0 (0,G)=some (G++(cA 0 0 fs).map fun i=>[i]):=by
 have:=cx (f:=f) fs (fun i(a:List (List Int))=>((i:Int),a)) (fun i x a=>.inl (if x.Risk=0 then a++[[(i:Int)]] else a)) (fun a=>a) (fun i a=>a.length<=100+i) (fun i a x hx hI=>by
  refine .inl ⟨_,rfl,?_,h1 i x a hx hI⟩;split<;>first|omega|(simp only[List.length_append,List.length_cons,List.length_nil];omega)) (fun a _=>h2 a) G (by omega) (by omega)
 rw[show bl f N0 (0,G)=_ from this];have gen:∀(fs:List az)(i:Nat)(acc:List (List Int)),bL (fun i(f:az)(a:List (List Int))=>(.inl (if f.Risk=0 then a++[[(i:Int)]] else a):List (List Int)⊕List (List Int))) (fun a=>a) i fs acc=acc++(cA 0 i fs).map fun i=>[i]:=by
  intro fs;induction fs with
  |nil=>intro i acc;simp[bL,cA]
  | cons f fs ih =>
    intro i acc;simp only[bL];rw[ih (i+1)];rw[jA];split<;>simp
 rw[gen]
theorem lV{f:Int×List (List Int)->Option ((Int×List (List Int))⊕List (List Int))}(fs:List az)
 (h1:∀(r:Int)(a:List (List Int)),1<=r->r<=9->a.length<=10->f (r,a)=some (.inl (r+1,if 0<(cA r 0 fs).length then a++[cA r 0 fs] else a)))
 (h2:∀a,f (10,a)=some (.inr a)):bl f N0 (1,[])=some ((fk.map fun r=>cA r 0 fs).filter fun l=>decide (0<l.length)):=by
 have:=cx (f:=f) fk (fun i(a:List (List Int))=>((i:Int)+1,a)) (fun i r a=>.inl (if 0<(cA r 0 fs).length then a++[cA r 0 fs] else a)) (fun a=>a) (fun i a=>a.length<=i) (fun i a r hr hI=>by
  have hi:i<9:=by have:=(List.getElem?_eq_some_iff.1 hr).1;simpa[fk] using this
  have e:(i:Int)+1=r:=by
   rcases i with _|_|_|_|_|_|_|_|_|i<;>first|(simp[fk] at hr;omega)|omega
  refine .inl ⟨_,rfl,?_,?_⟩
  ·split<;>first|omega|(simp only[List.length_append,List.length_cons,List.length_nil];omega)
  ·rw[e,h1 r a (by omega) (by omega) (by omega)];have:((i+1:Nat):Int)+1=r+1:=by omega
   rw[this]) (fun a _=>by have:=h2 a;simpa[fk] using this) [] (by simp) (by simp[fk])
 rw[show bl f N0 (1,[])=_ from this];have gen:∀(rs:List Int)(i:Nat)(acc:List (List Int)),bL (fun(_:Nat)(r:Int)(a:List (List Int))=>(.inl (if 0<(cA r 0 fs).length then a++[cA r 0 fs] else a):List (List Int)⊕List (List Int))) (fun a=>a) i rs acc=
  acc++(rs.map fun r=>cA r 0 fs).filter fun l=>decide (0<l.length):=by
  intro rs;induction rs with
  |nil=>intro i acc;simp[bL]
  | cons r rs ih =>
    intro i acc;simp only[bL];rw[ih (i+1),List.map_cons,List.filter_cons];by_cases h:0<(cA r 0 fs).length
    ·simp[h]
    ·simp[h]
 rw[gen];rfl
theorem kJ(n:af)(h:n.Fibers.length<=14):uS n=some (aO n):=by
 unfold uS;rw[lV (f:=Da n) n.Fibers (fun r a hr1 hr9 ha=>by
  have e1:decide (r<=9)=true:=by simp[hr9]
  simp only[Da,e1,cond_true];rw[ob (f:=BG n (r,a)) n.Fibers r (by omega) (fun i x b hx hb=>by
   have hlt:=(List.getElem?_eq_some_iff.1 hx).1;have e1:decide ((i:Int)<n.Fibers.length)=true:=by simp[hlt]
   simp only[BG,e1,cond_true,aQ,hx,Option.bind_some,bnd];rw[aR (by omega),aF (by omega) (by omega)];by_cases e:x.Risk=r
   ·simp[e]
   ·simp[e,gN]) (fun a=>by simp[BG])]
  simp only[Option.bind_some,bnd];rw[aR (by omega),aF (by omega) (by omega)];by_cases e:0<(cA r 0 n.Fibers).length
  ·have e':decide ((0:Int)<((cA r 0 n.Fibers).length:Int))=true:=by simpa using e
   simp only[e',cond_true,if_pos e,Option.bind_some]
  ·have e':decide ((0:Int)<((cA r 0 n.Fibers).length:Int))=false:=by simpa using e
   simp only[e',cond_false,if_neg e]) (fun a=>by simp[Da])]
 simp only[Option.bind_some];have hl:=List.length_filter_le (fun l:List Int=>decide (0<l.length)) (fk.map fun r=>cA r 0 n.Fibers);have hl9:(fk.map fun r=>cA r 0 n.Fibers).length=9:=rfl;rw[oJ (f:=AL n) n.Fibers _ (by omega) (by omega) (fun i x a hx ha=>by
  have hlt:=(List.getElem?_eq_some_iff.1 hx).1;have e1:decide ((i:Int)<n.Fibers.length)=true:=by simp[hlt]
  simp only[AL,e1,cond_true,aQ,hx,Option.bind_some,bnd];rw[aR (by omega),aF (by omega) (by omega)];by_cases e:x.Risk=0
  ·simp[e]
  ·simp[e,gN]) (fun a=>by simp[AL])]
 rfl
theorem qA(n:af)(h:n.Fibers.length<=14)(i:Nat)(f:az)(hf:n.Fibers[i]?=some f)(hr:f.Risk≠0):pK n (i:Int)=some (cA f.Risk 0 n.Fibers):=by
 unfold pK;have e:(f.Risk==0)=false:=by simpa using hr
 simp only[aQ,hf,Option.bind_some,e,cond_false];rw[ob (f:=M_d n (i:Int)) n.Fibers f.Risk (by omega) (fun j x b hx hb=>by
  have hlt:=(List.getElem?_eq_some_iff.1 hx).1;have e1:decide ((j:Int)<n.Fibers.length)=true:=by simp[hlt]
  simp only[M_d,e1,cond_true,aQ,hx,hf,Option.bind_some,bnd];rw[aR (by omega),aF (by omega) (by omega)];by_cases e:x.Risk=f.Risk
  ·simp[e]
  ·simp[e,gN]) (fun a=>by simp[M_d])]
 rfl
theorem ln{r:Int}{fs:List az}:0<(cA r 0 fs).length↔∃(j:Nat)(f:az),fs[j]?=some f/\f.Risk=r:=by
 constructor
 ·intro h;obtain⟨x,hx⟩:=List.exists_mem_of_length_pos h;obtain⟨j,f,h1,h2,_⟩:=(iR r fs 0 x).1 hx;exact⟨j,f,h1,h2⟩
 ·rintro⟨j,f,h1,h2⟩;exact List.length_pos_of_mem ((iR r fs 0 _).2 ⟨j,f,h1,h2,rfl⟩)
theorem kf(n:af)(h:n.Fibers.length<=14):pS n=some (aO n):=by
 unfold pS;rw[lV (f:=M_e n) n.Fibers (fun r a hr1 hr9 ha=>by
  have e1:decide (r<=9)=true:=by simp[hr9]
  simp only[M_e,e1,cond_true];have key:bl (M_l n (r,a)) N0 0=some (if 0<(cA r 0 n.Fibers).length then a++[cA r 0 n.Fibers] else a):=by
   rw[cW (f:=M_l n (r,a)) n.Fibers (fun _ f=>decide (f.Risk=r)) (a++[cA r 0 n.Fibers]) a (fun i x hx _=>by
    have hlt:=(List.getElem?_eq_some_iff.1 hx).1;have e1:decide ((i:Int)<n.Fibers.length)=true:=by simp[hlt]
    simp only[M_l,e1,cond_true,aQ,hx,Option.bind_some,bnd];by_cases e:x.Risk=r
    ·have e0:x.Risk≠0:=by omega
     have e2:(x.Risk==r)=true:=by simp[e]
     rw[qA n h i x hx e0];simp only[e2,cond_true,Option.bind_some];rw[aR (by omega)];simp[e]
    ·have e2:(x.Risk==r)=false:=by simp[e]
     simp only[e2,cond_false];rw[aF (by omega) (by omega)];simp[e]) (by simp[M_l]) (by omega)]
   by_cases hp:0<(cA r 0 n.Fibers).length
   ·rw[if_pos hp];obtain⟨j,f,h1,h2⟩:=ln.1 hp;have:dF (fun _(f:az)=>decide (f.Risk=r)) n.Fibers=true:=eR.2 ⟨j,f,h1,by simp[h2]⟩;rw[this];rfl
   ·rw[if_neg hp];have:dF (fun _(f:az)=>decide (f.Risk=r)) n.Fibers=false:=cB.2 fun i x hx=>by
     simp only[decide_eq_false_iff_not];intro e;exact hp (ln.2 ⟨i,x,hx,e⟩)
    rw[this];rfl
  rw[key];simp only[Option.bind_some];rw[aF (by omega) (by omega)]) (fun a=>by simp[M_e])]
 simp only[Option.bind_some];have hl:=List.length_filter_le (fun l:List Int=>decide (0<l.length)) (fk.map fun r=>cA r 0 n.Fibers);have hl9:(fk.map fun r=>cA r 0 n.Fibers).length=9:=rfl;rw[oJ (f:=M_j n) n.Fibers _ (by omega) (by omega) (fun i x a hx ha=>by
  have hlt:=(List.getElem?_eq_some_iff.1 hx).1;have e1:decide ((i:Int)<n.Fibers.length)=true:=by simp[hlt]
  simp only[M_j,e1,cond_true,aQ,hx,Option.bind_some,bnd];rw[aR (by omega),aF (by omega) (by omega)];by_cases e:x.Risk=0
  ·simp[e]
  ·simp[e,gN]) (fun a=>by simp[M_j])]
 rfl
end Vs

namespace Vs
open Go
theorem uA{r:Int}{fs:List az}(h:fs.length<=14):∀x∈cA r 0 fs,0<=x/\x<14:=by
 intro x hx;obtain⟨j,f,hj,_,rfl⟩:=(iR r fs 0 x).1 hx;have:=(List.getElem?_eq_some_iff.1 hj).1;omega
theorem ik{n:af}(h:n.Fibers.length<=14):∀g∈aO n,g.length<=14/\∀x∈g,0<=x/\x<14:=by
 intro g hg;unfold aO at hg;rw[List.mem_append] at hg;rcases hg with hg|hg
 ·obtain⟨r,_,rfl⟩:=List.mem_map.1 (List.mem_filter.1 hg).1;exact⟨Nat.le_trans (lk ..) h,uA h⟩
 ·obtain⟨x,hx,rfl⟩:=List.mem_map.1 hg;exact⟨by simp,fun y hy=>by rw[List.mem_singleton.1 hy];exact uA h x hx⟩
theorem JS{n:af}(h:bM n=true):∀f∈n.Fibers,f.A<n.Nodes.length/\f.B<n.Nodes.length:=by
 intro f hf;obtain⟨i,hi⟩:=List.getElem?_of_mem hf;obtain⟨h1,h2,h3⟩:=qZ h hi;omega
def gb(n:af)(e:Int):Int:=match n.Fibers[e.toNat]? with|some f=>f.Risk|none=>0
def ld(n:af)(e:Int):List Int:=if gb n e=0 then [e] else cA (gb n e) 0 n.Fibers
def oo(n:af)(x y:Int):Prop:=x=y\/(gb n x≠0/\gb n x=gb n y)
def kp(n:af)(e:Int):Prop:=0<=e/\e<(n.Fibers.length:Int)
theorem rL{n:af}{e:Int}(h:kp n e):∃f,n.Fibers[e.toNat]?=some f/\gb n e=f.Risk:=by
 have hlt:e.toNat<n.Fibers.length:=by have:=h.1;have:=h.2;omega
 refine⟨_,List.getElem?_eq_getElem hlt,?_⟩;unfold gb;rw[List.getElem?_eq_getElem hlt]
theorem oZ{n:af}{r x:Int}:x∈cA r 0 n.Fibers↔kp n x/\gb n x=r:=by
 rw[iR];constructor
 ·rintro⟨j,f,h1,h2,rfl⟩;have:=(List.getElem?_eq_some_iff.1 h1).1;refine⟨⟨by omega,by omega⟩,?_⟩;unfold gb;rw[show((0+j:Nat):Int).toNat=j by omega,h1];exact h2
 ·rintro⟨h,hr⟩;obtain⟨f,h1,h2⟩:=rL h;exact⟨x.toNat,f,h1,by rw[<-h2];exact hr,by have:=h.1;omega⟩
theorem tK{n:af}{x y:Int}(hy:kp n y):y∈ld n x↔oo n x y:=by
 unfold ld oo;by_cases h:gb n x=0
 ·rw[if_pos h,List.mem_singleton];exact⟨fun e=>.inl e.symm,fun e=>e.elim Eq.symm fun q=>(q.1 h).elim⟩
 ·rw[if_neg h,oZ];constructor
  ·exact fun q=>.inr ⟨h,q.2.symm⟩
  ·rintro(rfl|q)
   ·exact⟨hy,rfl⟩
   ·exact⟨hy,q.2.symm⟩
theorem kE{n:af}{g:List Int}(hg:g∈aO n){x y:Int}(hx:x∈g)(hfx:kp n x)(hfy:kp n y):y∈g↔oo n x y:=by
 unfold aO at hg;rw[List.mem_append] at hg;rcases hg with hg|hg
 ·obtain⟨h1,_⟩:=List.mem_filter.1 hg;obtain⟨r,hr,rfl⟩:=List.mem_map.1 h1;have hr0:r≠0:=by unfold fk at hr;simp at hr;omega
  rw[oZ] at hx⊢;unfold oo;constructor
  ·exact fun q=>.inr ⟨by rw[hx.2];exact hr0,by rw[hx.2,q.2]⟩
  ·rintro(rfl|q)
   ·exact hx
   ·exact⟨hfy,by rw[<-q.2,hx.2]⟩
 ·obtain⟨z,hz,rfl⟩:=List.mem_map.1 hg;rw[List.mem_singleton] at hx⊢;subst hx;have h0:=(oZ.1 hz).2;unfold oo;exact⟨fun e=>.inl e.symm,fun e=>e.elim Eq.symm fun q=>(q.1 h0).elim⟩
theorem IC{n:af}(h:bM n=true){x:Int}(hx:kp n x):∃g∈aO n,x∈g:=by
 obtain⟨f,h1,h2⟩:=rL hx;have hf:=qZ h h1;obtain⟨_,_,_,_,_,_,_⟩:=hf;unfold aO;by_cases h0:gb n x=0
 ·exact⟨[x],List.mem_append_right _ (List.mem_map.2 ⟨x,oZ.2 ⟨hx,h0⟩,rfl⟩),by simp⟩
 ·have hm:x∈cA (gb n x) 0 n.Fibers:=oZ.2 ⟨hx,rfl⟩;refine⟨_,List.mem_append_left _ (List.mem_filter.2 ⟨List.mem_map.2 ⟨gb n x,?_,rfl⟩,by simpa using List.length_pos_of_mem hm⟩),hm⟩;unfold fk;rw[h2] at h0⊢;simp only[List.mem_cons,List.not_mem_nil,or_false];omega
def kS(n:af)(e:Int):Int:=match dG (fun _(g:List Int)=>decide (e∈g)) (aO n) with|some q=>(q.1:Int)|none=>-1
theorem uH{n:af}(h:bM n=true){x y:Int}(hx:kp n x)(hy:kp n y):kS n x=kS n y↔oo n x y:=by
 obtain⟨g,hg,hm⟩:=IC h hx;constructor
 ·intro e;unfold kS at e;cases hf:dG (fun _(g:List Int)=>decide (x∈g)) (aO n) with
  | none =>
    obtain⟨i,hi⟩:=List.getElem?_of_mem hg;have:=eu.1 hf i g hi;simp[hm] at this
  | some q =>
    obtain⟨i,gx⟩:=q;obtain⟨k1,k2,_⟩:=dm.1 hf;rw[hf] at e;cases hf2:dG (fun _(g:List Int)=>decide (y∈g)) (aO n) with
    |none=>rw[hf2] at e;simp only at e;omega
    | some q2 =>
      obtain⟨j,gy⟩:=q2;obtain⟨m1,m2,_⟩:=dm.1 hf2;rw[hf2] at e;have hij:i=j:=by simp only at e;omega
      subst hij;rw[k1] at m1;cases m1;exact(kE (List.mem_of_getElem? k1) (by simpa using k2) hx hy).1 (by simpa using m2)
 ·intro e;have e':oo n y x:=e.elim (fun q=>.inl q.symm) fun q=>.inr ⟨by rw[<-q.2];exact q.1,q.2.symm⟩;have key:∀g∈aO n,(x∈g↔y∈g):=fun g hg=>⟨fun q=>(kE hg q hx hy).2 e,fun q=>(kE hg q hy hx).2 e'⟩;have:dG (fun _(g:List Int)=>decide (y∈g)) (aO n)=dG (fun _(g:List Int)=>decide (x∈g)) (aO n):=by
   cases hf:dG (fun _(g:List Int)=>decide (x∈g)) (aO n) with
   | none =>
     rw[eu] at hf⊢;intro i z hz;have:=hf i z hz;simp only[decide_eq_false_iff_not] at this⊢;exact fun q=>this ((key z (List.mem_of_getElem? hz)).2 q)
   | some q =>
     obtain⟨i,gx⟩:=q;rw[dm] at hf⊢;obtain⟨k1,k2,k3⟩:=hf;simp only[decide_eq_true_eq,decide_eq_false_iff_not] at k2 k3⊢;exact⟨k1,(key gx (List.mem_of_getElem? k1)).1 k2,fun j z hj hz q=>k3 j z hj hz ((key z (List.mem_of_getElem? hz)).2 q)⟩
  unfold kS;rw[this]
def apP(n:af)(a b:List Int):Bool:=!a.any fun x=>b.any fun y=>decide (y∈ld n x)
theorem BS{n:af}(h:bM n=true){a b:List Int}(ha:∀x∈a,kp n x)(hb:∀x∈b,kp n x):(!(a.map (kS n)).any fun x=>decide (x∈b.map (kS n)))=apP n a b:=by
 unfold apP;congr 1;rw[Bool.eq_iff_iff];simp only[List.any_eq_true,List.mem_map,decide_eq_true_eq];constructor
 ·rintro⟨_,⟨x,hx,rfl⟩,y,hy,e⟩;exact⟨x,hx,y,hy,(tK (hb y hy)).2 ((uH h (ha x hx) (hb y hy)).1 e.symm)⟩
 ·rintro⟨x,hx,y,hy,e⟩;exact⟨_,⟨x,hx,rfl⟩,y,hy,((uH h (ha x hx) (hb y hy)).2 ((tK (hb y hy)).1 e)).symm⟩
end Vs

namespace Vs
open Go
def jn(f:az)(v:Int):Int:=if v=f.A then f.B else if v=f.B then f.A else -1
def db(n:af)(e v:Int):Int:=match n.Fibers[e.toNat]? with|some f=>jn f v|none=>-1
end Vs

namespace Vs
open Go
theorem lj(l:List Int)(x:Int)(hl:l.length<=1048576):nK l x=some (l.any fun y=>y==x):=by
 unfold nK;rw[fm (f:=CG l x) l (fun y=>y==x) (.inr true) (.inl ()) (fun i y hy=>by
  have hlt:=(List.getElem?_eq_some_iff.1 hy).1;have h1:decide ((i:Int)<l.length)=true:=by simp[hlt]
  simp only[CG,h1,cond_true,aQ,hy,Option.bind_some];rw[aF (by omega) (by omega)];cases y==x<;>rfl) (by simp[CG]) (by omega)]
 cases l.any fun y=>y==x<;>rfl
theorem ot{n:af}{e:Int}(h:wi e 0 ((n.Fibers.length:Int)-1)=true):∃f,bu n.Fibers e=some f/\n.Fibers[e.toNat]?=some f:=by
 rw[cG] at h;have hlt:e.toNat<n.Fibers.length:=by omega
 refine⟨n.Fibers[e.toNat],?_,List.getElem?_eq_getElem hlt⟩;have h3:=aQ n.Fibers e.toNat;rw[Int.toNat_of_nonneg h.1] at h3;rw[h3];exact List.getElem?_eq_getElem hlt
theorem jD(n:af)(e v:Int)(h:wi e 0 ((n.Fibers.length:Int)-1)=true):se n e v=some (db n e v):=by
 obtain⟨f,h1,h2⟩:=ot h;unfold se db jn;rw[h1,h2];simp only[Option.bind_some];by_cases a:v=f.A
 ·rw[show(v==f.A)=true from by simpa using a,cond_true,if_pos a]
 ·rw[show(v==f.A)=false from by simpa using a,cond_false,if_neg a];by_cases b:v=f.B
  ·rw[show(v==f.B)=true from by simpa using b,cond_true,if_pos b]
  ·rw[show(v==f.B)=false from by simpa using b,cond_false,if_neg b]
end Vs

namespace Vs
open Go
theorem su(xs:List Int)(v:Int)(hl:xs.length<=1048576):xg xs v=some (decide (v∈xs)):=by
 unfold xg Pi;rw[dC (f:=Ca xs v) xs (fun _ x=>v==x) (fun i _=>(i:Int)) () (fun i x hx _=>by
  have hlt:=(List.getElem?_eq_some_iff.1 hx).1;have h1:decide ((i:Int)<xs.length)=true:=by simp[hlt]
  simp only[Ca,h1,cond_true,aQ,hx,Option.bind_some];rw[aF (by omega) (by omega)];cases v==x<;>rfl) (by simp[Ca]) (by omega)]
 cases e:dG (fun _ x=>v==x) xs with
 | none =>
   have:=eu.1 e;have h:¬v∈xs:=fun hm=>by
    obtain⟨i,hi⟩:=List.getElem?_of_mem hm;have:=this i v hi;simp at this
   rw[decide_eq_false h];rfl
 | some q =>
   obtain⟨i,x⟩:=q;obtain⟨h1,h2,_⟩:=dm.1 e;have h:v∈xs:=by
    have:=eq_of_beq h2;rw[this];exact List.mem_of_getElem? h1
   rw[decide_eq_true h];simp
theorem vF(f:az)(v:Int):Fp f v=some (jn f v):=by
 unfold Fp jn;by_cases a:v=f.A
 ·rw[show(v==f.A)=true from by simpa using a,cond_true,if_pos a]
 ·rw[show(v==f.A)=false from by simpa using a,cond_false,if_neg a];by_cases b:v=f.B
  ·rw[show(v==f.B)=true from by simpa using b,cond_true,if_pos b]
  ·rw[show(v==f.B)=false from by simpa using b,cond_false,if_neg b]
theorem rX(l:List Int)(e:Int):decide (e∈l)=l.any fun x=>x==e:=by
 rw[Bool.eq_iff_iff,decide_eq_true_iff,List.any_eq_true];constructor
 ·intro h;exact⟨e,h,by simp⟩
 ·rintro⟨x,hx,he⟩;rw[<-eq_of_beq he];exact hx
end Vs

namespace Vs
open Go
theorem md{α A B C:Type}(s1:Nat->α->A->A⊕B)(s2:Nat->α->A->A⊕C)(f1:A->B)(f2:A->C)(R:B->C->Prop)(h:∀i x a,(∃a',s1 i x a=.inl a'/\s2 i x a=.inl a')\/∃b c,s1 i x a=.inr b/\s2 i x a=.inr c/\R b c)(hf:∀a,R (f1 a) (f2 a)):
 ∀(xs:List α)(i:Nat)(a:A),R (bL s1 f1 i xs a) (bL s2 f2 i xs a)
 |[],_,a=>hf a
 | x :: xs, i, a => by
   simp only[bL];rcases h i x a with⟨a',h1,h2⟩|⟨b,c,h1,h2,h3⟩
   ·rw[h1,h2];exact md s1 s2 f1 f2 R h hf xs (i+1) a'
   ·rw[h1,h2];exact h3
def qo(n:af)(e:Int)(a:Int×List Int):Bool:=!wi e 0 ((n.Fibers.length:Int)-1)||decide (db n e a.1<0)||decide (db n e a.1∈a.2)
def nU(n:af)(_:Nat)(e:Int)(a:Int×List Int):(Int×List Int)⊕Option (List Int):=if qo n e a then .inr none else .inl (db n e a.1,a.2++[db n e a.1])
def gO(n:af)(r:au):Option (List Int):=if !wi r.Start 0 ((n.Nodes.length:Int)-1)||decide (r.Fibers.length=0) then none else bL (nU n) (fun a=>some a.2) 0 r.Fibers (r.Start,[r.Start])
def Kt(n:af)(_:Nat)(e:Int)(a:Int×List Int):(Int×List Int)⊕((List Int)⊕(List Int×Bool)):=if qo n e a then .inr (.inr ([],false)) else .inl (db n e a.1,a.2++[db n e a.1])
def Jw(n:af)(_:Nat)(e:Int)(a:Int×List Int):(Int×List Int)⊕((List Int)⊕(List Int×Bool)):=if qo n e a then .inr (.inr (a.2,false)) else .inl (db n e a.1,a.2++[db n e a.1])
theorem Vn(l:List Int):((l.length:Int)==0)=decide (l.length=0):=by
 rw[Bool.eq_iff_iff];simp
theorem qO(n:af)(r:au)(hN:n.Nodes.length<=1048576)(hF:n.Fibers.length<=1048576)(hr:r.Fibers.length<=1048576):BJ n r=some (match gO n r with|some l=>(l,true)|none=>([],false)):=by
 unfold BJ gO;simp only[eQ,Option.bind_some,Vn];rw[aF (n:=(n.Nodes.length:Int)-1) (by omega) (by omega)];have hc:(cond (!wi r.Start 0 ((n.Nodes.length:Int)-1)) (some true) (some (decide (r.Fibers.length=0))):Option Bool)=some (!wi r.Start 0 ((n.Nodes.length:Int)-1)||decide (r.Fibers.length=0)):=by
  cases wi r.Start 0 ((n.Nodes.length:Int)-1)<;>rfl
 rw[hc];simp only[Option.bind_some];rcases bt (!wi r.Start 0 ((n.Nodes.length:Int)-1)||decide (r.Fibers.length=0)) with e|e
 ·rw[e];rfl
 rw[e];simp only[cond_false,bnd,Bool.false_eq_true,if_false];have key:=cx (f:=Cr n r) r.Fibers (fun i(a:Int×List Int)=>(a.1,(i:Int),a.2)) (Kt n) (fun a=>.inl a.2) (fun i a=>a.2.length=i+1) (fun i a x hx hI=>by
  have hlt:=(List.getElem?_eq_some_iff.1 hx).1;have h1:decide ((i:Int)<r.Fibers.length)=true:=by simp[hlt]
  simp only[Cr,h1,cond_true,aQ,hx,Option.bind_some,eQ];rw[aF (n:=(n.Fibers.length:Int)-1) (by omega) (by omega),aF (n:=(i:Int)+1) (by omega) (by omega)];unfold Kt qo;rcases bt (wi x 0 ((n.Fibers.length:Int)-1)) with e1|e1
  ·obtain⟨f,f1,f2⟩:=ot e1;have ho:db n x a.1=jn f a.1:=by unfold db;rw[f2]
   simp only[e1,Bool.not_true,cond_false,f1,Option.bind_some,vF,<-ho,su a.2 (db n x a.1) (by omega),Bool.false_or];by_cases h3:db n x a.1<0
   ·exact .inr ⟨_,by simp[h3];rfl,by simp[h3]⟩
   ·by_cases h4:db n x a.1∈a.2
    ·exact .inr ⟨_,by simp[h4];rfl,by simp[h3,h4]⟩
    ·refine .inl ⟨(db n x a.1,a.2++[db n x a.1]),by simp[h3,h4],by simp[hI],?_⟩;simp only[decide_eq_false h3,decide_eq_false h4,cond_false,Option.bind_some,bnd];rw[aR (by omega)];rfl
  ·exact .inr ⟨_,by simp[e1];rfl,by simp[e1]⟩) (fun a _=>by simp[Cr]) (r.Start,[r.Start]) rfl (by omega)
 have e0:((0:Nat):Int)=0:=rfl;simp only[e0] at key;rw[key];have:=md (nU n) (Kt n) (fun a=>some a.2) (fun a=>(.inl a.2:(List Int)⊕(List Int×Bool))) (fun b c=>match b with|some l=>c=.inl l|none=>c=.inr ([],false)) (fun i x a=>by
  unfold nU Kt;cases qo n x a
  ·exact .inl ⟨_,rfl,rfl⟩
  ·exact .inr ⟨_,_,rfl,rfl,rfl⟩) (fun a=>rfl) r.Fibers 0 (r.Start,[r.Start])
 revert this
 generalize bL (Kt n) (fun a=>(.inl a.2:(List Int)⊕(List Int×Bool))) 0 r.Fibers (r.Start,[r.Start])=c;cases bL (nU n) (fun a=>some a.2) 0 r.Fibers (r.Start,[r.Start]) with
 |none=>intro h;rw[h];rfl
 |some l=>intro h;rw[h];rfl
theorem tW(n:af)(r:au)(hN:n.Nodes.length<=1048576)(hF:n.Fibers.length<=1048576)(hr:r.Fibers.length<=1048576):∃o,BK n r=some (o,(gO n r).isSome)/\∀l,gO n r=some l->o=l:=by
 unfold BK gO;simp only[gu,Option.bind_some,Vn,bnd];rw[aF (n:=(n.Nodes.length:Int)-1) (by omega) (by omega)];have hc:(cond (!wi r.Start 0 ((n.Nodes.length:Int)-1)) (some true) (some (decide (r.Fibers.length=0))):Option Bool)=some (!wi r.Start 0 ((n.Nodes.length:Int)-1)||decide (r.Fibers.length=0)):=by
  cases wi r.Start 0 ((n.Nodes.length:Int)-1)<;>rfl
 rw[hc];simp only[Option.bind_some];rcases bt (!wi r.Start 0 ((n.Nodes.length:Int)-1)||decide (r.Fibers.length=0)) with e|e
 ·rw[e];exact⟨[r.Start],rfl,fun l h=>by simp at h⟩
 rw[e];simp only[cond_false,Bool.false_eq_true,if_false];have key:=cx (f:=M_g n r) r.Fibers (fun i(a:Int×List Int)=>((i:Int),a.2)) (Jw n) (fun a=>.inl a.2) (fun i a=>a.2.length=i+1/\a.2[i]?=some a.1) (fun i a x hx hI=>by
  have hlt:=(List.getElem?_eq_some_iff.1 hx).1;have h1:decide ((i:Int)<r.Fibers.length)=true:=by simp[hlt]
  simp only[M_g,h1,cond_true,aQ,hx,Option.bind_some,gu];have hl1:IntKind.wrap .i64 ((a.2.length:Int)-1)=(i:Int):=by rw[aF (by omega) (by omega)];omega
  rw[aF (n:=(n.Fibers.length:Int)-1) (by omega) (by omega),aF (n:=(i:Int)+1) (by omega) (by omega),hl1];unfold Jw qo;rcases bt (wi x 0 ((n.Fibers.length:Int)-1)) with e1|e1
  ·simp only[e1,Bool.not_true,cond_false,Option.bind_some,Bool.false_or,Int.toNat_natCast,hI.2];rw[aR (by omega)];simp only[Option.bind_some,jD n x a.1 e1,lj a.2 (db n x a.1) (by omega)];have hm:(a.2.any fun y=>y==db n x a.1)=decide (db n x a.1∈a.2):=by
    rw[Bool.eq_iff_iff];simp
   rw[hm];by_cases h3:db n x a.1<0
   ·exact .inr ⟨_,by simp[h3];rfl,by simp[h3]⟩
   ·by_cases h4:db n x a.1∈a.2
    ·exact .inr ⟨_,by simp[h4];rfl,by simp[h3,h4]⟩
    ·refine .inl ⟨(db n x a.1,a.2++[db n x a.1]),by simp[h3,h4],⟨by simp[hI.1],by rw[<-hI.1];simp⟩,?_⟩;simp only[decide_eq_false h3,decide_eq_false h4,cond_false,Option.bind_some];rw[aR (by omega)];rfl
  ·exact .inr ⟨_,by simp[e1];rfl,by simp[e1]⟩) (fun a _=>by simp[M_g]) (r.Start,[r.Start]) ⟨rfl,rfl⟩ (by omega)
 have e0:((0:Nat):Int)=0:=rfl;simp only[e0] at key;rw[key];have:=md (nU n) (Jw n) (fun a=>some a.2) (fun a=>(.inl a.2:(List Int)⊕(List Int×Bool))) (fun b c=>match b with|some l=>c=.inl l|none=>∃o,c=.inr (o,false)) (fun i x a=>by
  unfold nU Jw;cases qo n x a
  ·exact .inl ⟨_,rfl,rfl⟩
  ·exact .inr ⟨_,_,rfl,rfl,_,rfl⟩) (fun a=>rfl) r.Fibers 0 (r.Start,[r.Start])
 revert this
 generalize bL (Jw n) (fun a=>(.inl a.2:(List Int)⊕(List Int×Bool))) 0 r.Fibers (r.Start,[r.Start])=c;cases bL (nU n) (fun a=>some a.2) 0 r.Fibers (r.Start,[r.Start]) with
 |none=>rintro⟨o,h⟩;rw[h];exact⟨o,rfl,fun l h=>by cases h⟩
 |some l=>intro h;rw[h];exact⟨l,rfl,fun l' h=>by cases h;rfl⟩
def Iz(n:af)(r:au):Bool:=bM n&&(gO n r).isSome
theorem Fc(n:af)(r:au)(hz:bH n<=1048576)(hr:r.Fibers.length<=1048576):wD n r=some (Iz n r):=by
 obtain⟨h1,h2,_⟩:=GT hz;unfold wD Iz;rw[nC n hz];simp only[Option.bind_some];rcases bt (bM n) with e|e
 ·obtain⟨o,o1,_⟩:=tW n r (by omega) (by omega) hr;rw[e];simp only[Bool.not_true,cond_false,o1,Option.bind_some,Bool.true_and]
 ·rw[e];rfl
theorem rd{n:af}(hE:∀f∈n.Fibers,f.A<n.Nodes.length/\f.B<n.Nodes.length):∀(xs:List Int)(i:Nat)(a:Int×List Int)(l:List Int),bL (nU n) (fun a=>some a.2) i xs a=some l->a.2.Nodup->(∀v∈a.2,0<=v/\v<(n.Nodes.length:Int))->a.1∈a.2->
 l.Nodup/\(∀v∈l,0<=v/\v<(n.Nodes.length:Int))/\l.length=a.2.length+xs.length/\(∀e∈xs,0<=e/\e<(n.Fibers.length:Int))/\xs.Nodup/\∀e∈xs,∀f,n.Fibers[e.toNat]?=some f->¬(f.A∈a.2/\f.B∈a.2)
 |[],_,a,l,h,hd,hv,_=>by simp only[bL,Option.some.injEq] at h;subst h;exact⟨hd,hv,by simp,by simp,by simp,by simp⟩
 | x :: xs, i, a, l, h, hd, hv, ha => by
   simp only[bL,nU] at h;rcases bt (qo n x a) with e|e
   ·rw[e] at h;cases h
   ·rw[e] at h;simp only[Bool.false_eq_true,if_false] at h;simp only[qo,Bool.or_eq_false_iff,Bool.not_eq_false',decide_eq_false_iff_not,cG] at e;obtain⟨⟨e1,e2⟩,e3⟩:=e;have hi:x.toNat<n.Fibers.length:=by omega
    have hf:=hE _ (List.getElem_mem hi);have hg:=List.getElem?_eq_getElem hi;generalize n.Fibers[x.toNat]=f at hf hg;have ho:db n x a.1=jn f a.1:=by unfold db;rw[hg]
    have hend:(f.A=a.1/\f.B=db n x a.1)\/(f.B=a.1/\f.A=db n x a.1):=by
     rw[ho] at e2⊢;unfold jn at e2⊢;split
     ·rename_i h1;exact .inl ⟨h1.symm,rfl⟩
     ·split
      ·rename_i h1;exact .inr ⟨h1.symm,rfl⟩
      ·rename_i h1 h2;simp[h1,h2] at e2
    have hlt:db n x a.1<n.Nodes.length:=by omega
    obtain⟨g1,g2,g3,g4,g5,g6⟩:=rd hE xs (i+1) _ l h (by
     rw[List.nodup_append];exact⟨hd,by simp,fun u hu v hv=>by simp at hv;subst hv;intro e;subst e;exact e3 hu⟩) (fun v hv2=>by
     simp only[List.mem_append,List.mem_singleton] at hv2;rcases hv2 with h|h
     ·exact hv v h
     ·subst h;exact⟨by omega,hlt⟩) (by simp)
    refine⟨g1,g2,by rw[g3];simp;omega,fun e he=>?_,List.nodup_cons.2 ⟨fun hm=>?_,g5⟩,fun e he f' hf'=>?_⟩
    ·rcases List.mem_cons.1 he with rfl|he
     ·omega
     ·exact g4 e he
    ·refine g6 x hm f hg ?_;simp only[List.mem_append,List.mem_singleton];rcases hend with⟨h1,h2⟩|⟨h1,h2⟩
     ·exact⟨.inl (h1▸ha),.inr h2⟩
     ·exact⟨.inr h2,.inl (h1▸ha)⟩
    ·rcases List.mem_cons.1 he with rfl|he
     ·rw[hg] at hf';cases hf';rcases hend with⟨h1,h2⟩|⟨h1,h2⟩
      ·exact fun h=>e3 (h2▸h.2)
      ·exact fun h=>e3 (h2▸h.1)
     ·exact fun h=>g6 e he f' hf' ⟨List.mem_append_left _ h.1,List.mem_append_left _ h.2⟩
theorem CL{n:af}{r:au}(hE:∀f∈n.Fibers,f.A<n.Nodes.length/\f.B<n.Nodes.length){l:List Int}(h:gO n r=some l):l.Nodup/\(∀v∈l,0<=v/\v<(n.Nodes.length:Int))/\l.length=r.Fibers.length+1/\(∀e∈r.Fibers,0<=e/\e<(n.Fibers.length:Int))/\r.Fibers.Nodup:=by
 unfold gO at h;split at h
 ·cases h
 ·rename_i hc;simp only[Bool.or_eq_true,Bool.not_eq_true',decide_eq_true_eq,not_or,Bool.not_eq_false,cG] at hc;obtain⟨g1,g2,g3,g4,g5,_⟩:=rd hE _ _ _ _ h (by simp) (fun v hv=>by simp at hv;subst hv;omega) (by simp);exact⟨g1,g2,by rw[g3];simp;omega,g4,g5⟩
theorem jg:∀(m:Nat)(l:List Int),l.Nodup->(∀x∈l,0<=x/\x<(m:Int))->l.length<=m
 | 0, l, _, h => by
   cases l with
   |nil=>simp
   |cons x l=>have:=h x (by simp);omega
 | m + 1, l, hn, h => by
   by_cases hm:(m:Int)∈l
   ·have:=jg m (l.erase (m:Int)) (hn.erase _) (fun x hx=>by
     have h1:=(hn.mem_erase_iff).1 hx;have:=h x h1.2;have h3:=h1.1;omega)
    rw[List.length_erase_of_mem hm] at this;omega
   ·have:=jg m l hn (fun x hx=>by
     have:=h x hx;have:x≠(m:Int):=fun e=>hm (e▸hx);omega)
    omega
end Vs

namespace Vs
open Go
def gz(l:List Int)(p:Nat):Int:=(l[p]?).getD 0
theorem vj{l:List Int}{p:Nat}(h:p<l.length):l[p]?=some (gz l p):=by
 unfold gz;rw[List.getElem?_eq_getElem h];rfl
theorem kF{l:List Int}{p q:Nat}{x:Int}(h:p<l.length):gz (l.set p x) q=if q=p then x else gz l q:=by
 unfold gz;rw[List.getElem?_set];by_cases e:p=q
 ·rw[if_pos e,if_pos h,if_pos e.symm];rfl
 ·rw[if_neg e,if_neg (Ne.symm e)]
theorem Js(x y:Int):Jq x y=some (decide (x<y)):=by
 unfold Jq uL;simp
theorem DS{l:List Int}{i j:Nat}(hi:i<l.length)(hj:j<l.length):((l.set i (gz l j)).set j (gz l i)).Perm l:=by
 by_cases e:i=j
 ·subst e;have:(l.set i (gz l i)).set i (gz l i)=l:=by
   apply List.ext_getElem?;intro k;rw[List.getElem?_set,List.getElem?_set];by_cases h:i=k
   ·subst h;simp[hi];unfold gz;rw[List.getElem?_eq_getElem hi];rfl
   ·simp[h]
  rw[this]
 ·have g1:gz l j=l[j]:=by unfold gz;rw[List.getElem?_eq_getElem hj];rfl
  have g2:gz l i=l[i]:=by unfold gz;rw[List.getElem?_eq_getElem hi];rfl
  rw[g1,g2];exact List.set_set_perm hi hj
def SrtI(i j:Nat)(l:List Int):Prop:=(∀p q,p<q->q<=i->p≠j->q≠j->gz l p<=gz l q)/\∀q,j<q->q<=i->gz l j<=gz l q
def Cw(n:Nat)(l:List Int):Prop:=∀p q,p<q->q<n->gz l p<=gz l q
theorem MI(n i:Nat)(l0:List Int)(hl:l0.length=n)(hn:n<=1048576)(hi:i<n)(hs:Cw i l0):
 ∃l,bl (M_o 0) N0 ((i:Int),l0)=some l/\l.Perm l0/\Cw (i+1) l:=by
 refine br (f:=M_o 0) (fun s=>∃j:Nat,s.1=j/\j<=i/\s.2.length=n/\s.2.Perm l0/\SrtI i j s.2) (fun s=>s.1.toNat) (fun l=>l.Perm l0/\Cw (i+1) l) (fun s hI=>?_) N0 ((i:Int),l0)
  ⟨i,rfl,Nat.le_refl _,hl,List.Perm.refl _,fun p q h1 h2 h3 h4=>hs p q h1 (by omega),fun q h1 h2=>by omega⟩ (bZ (by simp;omega))
 obtain⟨j',l⟩:=s;obtain⟨j,rfl,hj,hll,hp,hA,hB⟩:=hI;simp only at hll hp hA hB;by_cases h0:0<j
 ·have e1:decide ((0:Int)<(j:Int))=true:=decide_eq_true (by omega);have ew:IntKind.wrap .i64 ((j:Int)-1)=((j-1:Nat):Int):=by rw[aF (by omega) (by omega)];omega
  have g1:l[j]?=some (gz l j):=vj (by omega);have g2:l[j-1]?=some (gz l (j-1)):=vj (by omega);have d1:grd (0<=(j:Int)/\(j:Int)<(l.length:Int))=some ():=aR (by omega);have d2:grd (0<=((j-1:Nat):Int)/\((j-1:Nat):Int)<(l.length:Int))=some ():=aR (by omega);by_cases hlt:gz l j<gz l (j-1)
  ·left;have e2:decide (gz l j<gz l (j-1))=true:=decide_eq_true hlt;have g3:(l.set j (gz l (j-1)))[j-1]?=some (gz l (j-1)):=by
    rw[List.getElem?_set,if_neg (by omega)];exact g2
   refine⟨(((j-1:Nat):Int),(l.set j (gz l (j-1))).set (j-1) (gz l j)),?_,⟨j-1,rfl,by omega,by simp[hll],?_,?_,?_⟩,?_⟩
   ·simp only[M_o,e1,cond_true,Int.toNat_natCast,ew,d1,d2,g1,g2,Js,e2,Option.bind_some,bnd,g3]
   ·exact(DS (by omega) (by omega)).trans hp
   ·intro p q h1 h2 h3 h4;simp only at*
    rw[kF (by simp;omega),kF (by omega),kF (by simp;omega),kF (by omega),if_neg h3,if_neg h4];by_cases c1:p=j
    ·rw[if_pos c1,if_neg (by omega)];exact hA (j-1) q (by omega) h2 (by omega) (by omega)
    ·rw[if_neg c1];by_cases c2:q=j
     ·rw[if_pos c2];exact hA p (j-1) (by omega) (by omega) c1 (by omega)
     ·rw[if_neg c2];exact hA p q h1 h2 c1 c2
   ·intro q h1 h2;simp only at*
    rw[kF (by simp;omega),if_pos rfl,kF (by simp;omega),if_neg (by omega),kF (by omega)];by_cases c2:q=j
    ·rw[if_pos c2];omega
    ·rw[if_neg c2];exact hB q (by omega) h2
   ·simp only[Int.toNat_natCast];omega
  ·right;have e2:decide (gz l j<gz l (j-1))=false:=decide_eq_false hlt;refine⟨l,?_,hp,?_⟩
   ·simp only[M_o,e1,cond_true,Int.toNat_natCast,ew,d1,d2,g1,g2,Option.bind_some,Js,e2,cond_false]
   ·intro p q h1 h2;by_cases c1:p=j
    ·rw[c1];exact hB q (by omega) (by omega)
    ·by_cases c2:q=j
     ·rw[c2];by_cases c3:p=j-1
      ·rw[c3];omega
      ·have:=hA p (j-1) (by omega) (by omega) c1 (by omega);omega
     ·exact hA p q h1 (by omega) c1 c2
 ·right;have e1:decide ((0:Int)<(j:Int))=false:=decide_eq_false (by omega);refine⟨l,by simp only[M_o,e1,cond_false,Option.bind_some],hp,fun p q h1 h2=>?_⟩;by_cases c1:p=j
  ·rw[c1];exact hB q (by omega) (by omega)
  ·exact hA p q h1 (by omega) c1 (by omega)
theorem PG(n:Nat)(xs:List Int)(hl:xs.length=n)(hn:n<=1048576):∃l,Gi 0 (n:Int) xs=some l/\l.Perm xs/\Cw n l:=by
 unfold Gi;obtain⟨l,h1,h2,h3⟩:=br (f:=M_x 0 (n:Int)) (fun s=>∃i:Nat,s.1=i/\1<=i/\i<=n+1/\s.2.length=n/\s.2.Perm xs/\Cw i s.2) (fun s=>n+1-s.1.toNat) (fun l=>l.Perm xs/\Cw n l) (fun s hI=>by
  obtain⟨i',l⟩:=s;obtain⟨i,rfl,h0,hi,hll,hp,hs⟩:=hI;simp only at hll hp hs;by_cases h:i<n
  ·left;have e1:decide ((i:Int)<(n:Int))=true:=decide_eq_true (by omega);obtain⟨l',g1,g2,g3⟩:=MI n i l hll hn h hs;refine⟨(((i+1:Nat):Int),l'),?_,⟨i+1,rfl,by omega,by omega,by rw[g2.length_eq];exact hll,g2.trans hp,g3⟩,by simp only[Int.toNat_natCast];omega⟩;simp only[M_x,e1,cond_true,g1,Option.bind_some];rw[aF (by omega) (by omega)];rfl
  ·right;have e1:decide ((i:Int)<(n:Int))=false:=decide_eq_false (by omega);exact⟨l,by simp only[M_x,e1,cond_false],hp,fun p q h1 h2=>hs p q h1 (by omega)⟩) N0 (((1:Nat):Int),xs) ⟨1,rfl,by omega,by omega,hl,List.Perm.refl _,fun p q h1 h2=>by omega⟩ (bZ (by simp;omega))
 refine⟨l,?_,h2,h3⟩;have e:IntKind.wrap .i64 ((0:Int)+1)=((1:Nat):Int):=by rw[aF (by omega) (by omega)];rfl
 rw[e,h1];rfl
theorem CK:∀n:Fin 13,(LH (IntKind.wrap .u64 (n.val:Int))).isSome=true:=by decide+kernel
theorem OT(xs:List Int)(h:xs.length<=12):∃l,FO xs=some l/\l.Perm xs/\l.Pairwise (·<=·):=by
 obtain⟨l,h1,h2,h3⟩:=PG xs.length xs rfl (by omega);refine⟨l,?_,h2,?_⟩
 ·have hb:=CK ⟨xs.length,by omega⟩;simp only at hb;unfold FO;cases hx:LH (IntKind.wrap .u64 (xs.length:Int)) with
  |none=>rw[hx] at hb;cases hb
  | some r =>
    simp only[Option.bind_some];unfold Nt;have hN:N0=(N0-1)+1:=by unfold N0;omega
    rw[hN,bl];have e1:decide (IntKind.wrap .i64 ((xs.length:Int)-0)<=12)=true:=by rw[aF (by omega) (by omega)];exact decide_eq_true (by omega)
    simp only[Qv,e1,cond_true,h1,Option.bind_some]
 ·rw[List.pairwise_iff_getElem];intro i j hi hj hij;have:=h3 i j hij (by rw[<-h2.length_eq];exact hj);unfold gz at this;rw[List.getElem?_eq_getElem hi,List.getElem?_eq_getElem hj] at this;exact this
end Vs

namespace Vs
open Go
def QM(a bE:List Int):List Int:=a.filter fun x=>decide (x∈bE)
theorem pu(p:Int->Bool):∀(xs:List Int)(i:Nat)(l:List Int),bL (fun(_:Nat)(x:Int)(l:List Int)=>(.inl (if p x then l++[x] else l):List Int⊕List Int)) (fun l=>l) i xs l=l++xs.filter p
 |[],_,l=>by simp[bL]
 | x :: xs, i, l => by
   simp only[bL];rw[pu p xs (i+1)];by_cases h:p x=true
   ·simp[h]
   ·simp[h]
theorem Vh(a bE:List Int)(ha:a.length<=1048576)(hg:bE.length<=1048576):bl (wY a bE) N0 (0,[])=some (QM a bE):=by
 have key:=cx (f:=wY a bE) a (fun i(l:List Int)=>((i:Int),l)) (fun _ x l=>.inl (if decide (x∈bE) then l++[x] else l)) (fun l=>l) (fun i l=>l.length<=i) (fun i l x hx hI=>by
  have hlt:=(List.getElem?_eq_some_iff.1 hx).1;have h1:decide ((i:Int)<a.length)=true:=by simp[hlt]
  refine .inl ⟨_,rfl,by split<;>(try simp only[List.length_append,List.length_cons,List.length_nil])<;>omega,?_⟩;simp only[wY,h1,cond_true,aQ,hx,Option.bind_some,su bE x hg,bnd];rw[aF (n:=(i:Int)+1) (by omega) (by omega)];by_cases h:x∈bE
  ·rw[decide_eq_true h,cond_true,aR (by omega),if_pos rfl];rfl
  ·rw[decide_eq_false h,cond_false,if_neg (by simp)];rfl) (fun l _=>by simp[wY]) [] (Nat.le_refl 0) (by omega)
 have e0:((0:Nat):Int)=0:=rfl;simp only[e0] at key;rw[key,pu];rfl
def ddp(ys:List Int):Nat->List Int
 |0=>[]
 |j+1=>if 0<j/\ys[j]?=ys[j-1]? then ddp ys j else ddp ys j++(ys[j]?).toList
theorem oy(ys:List Int):∀k,(∀i,1<=i->i<k->ys[i]?≠ys[i-1]?)->ddp ys k=ys.take k
 |0,_=>by simp[ddp]
 | k + 1, h => by
   unfold ddp;rw[if_neg (fun e=>h k (by omega) (by omega) e.2),oy ys k (fun i h1 h2=>h i h1 (by omega)),List.take_add_one]
theorem AN{l:List Int}{k:Nat}(y:Int)(h:k<l.length):(l.set k y).take (k+1)=l.take k++[y]:=by
 rw[List.take_add_one,List.getElem?_set_self h,List.take_set_of_le (Nat.le_refl k)];rfl
theorem oX{ys:List Int}(hs:ys.Pairwise (·<=·)):∀j,j<=ys.length->(ddp ys j).Pairwise (·<·)/\(∀x∈ddp ys j,∀y,ys[j-1]?=some y->x<=y)/\∀x,x∈ddp ys j↔x∈ys.take j
 |0,_=>by simp[ddp]
 | j + 1, h => by
   obtain⟨h1,h2,h3⟩:=oX hs j (by omega);have hy:ys[j]?=some (ys[j]'(by omega)):=List.getElem?_eq_getElem (by omega);generalize ys[j]'(by omega)=y at hy;unfold ddp;rw[List.take_add_one,hy];by_cases c:0<j/\some y=ys[j-1]?
   ·rw[if_pos c];refine⟨h1,fun x hx z hz=>?_,fun x=>?_⟩
    ·simp only[Nat.add_sub_cancel,hy,Option.some.injEq] at hz;subst hz;exact h2 x hx y c.2.symm
    ·have hm:y∈ys.take j:=by
      rw[List.mem_take_iff_getElem];obtain⟨q1,q2⟩:=List.getElem?_eq_some_iff.1 c.2.symm;exact⟨j-1,by omega,q2⟩
     simp only[Option.toList_some,List.mem_append,List.mem_singleton,h3];exact⟨.inl,fun q=>q.elim id fun e=>e▸hm⟩
   ·rw[if_neg c];have hlt:∀x∈ddp ys j,x<y:=fun x hx=>by
     by_cases hj:0<j
     ·have hz:ys[j-1]?=some (ys[j-1]'(by omega)):=List.getElem?_eq_getElem (by omega);have:=h2 x hx _ hz;have h5:ys[j-1]'(by omega)<=ys[j]'(by omega):=List.pairwise_iff_getElem.1 hs (j-1) j (by omega) (by omega) (by omega);have h6:ys[j]'(by omega)=y:=(List.getElem?_eq_some_iff.1 hy).2;have h7:ys[j-1]'(by omega)≠y:=fun e=>c ⟨hj,by rw[hz,e]⟩;omega
     ·have:j=0:=by omega
      subst this;simp[ddp] at hx
    refine⟨?_,fun x hx z hz=>?_,fun x=>?_⟩
    ·rw[List.pairwise_append];exact⟨h1,by simp,fun a ha b hb=>by simp at hb;subst hb;exact hlt a ha⟩
    ·simp only[Nat.add_sub_cancel,hy,Option.some.injEq] at hz;subst hz;simp only[Option.toList_some,List.mem_append,List.mem_singleton] at hx;rcases hx with hx|hx
     ·have:=hlt x hx;omega
     ·omega
    ·simp only[List.mem_append,h3]
theorem FE(ys:List Int)(hl:ys.length<=1048576)(k0:Nat)(h0:1<=k0)(hk:k0<ys.length)(hd:ddp ys (k0+1)=ys.take k0):
 ∃(k:Nat)(l:List Int),bl (M_w 0 ys.length (k0:Int)) N0 ((k0:Int),1,ys)=some ((k:Int),l)/\l.length=ys.length/\k<=ys.length/\l.take k=ddp ys ys.length:=by
 obtain⟨o,o1,o2⟩:=br (f:=M_w 0 ys.length (k0:Int)) (fun s=>∃(k k2:Nat)(l:List Int),s=((k:Int),(k2:Int),l)/\1<=k2/\k0+k2<=ys.length/\l.length=ys.length/\k+1<=k0+k2/\(∀p,k0+k2<=p+1->l[p]?=ys[p]?)/\l.take k=ddp ys (k0+k2))
  (fun s=>ys.length-s.2.1.toNat) (fun o=>∃(k:Nat)(l:List Int),o=((k:Int),l)/\l.length=ys.length/\k<=ys.length/\l.take k=ddp ys ys.length) (fun s hI=>by
  obtain⟨k,k2,l,rfl,i1,i2,i3,i4,i5,i6⟩:=hI;by_cases hc:k0+k2<ys.length
  ·left;have e1:decide ((k2:Int)<((ys.length-k0:Nat):Int))=true:=decide_eq_true (by omega);have ew:IntKind.wrap .i64 ((k2:Int)-1)=((k2-1:Nat):Int):=by rw[aF (by omega) (by omega)];omega
   have g1:l[0+k0+k2]?=some (ys[k0+k2]'hc):=by rw[Nat.zero_add,i5 _ (by omega)];exact List.getElem?_eq_getElem hc
   have g2:l[0+k0+(k2-1)]?=some (ys[k0+k2-1]'(by omega)):=by
    rw[show 0+k0+(k2-1)=k0+k2-1 by omega,i5 _ (by omega)];exact List.getElem?_eq_getElem (by omega)
   have g3:l[0+k]?=some (l[k]'(by omega)):=by rw[Nat.zero_add];exact List.getElem?_eq_getElem (by omega)
   have hddp:ddp ys (k0+k2+1)=if ys[k0+k2]'hc=ys[k0+k2-1]'(by omega) then ddp ys (k0+k2) else ddp ys (k0+k2)++[ys[k0+k2]'hc]:=by
    rw[ddp,List.getElem?_eq_getElem hc,List.getElem?_eq_getElem (show k0+k2-1<ys.length by omega)];by_cases e:ys[k0+k2]'hc=ys[k0+k2-1]'(by omega)
    ·rw[if_pos ⟨by omega,by rw[e]⟩,if_pos e]
    ·rw[if_neg (fun q=>e (Option.some.inj q.2)),if_neg e];rfl
   simp only[M_w,Int.toNat_natCast,e1,cond_true,ew,g1,g2,g3];rw[aR (by omega),aR (by omega),aR (by omega)];simp only[Option.bind_some,bnd];rw[aF (n:=(k:Int)+1) (by omega) (by omega),aF (n:=(k2:Int)+1) (by omega) (by omega)];by_cases e:ys[k0+k2]'hc=ys[k0+k2-1]'(by omega)
   ·rw[if_pos e] at hddp;rw[show(ys[k0+k2]'hc !=ys[k0+k2-1]'(by omega))=false by simpa using e,cond_false];exact⟨_,rfl,⟨k,k2+1,l,by simp,by omega,by omega,i3,by omega,fun p hp=>i5 p (by omega),by rw[show k0+(k2+1)=k0+k2+1 by omega,hddp];exact i6⟩,by simp only[];omega⟩
   ·rw[if_neg e] at hddp;rw[show(ys[k0+k2]'hc !=ys[k0+k2-1]'(by omega))=true by simpa using e,cond_true];refine⟨_,rfl,⟨k+1,k2+1,l.set k (ys[k0+k2]'hc),by simp,by omega,by omega,by simpa using i3,by omega,fun p hp=>?_,?_⟩,by simp only[];omega⟩
    ·rw[List.getElem?_set_ne (by omega)];exact i5 p (by omega)
    ·rw[show k0+(k2+1)=k0+k2+1 by omega,hddp,AN _ (by omega),i6]
  ·right;have e1:decide ((k2:Int)<((ys.length-k0:Nat):Int))=false:=decide_eq_false (by omega);refine⟨_,by simp only[M_w,Int.toNat_natCast,e1,cond_false],k,l,rfl,i3,by omega,?_⟩;rw[i6,show k0+k2=ys.length by omega]) N0 ((k0:Int),((1:Nat):Int),ys) ⟨k0,1,ys,rfl,by omega,by omega,rfl,by omega,fun p _=>rfl,hd.symm⟩ (bZ (by simp;omega))
 obtain⟨k,l,rfl,q1,q2,q3⟩:=o2;exact⟨k,l,o1,q1,q2,q3⟩
theorem Am(ys:List Int)(hl:ys.length<=1048576):∃k l,EQ 0 ys.length ys=some (0,k,l)/\cK l 0 k=ddp ys ys.length:=by
 unfold EQ;by_cases h:(ys.length:Int)<2
 ·rw[decide_eq_true h,cond_true];refine⟨_,_,rfl,?_⟩;rw[eN,oy ys _ (fun i h1 h2=>by omega),List.take_length]
 rw[decide_eq_false h,cond_false];obtain⟨o,o1,o2⟩:=br (f:=Bv 0 ys.length ys) (fun s=>∃i:Nat,s=i/\1<=i/\i<=ys.length/\ddp ys i=ys.take i) (fun s=>ys.length-s.toNat)
  (fun o=>(o=.inl ()/\ddp ys ys.length=ys)\/∃k l,o=.inr (0,k,l)/\cK l 0 k=ddp ys ys.length) (fun s hI=>by
  obtain⟨i,rfl,h1,h2,h3⟩:=hI;by_cases hi:i<ys.length
  ·have e1:decide ((i:Int)<(ys.length:Int))=true:=decide_eq_true (by omega);have ew:IntKind.wrap .i64 ((i:Int)-1)=((i-1:Nat):Int):=by rw[aF (by omega) (by omega)];omega
   have g1:ys[0+i]?=some (ys[i]'hi):=by rw[Nat.zero_add];exact List.getElem?_eq_getElem hi
   have g2:ys[0+(i-1)]?=some (ys[i-1]'(by omega)):=by rw[Nat.zero_add];exact List.getElem?_eq_getElem (by omega)
   simp only[Bv,e1,cond_true,Int.toNat_natCast,g1,ew,g2];rw[aR (by omega),aR (by omega)];simp only[Option.bind_some];by_cases e:ys[i]'hi=ys[i-1]'(by omega)
   ·right;have hd:ddp ys (i+1)=ys.take i:=by
     rw[ddp,if_pos ⟨by omega,by rw[List.getElem?_eq_getElem hi,List.getElem?_eq_getElem (show i-1<ys.length by omega),e]⟩,h3]
    obtain⟨k,l,k1,k2,k3,k4⟩:=FE ys hl i h1 hi hd;rw[show(ys[i]'hi==ys[i-1]'(by omega))=true by simpa using e,cond_true];simp only[Int.toNat_natCast,and_true,true_and];rw[aR (by omega)];simp only[Option.bind_some,k1,bnd,Int.toNat_natCast,and_true,true_and];rw[aR (by omega)];simp only[Option.bind_some];refine⟨_,rfl,.inr ⟨k,_,rfl,?_⟩⟩;rw[<-k4,dk,List.drop_zero];unfold dx;rw[if_pos (by simp;omega),Nat.zero_add];rw[List.append_assoc,List.take_append_of_le_length (by simp;omega),List.take_take,Nat.min_self]
   ·left;rw[show(ys[i]'hi==ys[i-1]'(by omega))=false by simpa using e,cond_false,aF (by omega) (by omega)];refine⟨_,rfl,⟨i+1,rfl,by omega,by omega,?_⟩,by omega⟩;rw[ddp,if_neg (fun q=>e (by
     have:=q.2;rw[List.getElem?_eq_getElem hi,List.getElem?_eq_getElem (show i-1<ys.length by omega)] at this;exact Option.some.inj this)),h3,List.take_add_one]
  ·right;have e1:decide ((i:Int)<(ys.length:Int))=false:=decide_eq_false (by omega);refine⟨_,by simp only[Bv,e1,cond_false],.inl ⟨rfl,?_⟩⟩;rw[show ys.length=i by omega,h3,show i=ys.length by omega,List.take_length]) N0 ((1:Nat):Int) ⟨1,rfl,by omega,by omega,by
    rw[oy ys 1 (fun i h1 h2=>by omega)]⟩ (bZ (by simp;omega))
 have e1:((1:Nat):Int)=1:=rfl;rw[e1] at o1;rw[o1];rcases o2 with⟨rfl,q⟩|⟨k,l,rfl,q⟩
 ·exact⟨_,_,rfl,by rw[eN,q]⟩
 ·exact⟨k,l,rfl,q⟩
theorem lz(a bE:List Int)(ha:a.length<=12)(hg:bE.length<=1048576):∃l,tl a bE=some l/\l.Pairwise (·<·)/\∀x,x∈l↔x∈a/\x∈bE:=by
 unfold tl;have hc:(QM a bE).length<=a.length:=List.length_filter_le ..;rw[Vh a bE (by omega) hg];simp only[Option.bind_some];obtain⟨l,l1,l2,l3⟩:=OT (QM a bE) (by omega);have hln:=l2.length_eq;obtain⟨k,l',k1,k2⟩:=Am l (by omega);rw[l1];simp only[Option.bind_some];rw[<-hln,k1];simp only[Option.bind_some,bnd,k2];obtain⟨s1,_,s3⟩:=oX l3 l.length (Nat.le_refl _);refine⟨_,rfl,s1,fun x=>?_⟩;rw[s3,List.take_length,l2.mem_iff];simp[QM]
def fB(a bE:List Int):Bool:=!a.any fun x=>decide (x∈bE)
theorem yI{a bE l:List Int}(h:∀x,x∈l↔x∈a/\x∈bE):((l.length:Int)==0)=fB a bE:=by
 rw[Bool.eq_iff_iff];simp only[beq_iff_eq,fB,Bool.not_eq_true',List.any_eq_false,decide_eq_true_eq];constructor
 ·intro e x hx hg;have:=(h x).2 ⟨hx,hg⟩;have h0:l=[]:=List.length_eq_zero_iff.1 (by omega);rw[h0] at this;cases this
 ·intro hn;cases l with
  |nil=>rfl
  |cons x l=>exact(hn x ((h x).1 (by simp)).1 ((h x).1 (by simp)).2).elim
theorem wR{a bE l:List Int}(h:∀x,x∈l↔x∈a/\x∈bE):decide ((0:Int)<(l.length:Int))=!fB a bE:=by
 rw[<-yI h,Bool.eq_iff_iff];simp only[decide_eq_true_eq,Bool.not_eq_true',beq_eq_false_iff_ne];omega
end Vs

namespace Vs
open Go
def gQ(b:aM):Bool:=wi b.First 0 23&&wi b.Count 1 (24-b.First)
theorem GE(b:aM):CD b=some (gQ b):=by
 unfold CD gQ;simp only[gu,Option.bind_some];rcases bt (wi b.First 0 23) with e|e
 ·have:=cG.1 e;rw[e,cond_true,aF (by omega) (by omega),Bool.true_and]
 ·rw[e];rfl
theorem oa(b:aM):CW b=some (gQ b):=by
 unfold CW gQ;simp only[eQ,Option.bind_some];by_cases h1:0<=b.First
 ·rw[decide_eq_true h1,cond_true];rcases bt (wi b.Count 1 24) with e|e
  ·have:=cG.1 e;rw[e,cond_true,aF (by omega) (by omega)];congr 1;rw[Bool.eq_iff_iff];simp only[decide_eq_true_eq,Bool.and_eq_true,cG];omega
  ·rw[e,cond_false];congr 1;symm;rw[Bool.eq_false_iff];intro h;simp only[Bool.and_eq_true,cG] at h;have:=pc.1 e;omega
 ·rw[decide_eq_false h1,cond_false];congr 1;symm;rw[Bool.eq_false_iff];intro h;simp only[Bool.and_eq_true,cG] at h;omega
def eT(b:aM):Prop:=(0<=b.First/\b.First<=24)/\0<=b.Count/\b.Count<=24
theorem vL{b:aM}(h:gQ b=true):eT b:=by
 unfold gQ at h;simp only[Bool.and_eq_true,cG] at h;unfold eT;omega
def mF(b:aM):Int:=IntKind.wrap .i64 ((IntKind.wrap .i64 ((IntKind.wrap .i64 (1*2^(min (Int.toNat b.Count) (IntKind.bits .i64))))-1))*2^(min (Int.toNat b.First) (IntKind.bits .i64)))
theorem tN{b:aM}(h:eT b):DD b=some (mF b):=by
 unfold DD;rw[aR h.2.1];simp only[Option.bind_some];rw[aR h.1.1];rfl
theorem uF{b:aM}(h:eT b):Bl b=some (mF b):=by
 unfold Bl;have h1:=h.1;have h2:=h.2;rw[zL (n:=b.Count) (by omega) (by omega),zL (n:=b.First) (by omega) (by omega),aR h2.1];simp only[Option.bind_some];rw[aR h1.1];rfl
theorem SA{b:aM}(h:b.Count=0):mF b=0:=by
 unfold mF;have:IntKind.wrap .i64 (1*2^(min (Int.toNat b.Count) (IntKind.bits .i64)))=1:=by rw[h];rfl
 rw[this];have:IntKind.wrap .i64 (1-1:Int)=0:=rfl;rw[this,Int.zero_mul];rfl
theorem and0(y:Int):bits .and .i64 0 y=0:=by
 show IntKind.wrap .i64 ((BitVec.ofInt 64 0 &&& BitVec.ofInt 64 y).toNat:Int)=0;have:BitVec.ofInt 64 0=0#64:=rfl;rw[this,BitVec.zero_and];rfl
theorem oY(x y:Int):bits .and .i64 x y=bits .and .i64 y x:=by
 show IntKind.wrap .i64 ((BitVec.ofInt 64 x &&& BitVec.ofInt 64 y).toNat:Int)=IntKind.wrap .i64 ((BitVec.ofInt 64 y &&& BitVec.ofInt 64 x).toNat:Int);rw[BitVec.and_comm]
theorem oB(r:au)(g:List Int)(hr:r.Fibers.length<=1048576)(hg:g.length<=1048576):yf r g=some (!fB r.Fibers g):=by
 unfold yf;rw[fm (f:=Cv r g) r.Fibers (fun x=>decide (x∈g)) (.inr true) (.inl ()) (fun i y hy=>by
  have hlt:=(List.getElem?_eq_some_iff.1 hy).1;have h1:decide ((i:Int)<r.Fibers.length)=true:=by simp[hlt]
  simp only[Cv,h1,cond_true,aQ,hy,Option.bind_some,lj g y hg,<-rX];rw[aF (by omega) (by omega)];cases decide (y∈g)<;>rfl) (by simp[Cv]) (by omega)]
 unfold fB;rw[Bool.not_not];cases(r.Fibers.any fun x=>decide (x∈g))<;>rfl
def cm(a:au)(x:aM)(b:au)(y:aM):Bool:=(bits .and .i64 (mF x) (mF y) !=0)&&!fB a.Fibers b.Fibers
theorem CV(a b:List Int):fB a b=fB b a:=by
 unfold fB;congr 1;rw[Bool.eq_iff_iff];simp only[List.any_eq_true,decide_eq_true_eq];exact⟨fun⟨x,h1,h2⟩=>⟨x,h2,h1⟩,fun⟨x,h1,h2⟩=>⟨x,h2,h1⟩⟩
theorem vV(a:au)(x:aM)(b:au)(y:aM):cm a x b y=cm b y a x:=by
 unfold cm;rw[oY,CV]
theorem gC(a:au)(x:aM)(b:au)(y:aM)(ha:a.Fibers.length<=12)(hb:b.Fibers.length<=1048576)(hx:eT x)(hy:eT y):rS a x b y=some (cm a x b y):=by
 unfold rS NM cm;obtain⟨l,l1,_,l3⟩:=lz a.Fibers b.Fibers ha hb;simp only[tN hx,tN hy,Option.bind_some,l1,wR l3];cases bits .and .i64 (mF x) (mF y) !=0<;>rfl
theorem dq(a:au)(x:aM)(b:au)(y:aM)(ha:a.Fibers.length<=1048576)(hb:b.Fibers.length<=1048576)(hx:eT x)(hy:eT y):rZ a x b y=some (cm a x b y):=by
 unfold rZ cm;simp only[oB a b.Fibers ha hb,uF hx,uF hy,Option.bind_some];have h1:=hx.2.1;have h2:=hy.2.1;rcases bt (fB a.Fibers b.Fibers) with e|e
 ·rw[e];simp
 ·rw[e];simp only[Bool.not_false,cond_true,Bool.and_true];by_cases c1:0<x.Count
  ·rw[decide_eq_true c1,cond_true];by_cases c2:0<y.Count
   ·rw[decide_eq_true c2,cond_true]
   ·rw[decide_eq_false c2,cond_false,SA (b:=y) (by omega),oY,and0];rfl
  ·rw[decide_eq_false c1,cond_false,SA (b:=x) (by omega),and0];rfl
theorem wE(xs:List (List Int))(f:List Int->Option Bool)(p:List Int->Bool)(hf:∀x∈xs,f x=some (p x))(hl:xs.length<=1048576):IA xs f=some (match dG (fun _ x=>p x) xs with|some q=>(q.1:Int)|none=>-1):=by
 unfold IA;rw[dC (f:=CC xs f) xs (fun _ x=>p x) (fun i _=>(i:Int)) () (fun i x hx _=>by
  have hlt:=(List.getElem?_eq_some_iff.1 hx).1;have h1:decide ((i:Int)<xs.length)=true:=by simp[hlt]
  simp only[CC,h1,cond_true,aQ,hx,Option.bind_some,hf x (List.mem_of_getElem? hx)];rw[aF (by omega) (by omega)];cases p x<;>rfl) (by simp[CC]) (by omega)]
 cases dG (fun _ x=>p x) xs<;>rfl
theorem CE(n:af)(e:Int)(h:n.Fibers.length<=14):Gk n e=some (kS n e):=by
 unfold Gk kS;have hg:=ik h;have hK:=dA n h;rw[kJ n h];simp only[Option.bind_some];rw[wE (aO n) (fun x0=>Ev x0 e) (fun g=>decide (e∈g)) (fun x hx=>by
  unfold Ev;rw[su x e (by have:=(hg x hx).1;omega)];rfl) (by omega)]
 rfl
theorem qU(n:af)(l:List Int)(h:n.Fibers.length<=14)(hl:l.length<=1048576):AW n l=some (l.map (kS n)):=by
 unfold AW;have:=cx (f:=Bm n l) l (fun i(a:List Int)=>((i:Int),a)) (fun _ x a=>.inl (a++[kS n x])) (fun a=>a) (fun i a=>a.length<=i) (fun i a x hx hI=>by
  have hlt:=(List.getElem?_eq_some_iff.1 hx).1;have h1:decide ((i:Int)<l.length)=true:=by simp[hlt]
  refine .inl ⟨_,rfl,by simp;omega,?_⟩;simp only[Bm,h1,cond_true,aQ,hx,Option.bind_some,CE n x h,bnd];rw[aR (by omega),aF (by omega) (by omega)];rfl) (fun a _=>by simp[Bm]) [] (Nat.le_refl 0) (by omega)
 have e0:((0:Nat):Int)=0:=rfl;simp only[e0] at this;rw[this];have gen:∀(xs:List Int)(i:Nat)(a:List Int),bL (fun(_:Nat) x(a:List Int)=>(.inl (a++[kS n x]):List Int⊕List Int)) (fun a=>a) i xs a=a++xs.map (kS n):=by
  intro xs;induction xs with
  |nil=>intro i a;simp[bL]
  |cons x xs ih=>intro i a;simp only[bL];rw[ih];simp
 rw[gen];rfl
theorem zG(n:af)(a b:List Int)(h:bM n=true)(ha:a.length<=12)(hb:b.length<=1048576)(fa:∀x∈a,kp n x)(fb:∀x∈b,kp n x):AB n a b=some (apP n a b):=by
 have hn:=(df h).2.2;unfold AB;obtain⟨l,l1,_,l3⟩:=lz (a.map (kS n)) (b.map (kS n)) (by simpa using ha) (by simpa using hb);simp only[qU n a hn (by omega),qU n b hn hb,Option.bind_some,l1,yI l3];rw[<-BS h fa fb];rfl
theorem xy(n:af)(e:Int)(h:n.Fibers.length<=14)(he:kp n e):pK n e=some (ld n e):=by
 obtain⟨f,f1,f2⟩:=rL he;have e0:e=(e.toNat:Int):=by have:=he.1;omega
 unfold ld;rw[f2];by_cases h0:f.Risk=0
 ·rw[if_pos h0];unfold pK;have hg:bu n.Fibers e=some f:=by rw[e0,aQ];exact f1
  simp only[hg,Option.bind_some,bnd];rw[show(f.Risk==0)=true by simpa using h0,cond_true]
 ·rw[if_neg h0];have:=qA n h e.toNat f f1 h0;rw[<-e0] at this;exact this
theorem jH(n:af)(a b:au)(h:n.Fibers.length<=14)(ha:a.Fibers.length<=1048576)(hb:b.Fibers.length<=1048576)(fa:∀x∈a.Fibers,kp n x):sI n a b=some (apP n a.Fibers b.Fibers):=by
 unfold sI;rw[fm (f:=AD n a b) a.Fibers (fun x=>b.Fibers.any fun y=>decide (y∈ld n x)) (.inr false) (.inl ()) (fun i x hx=>by
  have hlt:=(List.getElem?_eq_some_iff.1 hx).1;have h1:decide ((i:Int)<a.Fibers.length)=true:=by simp[hlt]
  have hgl:(ld n x).length<=1048576:=by
   unfold ld;split
   ·simp
   ·have:=lk (gb n x) n.Fibers 0;omega
  simp only[AD,h1,cond_true,aQ,hx,Option.bind_some,xy n x h (fa x (List.mem_of_getElem? hx))];rw[fm (f:=Cy b (ld n x)) b.Fibers (fun y=>decide (y∈ld n x)) (.inr false) (.inl ()) (fun j y hy=>by
   have hlt:=(List.getElem?_eq_some_iff.1 hy).1;have h1:decide ((j:Int)<b.Fibers.length)=true:=by simp[hlt]
   simp only[Cy,h1,cond_true,aQ,hy,Option.bind_some,lj (ld n x) y hgl,<-rX];rw[aF (by omega) (by omega)];cases decide (y∈ld n x)<;>rfl) (by simp[Cy]) (by omega),aF (by omega) (by omega)]
  cases(b.Fibers.any fun y=>decide (y∈ld n x))<;>rfl) (by simp[AD]) (by omega)]
 unfold apP;cases(a.Fibers.any fun x=>b.Fibers.any fun y=>decide (y∈ld n x))<;>rfl
end Vs

namespace Vs
open Go
theorem yH{n:af}:∀(xs:List Int)(i:Nat)(a:Int×List Int)(l:List Int),bL (nU n) (fun a=>some a.2) i xs a=some l->∃t,l=a.2++t
 |[],_,a,l,h=>by simp only[bL,Option.some.injEq] at h;subst h;exact⟨[],by simp⟩
 | x :: xs, i, a, l, h => by
   simp only[bL,nU] at h;rcases bt (qo n x a) with e|e
   ·rw[e] at h;cases h
   ·rw[e] at h;simp only[Bool.false_eq_true,if_false] at h;obtain⟨t,ht⟩:=yH xs (i+1) _ l h;exact⟨db n x a.1::t,by rw[ht];simp⟩
theorem tx{n:af}{r:au}{l:List Int}(h:gO n r=some l):l[0]?=some r.Start:=by
 unfold gO at h;split at h
 ·cases h
 ·obtain⟨t,ht⟩:=yH _ _ _ _ h;rw[ht];rfl
def mO(n:af)(r:au):Int:=match gO n r with|some l=>gz l (l.length-1)|none=>0
structure Ht(n:af)(r:au):Prop where
 len:r.Fibers.length<=12
 fib:∀x∈r.Fibers,kp n x
 nod:r.Fibers.Nodup
theorem kg{n:af}(h:bM n=true){r:au}{l:List Int}(hl:gO n r=some l):Ht n r/\l.length=r.Fibers.length+1:=by
 obtain⟨g1,g2,g3,g4,g5⟩:=CL (JS h) hl;have:=jg n.Nodes.length l g1 g2;have:=df h;exact⟨⟨by omega,g4,g5⟩,g3⟩
theorem zr{n:af}{r:au}{l:List Int}(h:bM n=true)(hr:r.Fibers.length<=1048576)(hl:gO n r=some l):DT n r=some (mO n r):=by
 have hb:=df h;obtain⟨o,o1,o2⟩:=tW n r (by omega) (by omega) hr;obtain rfl:=o2 l hl;obtain⟨hi,hlen⟩:=kg h hl;have:=hi.len;unfold DT Oe mO;rw[o1,hl];simp only[Option.bind_some];have e:IntKind.wrap .i64 ((o.length:Int)-1)=((o.length-1:Nat):Int):=by rw[aF (by omega) (by omega)];omega
 rw[e,aR (by omega)];simp only[Option.bind_some,Int.toNat_natCast];rw[vj (by omega)];rfl
def iZ(n:af)(s:ah):Bool:=
 (wi s.Id 1 999&&wi s.Class 0 2&&(gO n s.Work).isSome&&gQ s.WorkBlock)&&
 (if s.Class=0 then decide (s.Spare.Start=0)&&decide (s.Spare.Fibers.length=0)&&(s.SpareBlock.First==0&&s.SpareBlock.Count==0)
  else(gO n s.Spare).isSome&&gQ s.SpareBlock&&decide (s.Spare.Start=s.Work.Start)&&decide (mO n s.Spare=mO n s.Work)&&apP n s.Work.Fibers s.Spare.Fibers)
structure kT(n:af)(s:ah):Prop where
 wr:Ht n s.Work
 sr:Ht n s.Spare
 wb:eT s.WorkBlock
 sb:eT s.SpareBlock
theorem sH{n:af}{s:ah}(h:bM n=true)(hs:iZ n s=true):kT n s:=by
 unfold iZ at hs;simp only[Bool.and_eq_true] at hs;obtain⟨⟨⟨_,h3⟩,h4⟩,h5⟩:=hs;obtain⟨l,hl⟩:=Option.isSome_iff_exists.1 h3;by_cases c:s.Class=0
 ·rw[if_pos c] at h5;simp only[Bool.and_eq_true,decide_eq_true_eq,beq_iff_eq] at h5;obtain⟨⟨k1,k2⟩,k3,k4⟩:=h5;have k2:s.Spare.Fibers=[]:=List.length_eq_zero_iff.1 k2;exact⟨(kg h hl).1,⟨by rw[k2];simp,by rw[k2];simp,by rw[k2];simp⟩,vL h4,by unfold eT;omega⟩
 ·rw[if_neg c] at h5;simp only[Bool.and_eq_true] at h5;obtain⟨⟨⟨⟨k1,k2⟩,_⟩,_⟩,_⟩:=h5;obtain⟨l2,hl2⟩:=Option.isSome_iff_exists.1 k1;exact⟨(kg h hl).1,(kg h hl2).1,vL h4,vL k2⟩
theorem c4(a b c d:Bool):(cond (!a) (some true) (cond (!b) (some true) (cond (!c) (some true) (some (!d)))):Option Bool)=some (!(a&&b&&c&&d)):=by
 cases a<;>cases b<;>cases c<;>cases d<;>rfl
theorem c3z(s:ah):(cond (s.Spare.Start==0) (cond ((s.Spare.Fibers.length:Int)==0) (some (s.SpareBlock.First==0&&s.SpareBlock.Count==0)) (some false)) (some false):Option Bool)=
 some (decide (s.Spare.Start=0)&&decide (s.Spare.Fibers.length=0)&&(s.SpareBlock.First==0&&s.SpareBlock.Count==0)):=by
 rw[Vn,show(s.Spare.Start==0)=decide (s.Spare.Start=0) from rfl];cases decide (s.Spare.Start=0)<;>cases decide (s.Spare.Fibers.length=0)<;>rfl
theorem deqI(a b:Int):(a==b)=decide (a=b):=rfl
theorem rP(n:af)(s:ah)(h:bM n=true)(hz:bH n<=1048576)(hw:s.Work.Fibers.length<=1048576)(hs:s.Spare.Fibers.length<=1048576):Mx n s=some (iZ n s):=by
 unfold Mx iZ;have hr:∀r:au,r.Fibers.length<=1048576->wD n r=some (gO n r).isSome:=fun r hr=>by
  rw[Fc n r hz hr];unfold Iz;rw[h,Bool.true_and]
 simp only[gu,GE,hr s.Work hw,hr s.Spare hs,Option.bind_some,c4];rcases bt (wi s.Id 1 999&&wi s.Class 0 2&&(gO n s.Work).isSome&&gQ s.WorkBlock) with e|e
 ·rw[e];simp only[Bool.not_true,cond_false,Bool.true_and];simp only[Bool.and_eq_true] at e;obtain⟨l,hl⟩:=Option.isSome_iff_exists.1 e.1.2;by_cases c:s.Class=0
  ·rw[if_pos c,show(s.Class==0)=true by simpa using c,cond_true,c3z];rfl
  ·rw[if_neg c,show(s.Class==0)=false by simpa using c,cond_false];cases hl2:gO n s.Spare with
   |none=>rfl
   | some l2 =>
     simp only[Option.isSome_some,cond_true,Bool.true_and,zr h hs hl2,zr h hw hl,Option.bind_some,jH n s.Work s.Spare (df h).2.2 hw hs (kg h hl).1.fib,deqI];cases gQ s.SpareBlock<;>cases decide (s.Spare.Start=s.Work.Start)<;>cases decide (mO n s.Spare=mO n s.Work)<;>rfl
 ·rw[e];rfl
theorem sN(n:af)(s:ah)(h:bM n=true)(hw:s.Work.Fibers.length<=1048576)(hs:s.Spare.Fibers.length<=1048576):Mh n s=some (iZ n s):=by
 have hb:=df h;unfold Mh iZ;simp only[eQ,oa,qO n s.Work (by omega) (by omega) hw,qO n s.Spare (by omega) (by omega) hs,Option.bind_some];cases hl:gO n s.Work with
 | none =>
   have:(wi s.Id 1 999&&wi s.Class 0 2&&(none:Option (List Int)).isSome&&gQ s.WorkBlock)=false:=by simp
   rw[this];simp only[c4,Bool.false_and];cases wi s.Id 1 999<;>cases wi s.Class 0 2<;>rfl
 | some l =>
   simp only[c4,Option.isSome_some];rcases bt (wi s.Id 1 999&&wi s.Class 0 2&&true&&gQ s.WorkBlock) with e|e
   ·rw[e];simp only[Bool.not_true,cond_false,Bool.true_and];by_cases c:s.Class=0
    ·rw[if_pos c,show(s.Class==0)=true by simpa using c,cond_true,c3z];rfl
    ·rw[if_neg c,show(s.Class==0)=false by simpa using c,cond_false];cases hl2:gO n s.Spare with
     |none=>rfl
     | some l2 =>
       obtain⟨i1,n1⟩:=kg h hl;obtain⟨i2,n2⟩:=kg h hl2;have q1:=i1.len;have q2:=i2.len;have e1:IntKind.wrap .i64 ((l.length:Int)-1)=((l.length-1:Nat):Int):=by rw[aF (by omega) (by omega)];omega
       have e2:IntKind.wrap .i64 ((l2.length:Int)-1)=((l2.length-1:Nat):Int):=by rw[aF (by omega) (by omega)];omega
       have d1:grd (0<=0/\0<(l.length:Int))=some ():=aR (by omega);have d2:grd (0<=0/\0<(l2.length:Int))=some ():=aR (by omega);have d3:grd (0<=((l.length-1:Nat):Int)/\((l.length-1:Nat):Int)<(l.length:Int))=some ():=aR (by omega);have d4:grd (0<=((l2.length-1:Nat):Int)/\((l2.length-1:Nat):Int)<(l2.length:Int))=some ():=aR (by omega);have g1:l[Int.toNat 0]?=some s.Work.Start:=tx hl;have g2:l2[Int.toNat 0]?=some s.Spare.Start:=tx hl2;have g3:l[l.length-1]?=some (mO n s.Work):=by unfold mO;rw[hl];exact vj (by omega)
       have g4:l2[l2.length-1]?=some (mO n s.Spare):=by unfold mO;rw[hl2];exact vj (by omega)
       simp only[Option.isSome_some,cond_true,Bool.true_and,e1,e2,d1,d2,d3,d4,g1,g2,Int.toNat_natCast,g3,g4,Option.bind_some,zG n s.Work.Fibers s.Spare.Fibers h i1.len (by omega) i1.fib i2.fib,deqI];cases gQ s.SpareBlock<;>cases decide (s.Spare.Start=s.Work.Start)<;>cases decide (mO n s.Spare=mO n s.Work)<;>rfl
   ·rw[e];rfl
def gH(n:af)(a b:ah):Bool:=
 !(cm a.Work a.WorkBlock b.Work b.WorkBlock||cm a.Work a.WorkBlock b.Spare b.SpareBlock||cm a.Spare a.SpareBlock b.Work b.WorkBlock)&&
 ((a.Class==2&&b.Class==2&&apP n a.Work.Fibers b.Work.Fibers)||!cm a.Spare a.SpareBlock b.Spare b.SpareBlock)
theorem rC(n:af)(a b:ah)(h:bM n=true)(ha:kT n a)(hb:kT n b):Jr n a b=some (gH n a b):=by
 have a1:=ha.wr.len;have a2:=ha.sr.len;have b1:=hb.wr.len;have b2:=hb.sr.len;unfold Jr gH;simp only[gC a.Work a.WorkBlock b.Work b.WorkBlock a1 (by omega) ha.wb hb.wb,gC a.Work a.WorkBlock b.Spare b.SpareBlock a1 (by omega) ha.wb hb.sb,gC a.Spare a.SpareBlock b.Work b.WorkBlock a2 (by omega) ha.sb hb.wb,
  gC a.Spare a.SpareBlock b.Spare b.SpareBlock a2 (by omega) ha.sb hb.sb,zG n a.Work.Fibers b.Work.Fibers h a1 (by omega) ha.wr.fib hb.wr.fib,Option.bind_some]
 cases cm a.Work a.WorkBlock b.Work b.WorkBlock<;>cases cm a.Work a.WorkBlock b.Spare b.SpareBlock<;>cases cm a.Spare a.SpareBlock b.Work b.WorkBlock<;>try rfl
 cases a.Class==2<;>cases b.Class==2<;>cases apP n a.Work.Fibers b.Work.Fibers<;>rfl
theorem na(n:af)(a b:ah)(h:bM n=true)(ha:kT n a)(hb:kT n b):tj n a b=some (gH n a b):=by
 have a1:=ha.wr.len;have a2:=ha.sr.len;have b1:=hb.wr.len;have b2:=hb.sr.len;unfold tj gH;simp only[dq a.Work a.WorkBlock b.Work b.WorkBlock (by omega) (by omega) ha.wb hb.wb,dq a.Work a.WorkBlock b.Spare b.SpareBlock (by omega) (by omega) ha.wb hb.sb,dq a.Spare a.SpareBlock b.Work b.WorkBlock (by omega) (by omega) ha.sb hb.wb,
  dq a.Spare a.SpareBlock b.Spare b.SpareBlock (by omega) (by omega) ha.sb hb.sb,jH n a.Work b.Work (df h).2.2 (by omega) (by omega) ha.wr.fib,Option.bind_some]
 cases cm a.Work a.WorkBlock b.Work b.WorkBlock<;>cases cm a.Work a.WorkBlock b.Spare b.SpareBlock<;>cases cm a.Spare a.SpareBlock b.Work b.WorkBlock<;>try rfl
 cases a.Class==2<;>cases b.Class==2<;>cases apP n a.Work.Fibers b.Work.Fibers<;>rfl
theorem RB{list:List ah}(h:bQ list<=1048576){s:ah}(hs:s∈list):s.Work.Fibers.length<=1048576/\s.Spare.Fibers.length<=1048576:=by
 obtain⟨i,hi⟩:=List.getElem?_of_mem hs;have h2:s.Work.Fibers.length+s.Spare.Fibers.length<=(list.map fun x=>gE x).sum:=vS (fun x=>gE x) hi;unfold bQ at h;omega
theorem Fs{list:List ah}(h:bQ list<=1048576):list.length<=1048576:=by unfold bQ at h;omega
def gB(n:af)(list:List ah)(i:Nat)(s:ah):Bool:=
 !iZ n s||(decide (0<i)&&match list[i-1]? with|some g=>decide (s.Id<=g.Id)|none=>false)||(list.take i).any fun o=>!gH n o s
def gL(n:af)(list:List ah):Bool:=bM n&&decide (list.length<=8)&&!dF (gB n list) list
theorem So(xs:List ah)(f:ah->Option Bool)(p:ah->Bool)(hf:∀x∈xs,f x=some (p x))(hl:xs.length<=1048576):rE xs f=some (xs.any p):=by
 unfold rE Rc;rw[dC (f:=CJ xs f) xs (fun _ x=>p x) (fun i _=>(i:Int)) () (fun i x hx _=>by
  have hlt:=(List.getElem?_eq_some_iff.1 hx).1;have h1:decide ((i:Int)<xs.length)=true:=by simp[hlt]
  simp only[CJ,h1,cond_true,aQ,hx,hf x (List.mem_of_getElem? hx),Option.bind_some];rw[aF (by omega) (by omega)];cases p x<;>rfl) (by simp[CJ]) (by omega)]
 rw[<-nv];cases e:dG (fun _ x=>p x) xs with
 | none =>
   have h:dF (fun _ x=>p x) xs=false:=cB.2 (eu.1 e);rw[h];rfl
 | some q =>
   obtain⟨i,x⟩:=q;obtain⟨h1,h2,_⟩:=dm.1 e;have h:dF (fun _ x=>p x) xs=true:=eR.2 ⟨i,x,h1,h2⟩;rw[h];simp
theorem qu{n:af}(h:bM n=true){list:List ah}{i:Nat}(hprev:∀j y,j<i->list[j]?=some y->gB n list j y=false):∀o∈list.take i,kT n o:=by
 intro o ho;obtain⟨j,hj⟩:=List.getElem?_of_mem ho;rw[List.getElem?_take] at hj;split at hj
 ·rename_i hji;have:=hprev j o hji hj;unfold gB at this;simp only[Bool.or_eq_false_iff,Bool.not_eq_false'] at this;exact sH h this.1.1
 ·cases hj
theorem gg(n:af)(list:List ah)(hz:bH n<=1048576)(hl:bQ list<=1048576):CZ n list=some (gL n list):=by
 have hll:=Fs hl;unfold CZ gL;rw[lM n hz];simp only[Option.bind_some];rcases bt (bM n) with hn|hn
 ·rw[hn];simp only[Bool.not_true,cond_false,Option.bind_some,Bool.true_and];by_cases h8:list.length<=8
  ·have e8:decide ((8:Int)<(list.length:Int))=false:=decide_eq_false (by omega);rw[e8,cond_false,decide_eq_true h8,Bool.true_and];rw[cW (f:=Dy n list) list (gB n list) (.inr false) (.inl ()) (fun i x hx hprev=>by
    have hlt:=(List.getElem?_eq_some_iff.1 hx).1;have h1:decide ((i:Int)<list.length)=true:=by simp[hlt]
    obtain⟨w1,w2⟩:=RB hl (List.mem_of_getElem? hx);simp only[Dy,h1,cond_true,aQ,hx,Option.bind_some,sN n x hn w1 w2,zf list i (by omega)];unfold gB;rcases bt (iZ n x) with e|e
    ·have hin:=sH hn e;have hcf:rE (list.take i) (fun x0=>Dr x0 n x)=some ((list.take i).any fun o=>!gH n o x):=So _ _ _ (fun o ho=>by
      unfold Dr;rw[rC n o x hn (qu hn hprev o ho) hin];rfl) (by simp;omega)
     rw[e];simp only[Bool.not_true,cond_false,Bool.false_or,hcf,Option.bind_some];rw[aF (n:=(i:Int)+1) (by omega) (by omega)];by_cases h0:0<i
     ·have e0:decide ((0:Int)<(i:Int))=true:=decide_eq_true (by omega);have ew:IntKind.wrap .i64 ((i:Int)-1)=((i-1:Nat):Int):=by rw[aF (by omega) (by omega)];omega
      have hg:list[i-1]?=some (list[i-1]'(by omega)):=List.getElem?_eq_getElem (by omega);rw[e0,cond_true,ew,aQ,hg,decide_eq_true h0];simp only[Option.bind_some,Bool.true_and];cases decide (x.Id<=(list[i-1]'(by omega)).Id)<;>cases((list.take i).any fun o=>!gH n o x)<;>rfl
     ·have e0:decide ((0:Int)<(i:Int))=false:=decide_eq_false (by omega);rw[e0,cond_false,decide_eq_false h0];simp only[Bool.false_and,Bool.false_or];cases((list.take i).any fun o=>!gH n o x)<;>rfl
    ·rw[e];rfl) (by simp[Dy]) (by omega)]
   cases dF (gB n list) list<;>rfl
  ·have e8:decide ((8:Int)<(list.length:Int))=true:=decide_eq_true (by omega);rw[e8,cond_true,decide_eq_false h8];rfl
 ·rw[hn];rfl
theorem lH(n:af)(list:List ah)(hz:bH n<=1048576)(hl:bQ list<=1048576):wK n list=some (gL n list):=by
 have hll:=Fs hl;unfold wK gL;rw[nC n hz];simp only[Option.bind_some];rcases bt (bM n) with hn|hn
 ·rw[hn];simp only[Bool.not_true,cond_false,Option.bind_some,Bool.true_and];by_cases h8:list.length<=8
  ·have e8:decide ((8:Int)<(list.length:Int))=false:=decide_eq_false (by omega);rw[e8,cond_false,decide_eq_true h8,Bool.true_and];rw[cW (f:=CP n list) list (gB n list) (.inr false) (.inl ()) (fun i x hx hprev=>by
    have hlt:=(List.getElem?_eq_some_iff.1 hx).1;have h1:decide ((i:Int)<list.length)=true:=by simp[hlt]
    obtain⟨w1,w2⟩:=RB hl (List.mem_of_getElem? hx);simp only[CP,h1,cond_true,aQ,hx,Option.bind_some,rP n x hn hz w1 w2];rw[aF (n:=(i:Int)+1) (by omega) (by omega)];unfold gB;rcases bt (iZ n x) with e|e
    ·have hin:=sH hn e;have hcf:bl (M_p n list (i:Int)) N0 0=some (if(list.take i).any (fun o=>!gH n o x) then .inr false else .inl ()):=by
      refine fm (f:=M_p n list (i:Int)) (list.take i) (fun o=>!gH n o x) (.inr false) (.inl ()) (fun k o ho=>?_) ?_ (by simp;omega)
      ·have hin2:=qu hn hprev o (List.mem_of_getElem? ho);rw[List.getElem?_take] at ho;split at ho
       ·rename_i hki;have h1:decide ((k:Int)<(i:Int))=true:=decide_eq_true (by omega);simp only[M_p,h1,cond_true,aQ,ho,hx,Option.bind_some,na n o x hn hin2 hin];rw[aF (by omega) (by omega)];cases gH n o x<;>rfl
       ·cases ho
      ·have h1:decide ((((list.take i).length:Nat):Int)<(i:Int))=false:=decide_eq_false (by simp;omega);simp only[M_p,h1,cond_false]
     rw[e];simp only[Bool.not_true,cond_false,Bool.false_or,hcf,Option.bind_some];by_cases h0:0<i
     ·have e0:decide ((0:Int)<(i:Int))=true:=decide_eq_true (by omega);have ew:IntKind.wrap .i64 ((i:Int)-1)=((i-1:Nat):Int):=by rw[aF (by omega) (by omega)];omega
      have hg:list[i-1]?=some (list[i-1]'(by omega)):=List.getElem?_eq_getElem (by omega);rw[e0,cond_true,ew,aQ,hg,decide_eq_true h0];simp only[Option.bind_some,Bool.true_and];cases decide (x.Id<=(list[i-1]'(by omega)).Id)<;>cases((list.take i).any fun o=>!gH n o x)<;>rfl
     ·have e0:decide ((0:Int)<(i:Int))=false:=decide_eq_false (by omega);rw[e0,cond_false,decide_eq_false h0];simp only[Option.bind_some,cond_false,Bool.false_and,Bool.false_or];cases((list.take i).any fun o=>!gH n o x)<;>rfl
    ·rw[e];rfl) (by simp[CP]) (by omega)]
   cases dF (gB n list) list<;>rfl
  ·have e8:decide ((8:Int)<(list.length:Int))=true:=decide_eq_true (by omega);rw[e8,cond_true,decide_eq_false h8];rfl
 ·rw[hn];rfl
structure iJ(n:af)(list:List ah):Prop where
 net:bM n=true
 len:list.length<=8
 svc:∀s∈list,kT n s
 ok:∀s∈list,iZ n s=true
theorem mf{n:af}{list:List ah}(h:gL n list=true):iJ n list:=by
 unfold gL at h;simp only[Bool.and_eq_true,decide_eq_true_eq,Bool.not_eq_true'] at h;obtain⟨⟨h1,h2⟩,h3⟩:=h;have key:∀s∈list,iZ n s=true:=fun s hs=>by
  obtain⟨i,hi⟩:=List.getElem?_of_mem hs;have:=cB.1 h3 i s hi;unfold gB at this;simp only[Bool.or_eq_false_iff,Bool.not_eq_false'] at this;exact this.1.1
 exact⟨h1,h2,fun s hs=>sH h1 (key s hs),key⟩
end Vs

namespace Vs
open Go
def iz(l:List Int)(N:Int)(i:Nat)(k:Int):Bool:=!wi k 0 (N-1)||(decide (0<i)&&match l[i-1]? with|some p=>decide (k<=p)|none=>false)
def tJ(l:List Int)(N:Int):Bool:=!dF (iz l N) l
theorem Ob(l:List Int)(N:Nat)(hN:N<=1048576)(hl:l.length<=1048576):FN l (N:Int)=some (tJ l N):=by
 unfold FN tJ;rw[cW (f:=An l (N:Int)) l (iz l N) (.inr false) (.inl ()) (fun i x hx hprev=>by
  have hlt:=(List.getElem?_eq_some_iff.1 hx).1;have h1:decide ((i:Int)<l.length)=true:=by simp[hlt]
  simp only[An,h1,cond_true,aQ,hx,Option.bind_some,eQ];rw[aF (n:=(N:Int)-1) (by omega) (by omega),aF (n:=(i:Int)+1) (by omega) (by omega)];unfold iz;by_cases h0:0<i
  ·have e0:decide ((0:Int)<(i:Int))=true:=decide_eq_true (by omega);have ew:IntKind.wrap .i64 ((i:Int)-1)=((i-1:Nat):Int):=by rw[aF (by omega) (by omega)];omega
   have hg:l[i-1]?=some (l[i-1]'(by omega)):=List.getElem?_eq_getElem (by omega);rw[e0,ew,aQ,hg,decide_eq_true h0];simp only[cond_true,Option.bind_some,Bool.true_and];cases wi x 0 ((N:Int)-1)<;>cases decide (x<=l[i-1]'(by omega))<;>rfl
  ·have e0:decide ((0:Int)<(i:Int))=false:=decide_eq_false (by omega);rw[e0,decide_eq_false h0];cases wi x 0 ((N:Int)-1)<;>rfl) (by simp[An]) (by omega)]
 cases dF (iz l N) l<;>rfl
theorem wy(l:List Int)(N:Int)(hl:l.length<=1048576):KG l 0 (N-1)=some (tJ l N):=by
 unfold KG tJ;rw[cW (f:=Ax l 0 (N-1)) l (iz l N) (.inr false) (.inl ()) (fun i x hx hprev=>by
  have hlt:=(List.getElem?_eq_some_iff.1 hx).1;have h1:decide ((i:Int)<l.length)=true:=by simp[hlt]
  simp only[Ax,h1,cond_true,aQ,hx,Option.bind_some,gu];rw[aF (n:=(i:Int)+1) (by omega) (by omega)];unfold iz;by_cases h0:0<i
  ·have e0:decide ((0:Int)<(i:Int))=true:=decide_eq_true (by omega);have ew:IntKind.wrap .i64 ((i:Int)-1)=((i-1:Nat):Int):=by rw[aF (by omega) (by omega)];omega
   have hg:l[i-1]?=some (l[i-1]'(by omega)):=List.getElem?_eq_getElem (by omega);rw[e0,ew,aQ,hg,decide_eq_true h0];simp only[cond_true,Option.bind_some,Bool.true_and];cases wi x 0 (N-1)<;>cases decide (x<=l[i-1]'(by omega))<;>rfl
  ·have e0:decide ((0:Int)<(i:Int))=false:=decide_eq_false (by omega);rw[e0,decide_eq_false h0];cases wi x 0 (N-1)<;>rfl) (by simp[Ax]) (by omega)]
 cases dF (iz l N) l<;>rfl
theorem Qa{l:List Int}(h:∀(i:Nat)(a b:Int),l[i]?=some a->l[i+1]?=some b->a<b):l.Pairwise (·<·):=by
 rw[List.pairwise_iff_getElem];intro i j hi hj hij;obtain⟨d,rfl⟩:∃d,j=i+1+d:=⟨j-i-1,by omega⟩;induction d with
 |zero=>exact h i _ _ (List.getElem?_eq_getElem hi) (List.getElem?_eq_getElem hj)
 | succ d ih =>
   have h1:=ih (by omega) (by omega);have h2:=h (i+1+d) _ _ (List.getElem?_eq_getElem (by omega)) (List.getElem?_eq_getElem (by omega));have h3:l[i+1+(d+1)]'hj=l[i+1+d+1]'(by omega):=rfl;omega
theorem sk{l:List Int}{N:Int}(h:tJ l N=true):l.Pairwise (·<·)/\∀x∈l,0<=x/\x<N:=by
 unfold tJ at h;have h2:=cB.1 (by simpa using h);refine⟨Qa fun i a b ha hb=>?_,fun x hx=>?_⟩
 ·have:=h2 (i+1) b hb;unfold iz at this;simp only[Nat.add_sub_cancel,ha,Bool.or_eq_false_iff,Bool.and_eq_false_iff,decide_eq_false_iff_not] at this;omega
 ·obtain⟨i,hi⟩:=List.getElem?_of_mem hx;have:=h2 i x hi;unfold iz at this;simp only[Bool.or_eq_false_iff,Bool.not_eq_false',cG] at this;omega
theorem wI{l:List Int}(h:l.Pairwise (·<·)):l.Nodup:=h.imp fun h=>by omega
theorem Oh{l:List Int}{N:Nat}(h:tJ l N=true):l.length<=N:=by
 obtain⟨h1,h2⟩:=sk h;exact jg N l (wI h1) h2
theorem NY(x:Int)(l:List Int)(hl:l.length<=1048576):∃o,Il x l=some o/\(∀y,y∈o↔y=x\/y∈l)/\o.length<=l.length+1/\(l.Pairwise (·<·)->o.Pairwise (·<·)):=by
 obtain⟨k',k1,k,rfl,k2,k3,k4⟩:=br (f:=Cg x l) (fun s=>∃k:Nat,s=(k:Int)/\k<=l.length/\∀j y,j<k->l[j]?=some y->y<x) (fun s=>l.length-s.toNat)
  (fun o=>∃k:Nat,o=(k:Int)/\k<=l.length/\(∀j y,j<k->l[j]?=some y->y<x)/\∀y,l[k]?=some y->x<=y) (fun s hI=>by
  obtain⟨k,rfl,h1,h2⟩:=hI;by_cases hk:k<l.length
  ·have e1:decide ((k:Int)<(l.length:Int))=true:=decide_eq_true (by omega);have hg:l[k]?=some (l[k]'hk):=List.getElem?_eq_getElem hk;simp only[Cg,e1,cond_true,Int.toNat_natCast,hg];rw[aR (by omega)];simp only[Option.bind_some];by_cases hlt:l[k]'hk<x
   ·left;rw[decide_eq_true hlt,cond_true,aF (by omega) (by omega)];refine⟨_,rfl,⟨k+1,by simp,by omega,fun j y hj hy=>?_⟩,by omega⟩;by_cases c:j=k
    ·subst c;rw[hg] at hy;cases hy;exact hlt
    ·exact h2 j y (by omega) hy
   ·right;rw[decide_eq_false hlt,cond_false];exact⟨_,rfl,k,rfl,h1,h2,fun y hy=>by rw[hg] at hy;cases hy;omega⟩
  ·right;have e1:decide ((k:Int)<(l.length:Int))=false:=decide_eq_false (by omega);exact⟨_,by simp only[Cg,e1,cond_false],k,rfl,h1,h2,fun y hy=>by have:=(List.getElem?_eq_some_iff.1 hy).1;omega⟩) N0 ((0:Nat):Int) ⟨0,rfl,by omega,fun j y hj=>by omega⟩ (bZ (by simp;omega))
 unfold Il;have e0:((0:Nat):Int)=0:=rfl;rw[e0] at k1;rw[k1];simp only[Option.bind_some,Int.toNat_natCast];by_cases hc:k<l.length/\l[k]?=some x
 ·have e1:decide ((k:Int)<(l.length:Int))=true:=decide_eq_true (by omega);rw[e1,cond_true,aR (by omega),hc.2];simp only[Option.bind_some,beq_self_eq_true,cond_true];exact⟨l,rfl,fun y=>⟨.inr,fun h=>h.elim (fun e=>e▸List.mem_of_getElem? hc.2) id⟩,by omega,id⟩
 ·have hcond:(cond (decide ((k:Int)<(l.length:Int))) ((grd (0<=(k:Int)/\(k:Int)<(l.length:Int))).bind fun _=>(l[k]?).bind fun yZ9=>some (yZ9==x)) (some false):Option Bool)=some false:=by
   by_cases hk:k<l.length
   ·have hg:l[k]?=some (l[k]'hk):=List.getElem?_eq_getElem hk;rw[decide_eq_true (by omega),cond_true,aR (by omega),hg];simp only[Option.bind_some];congr 1;rw[beq_eq_false_iff_ne];intro e;exact hc ⟨hk,by rw[hg,e]⟩
   ·rw[decide_eq_false (by omega)];rfl
  rw[hcond];have ht:cK l 0 k=l.take k:=by rw[dk,List.drop_zero]
  have hd:cK l k (l.length-k)=l.drop k:=by
   rw[dk,List.take_of_length_le (by simp)]
  simp only[Option.bind_some,cond_false,and_true,true_and,ht,hd,bnd];rw[aR (by omega)];simp only[Option.bind_some];rw[aR (by simp;omega)];simp only[Option.bind_some];rw[aR (by simp;omega)];simp only[Option.bind_some];rw[aR (by simp;omega)];refine⟨l.take k++[x]++l.drop k,rfl,fun y=>?_,by simp;omega,fun hs=>?_⟩
  ·have:y∈l↔y∈l.take k\/y∈l.drop k:=by rw[<-List.mem_append,List.take_append_drop]
   rw[this];simp only[List.mem_append,List.mem_singleton];constructor
   ·rintro((h|h)|h)
    ·exact .inr (.inl h)
    ·exact .inl h
    ·exact .inr (.inr h)
   ·rintro(h|h|h)
    ·exact .inl (.inr h)
    ·exact .inl (.inl h)
    ·exact .inr h
  ·have hlow:∀y∈l.take k,y<x:=fun y hy=>by
    obtain⟨j,hj⟩:=List.getElem?_of_mem hy;rw[List.getElem?_take] at hj;split at hj
    ·rename_i hjk;exact k3 j y hjk hj
    ·cases hj
   have hhigh:∀y∈l.drop k,x<y:=fun y hy=>by
    obtain⟨j,hj⟩:=List.getElem?_of_mem hy;rw[List.getElem?_drop] at hj;obtain⟨q1,q2⟩:=List.getElem?_eq_some_iff.1 hj;have hkl:k<l.length:=by omega
    have hx2:=k4 _ (List.getElem?_eq_getElem hkl);have hne:l[k]'hkl≠x:=fun e=>hc ⟨hkl,by rw[List.getElem?_eq_getElem hkl,e]⟩;by_cases c:j=0
    ·subst c;have:l[k+0]'q1=l[k]'hkl:=rfl;omega
    ·have:=List.pairwise_iff_getElem.1 hs k (k+j) hkl q1 (by omega);omega
   rw[List.pairwise_append,List.pairwise_append];refine⟨⟨hs.sublist (List.take_sublist k l),by simp,fun a ha b hb=>?_⟩,hs.sublist (List.drop_sublist k l),fun a ha b hb=>?_⟩
   ·rw[List.mem_singleton.1 hb];exact hlow a ha
   ·rcases List.mem_append.1 ha with h|h
    ·have:=hlow a h;have:=hhigh b hb;omega
    ·rw[List.mem_singleton.1 h];exact hhigh b hb
def gt(gr:List (List Int))(failed:List Int):List Int:=failed.flatMap fun g=>(gr[g.toNat]?).getD []
theorem td{gr:List (List Int)}(h:∀g∈gr,g.length<=14):∀failed:List Int,(gt gr failed).length<=14*failed.length
 |[]=>by simp[gt]
 | g :: fs => by
   have:=td h fs;have h2:((gr[g.toNat]?).getD []).length<=14:=by
    cases hg:gr[g.toNat]? with
    |none=>simp
    |some x=>exact h x (List.mem_of_getElem? hg)
   unfold gt at this⊢;rw[List.flatMap_cons,List.length_append,List.length_cons];omega
theorem xz(n:af)(failed:List Int)(hn:n.Fibers.length<=14)(hf:∀g∈failed,0<=g/\g<((aO n).length:Int))(hl:failed.length<=1048576):EC n failed=some (gt (aO n) failed):=by
 unfold EC;rw[kJ n hn];simp only[Option.bind_some];have hgr:=ik hn;generalize aO n=gr at hgr hf;have:=cx (f:=DH failed gr) failed (fun i(a:List Int)=>((i:Int),a)) (fun _ g a=>.inl (a++(gr[g.toNat]?).getD [])) (fun a=>a) (fun i a=>a.length<=14*i) (fun i a g hx hI=>by
  have hlt:=(List.getElem?_eq_some_iff.1 hx).1;have h1:decide ((i:Int)<failed.length)=true:=by simp[hlt]
  obtain⟨q1,q2⟩:=hf g (List.mem_of_getElem? hx);have hg:gr[g.toNat]?=some (gr[g.toNat]'(by omega)):=List.getElem?_eq_getElem (by omega);have hgl:=(hgr _ (List.mem_of_getElem? hg)).1;refine .inl ⟨_,rfl,by rw[hg,List.length_append,Option.getD_some];omega,?_⟩;simp only[DH,h1,cond_true,aQ,hx,Option.bind_some,bnd,hg,Option.getD_some];rw[aR (by omega)];simp only[Option.bind_some];rw[aR (by omega),aF (by omega) (by omega)];rfl) (fun a _=>by simp[DH]) [] (Nat.le_refl 0) (by omega)
 have e0:((0:Nat):Int)=0:=rfl;simp only[e0] at this;rw[this];have gen:∀(xs:List Int)(i:Nat)(a:List Int),bL (fun(_:Nat)(g:Int)(a:List Int)=>(.inl (a++(gr[g.toNat]?).getD []):List Int⊕List Int)) (fun a=>a) i xs a=a++gt gr xs:=by
  intro xs;induction xs with
  |nil=>intro i a;simp[bL,gt]
  |cons x xs ih=>intro i a;simp only[bL];rw[ih];simp[gt]
 rw[gen];rfl
theorem uo(n:af)(failed:List Int)(hn:n.Fibers.length<=14)(hf:∀g∈failed,0<=g/\g<((aO n).length:Int))(hl:failed.length<=1000):∃o,Ic n failed=some o/\(∀y,y∈o↔y∈gt (aO n) failed)/\o.length<=1048576:=by
 unfold Ic;rw[kf n hn];simp only[Option.bind_some];have hgr:=ik hn;generalize aO n=gr at hgr hf;obtain⟨o,o1,o2,o3⟩:=br (f:=Bz failed gr) (fun s=>∃(i:Nat)(a:List Int),s=((i:Int),a)/\i<=failed.length/\a.length<=14*i/\∀y,y∈a↔y∈gt gr (failed.take i)) (fun s=>failed.length-s.1.toNat)
  (fun o=>(∀y,y∈o↔y∈gt gr failed)/\o.length<=1048576) (fun s hI=>by
  obtain⟨i,a,rfl,i1,i2,i3⟩:=hI;by_cases hi:i<failed.length
  ·left;have h1:decide ((i:Int)<failed.length)=true:=by simp[hi]
   have hx:failed[i]?=some (failed[i]'hi):=List.getElem?_eq_getElem hi;obtain⟨q1,q2⟩:=hf _ (List.mem_of_getElem? hx);have hg:gr[(failed[i]'hi).toNat]?=some (gr[(failed[i]'hi).toNat]'(by omega)):=List.getElem?_eq_getElem (by omega);have hgl:=(hgr _ (List.mem_of_getElem? hg)).1;generalize hgg:gr[(failed[i]'hi).toNat]'(by omega)=g at hg hgl;obtain⟨b,b1,b2,b3⟩:=br (f:=M_v failed gr ((i:Int),a)) (fun s=>∃(j:Nat)(c:List Int),s=((j:Int),c)/\j<=g.length/\c.length<=14*i+j/\∀y,y∈c↔y∈a\/y∈g.take j) (fun s=>g.length-s.1.toNat)
    (fun c=>c.length<=14*i+g.length/\∀y,y∈c↔y∈a\/y∈g) (fun s hJ=>by
    obtain⟨j,c,rfl,j1,j2,j3⟩:=hJ;by_cases hj:j<g.length
    ·left;have e1:decide ((j:Int)<(g.length:Int))=true:=decide_eq_true (by omega);have hy:g[j]?=some (g[j]'hj):=List.getElem?_eq_getElem hj;obtain⟨p,p1,p2,p3,_⟩:=NY (g[j]'hj) c (by omega);simp only[M_v,aQ,hx,Option.bind_some,hg];rw[aR (by omega)];simp only[Option.bind_some,e1,cond_true,hy,p1];rw[aF (by omega) (by omega)];refine⟨_,rfl,⟨j+1,p,by simp,by omega,by omega,fun y=>?_⟩,by simp only[];omega⟩;rw[p2,j3,List.take_add_one,hy];simp only[Option.toList_some,List.mem_append,List.mem_singleton];constructor
     ·rintro(h|h|h)
      ·exact .inr (.inr h)
      ·exact .inl h
      ·exact .inr (.inl h)
     ·rintro(h|h|h)
      ·exact .inr (.inl h)
      ·exact .inr (.inr h)
      ·exact .inl h
    ·right;have e1:decide ((j:Int)<(g.length:Int))=false:=decide_eq_false (by omega);refine⟨c,?_,by omega,fun y=>?_⟩
     ·simp only[M_v,aQ,hx,Option.bind_some,hg];rw[aR (by omega)];simp only[Option.bind_some,e1,cond_false]
     ·rw[j3,show j=g.length by omega,List.take_length]) N0 (((0:Nat):Int),a) ⟨0,a,rfl,by omega,by omega,fun y=>by simp⟩ (bZ (by simp;omega))
   have e0:((0:Nat):Int)=0:=rfl;rw[e0] at b1;simp only[Bz,h1,cond_true,b1,Option.bind_some];rw[aF (by omega) (by omega)];refine⟨_,rfl,⟨i+1,b,by simp,by omega,by omega,fun y=>?_⟩,by simp only[];omega⟩;rw[b3,i3,List.take_add_one,hx];unfold gt;simp only[Option.toList_some,List.flatMap_append,List.mem_append,List.flatMap_cons,List.flatMap_nil,List.append_nil,hg,Option.getD_some]
  ·right;have h1:decide ((i:Int)<failed.length)=false:=decide_eq_false (by omega);refine⟨a,by simp only[Bz,h1,cond_false],fun y=>?_,by omega⟩;rw[i3,show i=failed.length by omega,List.take_length]) N0 (((0:Nat):Int),[]) ⟨0,[],rfl,by omega,by simp,fun y=>by simp[gt]⟩ (bZ (by simp;omega))
 have e0:((0:Nat):Int)=0:=rfl;rw[e0] at o1;rw[o1];exact⟨o,rfl,o2,o3⟩
end Vs

namespace Vs
open Go
def qz(list:List ah)(out:List Int)(s:ah):Bool:=(list.zip out).any fun p=>p.2==1&&cm s.Spare s.SpareBlock p.1.Spare p.1.SpareBlock
def stP(bE:List Int)(list:List ah)(out:List Int)(s:ah):Int:=
 if !fB s.Work.Fibers bE then(if s.Class=0\/fB s.Spare.Fibers bE=false then 3 else if qz list out s then 3 else 1)
 else if !fB s.Spare.Fibers bE then 2 else 0
def ji(bE:List Int)(list:List ah):List Int:=bL (fun(_:Nat) s(out:List Int)=>(.inl (out++[stP bE list out s]):List Int⊕List Int)) (fun o=>o) 0 list []
theorem nM{a g1 g2:List Int}(h:∀y,y∈g1↔y∈g2):fB a g1=fB a g2:=by
 unfold fB;have:(fun x=>decide (x∈g1))=fun x=>decide (x∈g2):=by funext x;rw[Bool.eq_iff_iff];simp[h x]
 rw[this]
theorem vQ{g1 g2:List Int}(h:∀y,y∈g1↔y∈g2)(list:List ah):ji g1 list=ji g2 list:=by
 unfold ji;have:stP g1=stP g2:=by funext l o s;unfold stP;rw[nM h,nM h]
 rw[this]
theorem uE(g:List Int->ah->Int):∀(xs:List ah)(i:Nat)(a:List Int),(bL (fun(_:Nat) s(out:List Int)=>(.inl (out++[g out s]):List Int⊕List Int)) (fun o=>o) i xs a).length=a.length+xs.length
 |[],_,a=>by simp[bL]
 |x::xs,i,a=>by simp only[bL];rw[uE g xs];simp;omega
theorem ug(bE:List Int)(list:List ah):(ji bE list).length=list.length:=by
 unfold ji;rw[uE];simp
theorem sW{α β:Type}:∀(out:List β)(list:List α)(x:α)(c:β),list[out.length]?=some x->list.zip (out++[c])=list.zip out++[(x,c)]
 |[],[],x,c,h=>by simp at h
 |[],y::ys,x,c,h=>by simp at h;subst h;simp
 |o::out,[],x,c,h=>by simp at h
 | o :: out, y :: ys, x, c, h => by
   simp only[List.cons_append,List.zip_cons_cons];rw[sW out ys x c (by simpa using h)]
def ge(list:List ah)(out:List Int):List ah:=((list.zip out).filter fun p=>p.2==1).map (·.1)
theorem BB{list:List ah}{out:List Int}{x:ah}(c:Int)(h:list[out.length]?=some x):ge list (out++[c])=ge list out++if c=1 then [x] else []:=by
 unfold ge;rw[sW out list x c h,List.filter_append,List.map_append];congr 1;by_cases e:c=1
 ·simp[e]
 ·simp[e]
theorem AA(list:List ah)(out:List Int)(s:ah):((ge list out).any fun o=>cm o.Spare o.SpareBlock s.Spare s.SpareBlock)=qz list out s:=by
 unfold ge qz;rw[List.any_map,List.any_filter];congr 1;funext p;simp only[Function.comp,vV p.1.Spare]
theorem HI{list:List ah}{out:List Int}{x:ah}(h:x∈ge list out):x∈list:=by
 unfold ge at h;obtain⟨p,hp,rfl⟩:=List.mem_map.1 h;exact(List.of_mem_zip (List.mem_filter.1 hp).1).1
theorem Fo(list:List ah)(out:List Int):(ge list out).length<=list.length:=by
 unfold ge;rw[List.length_map];have:=List.length_filter_le (fun p:ah×Int=>p.2==1) (list.zip out);rw[List.length_zip] at this;omega
theorem wG(n:af)(list:List ah)(failed:List Int)(hs:iJ n list)(hf:∀g∈failed,0<=g/\g<((aO n).length:Int))(hl:failed.length<=1000):Mg n list failed=some (ji (gt (aO n) failed) list):=by
 have hn:=(df hs.net).2.2;have h8:=hs.len;have hgl:=td (fun g hg=>(ik hn g hg).1) failed;unfold Mg;rw[xz n failed hn hf (by omega)];simp only[Option.bind_some];generalize gt (aO n) failed=bE at hgl;have:=cx (f:=M_m list bE) list (fun i(out:List Int)=>((i:Int),out,ge list out)) (fun _ s out=>.inl (out++[stP bE list out s])) (fun o=>o) (fun i out=>out.length=i) (fun i out x hx hI=>by
  have hlt:=(List.getElem?_eq_some_iff.1 hx).1;have h1:decide ((i:Int)<list.length)=true:=by simp[hlt]
  have hin:=hs.svc x (List.mem_of_getElem? hx);have hul:=Fo list out;refine .inl ⟨_,rfl,by simp[hI],?_⟩;obtain⟨a,a1,_,a3⟩:=lz x.Work.Fibers bE hin.wr.len (by omega);obtain⟨b,b1,_,b3⟩:=lz x.Spare.Fibers bE hin.sr.len (by omega);have hcf:rE (ge list out) (fun x0=>JQ x0 x)=some (qz list out x):=by
   rw[<-AA];exact So _ _ _ (fun o ho=>by
    have ho2:=hs.svc o (HI ho);have:=hin.sr.len;unfold JQ;rw[gC o.Spare o.SpareBlock x.Spare x.SpareBlock ho2.sr.len (by omega) ho2.sb hin.sb];rfl) (by omega)
  have hus:=fun c=>BB (list:=list) (out:=out) (x:=x) c (by rw[hI];exact hx);simp only[M_m,h1,cond_true,aQ,hx,Option.bind_some,a1,b1,wR a3,wR b3,Bool.not_not,bnd,hus,hcf];rw[aF (n:=(i:Int)+1) (by omega) (by omega)];have hg1:grd ((out.length+1)*8<=140737488355328)=some ():=aR (by omega);have hg2:grd (((ge list out).length+1)*112<=140737488355328)=some ():=aR (by omega);simp only[hg1,hg2,Option.bind_some];unfold stP;by_cases hc:x.Class=0
  ·have e1:(x.Class !=0)=false:=by simp[hc]
   simp only[e1,hc,cond_false,true_or,if_true];cases fB x.Work.Fibers bE<;>cases fB x.Spare.Fibers bE<;>simp
  ·have e1:(x.Class !=0)=true:=by simp[hc]
   simp only[e1,hc,cond_true,false_or];cases fB x.Work.Fibers bE<;>cases fB x.Spare.Fibers bE<;>cases qz list out x<;>simp) (fun o _=>by simp[M_m]) [] rfl (by omega)
 have e0:((0:Nat):Int)=0:=rfl;have e1:ge list []=[]:=by unfold ge;simp
 simp only[e0,e1] at this;rw[this];rfl
theorem BA(n:af)(list:List ah)(out:List Int)(x:ah)(i:Nat)(hs:iJ n list)(hx:list[i]?=some x)(hI:out.length=i):bl (M_y list ((i:Int),out) x) N0 (1,0)=some (if qz list out x then 3 else 1):=by
 have h8:=hs.len;have hlt:=(List.getElem?_eq_some_iff.1 hx).1;have hin:=hs.svc x (List.mem_of_getElem? hx);have:=iy (f:=M_y list ((i:Int),out) x) (list.zip out) (fun k(a:Int)=>(a,(k:Int))) (fun _ p a=>if p.2==1&&cm x.Spare x.SpareBlock p.1.Spare p.1.SpareBlock then 3 else a) id (fun _ _=>True) (fun k a p hp _=>by
  obtain⟨y,c⟩:=p;rw[List.getElem?_zip_eq_some] at hp;obtain⟨hy,hc⟩:=hp;have hk:=(List.getElem?_eq_some_iff.1 hc).1;have hy2:=hs.svc y (List.mem_of_getElem? hy);have q1:=hin.sr.len;have q2:=hy2.sr.len;have h1:decide ((k:Int)<(i:Int))=true:=decide_eq_true (by omega);refine⟨trivial,?_⟩;simp only[M_y,h1,cond_true,Int.toNat_natCast,hc,aQ,hy];rw[aR (by omega),aF (n:=(k:Int)+1) (by omega) (by omega)];simp only[Option.bind_some,dq x.Spare x.SpareBlock y.Spare y.SpareBlock (by omega) (by omega) hin.sb hy2.sb];cases c==1<;>cases cm x.Spare x.SpareBlock y.Spare y.SpareBlock<;>rfl) (fun a _=>by
   have h1:decide ((((list.zip out).length:Nat):Int)<(i:Int))=false:=decide_eq_false (by rw[List.length_zip];omega);simp only[M_y,h1,cond_false,id]) 1 trivial (by rw[List.length_zip];omega)
 have e0:((0:Nat):Int)=0:=rfl;simp only[e0] at this;rw[this];have gen:∀(ps:List (ah×Int))(k:Nat)(a:Int),fq (fun(_:Nat)(p:ah×Int)(a:Int)=>if p.2==1&&cm x.Spare x.SpareBlock p.1.Spare p.1.SpareBlock then 3 else a) k ps a=if ps.any (fun p=>p.2==1&&cm x.Spare x.SpareBlock p.1.Spare p.1.SpareBlock) then 3 else a:=by
  intro ps;induction ps with
  |nil=>intro k a;simp[fq]
  | cons p ps ih =>
    intro k a;simp only[fq];rw[ih,List.any_cons];cases(p.2==1&&cm x.Spare x.SpareBlock p.1.Spare p.1.SpareBlock)<;>cases(ps.any fun p=>p.2==1&&cm x.Spare x.SpareBlock p.1.Spare p.1.SpareBlock)<;>simp
 rw[gen];rfl
theorem tQ(n:af)(list:List ah)(failed:List Int)(hs:iJ n list)(hf:∀g∈failed,0<=g/\g<((aO n).length:Int))(hl:failed.length<=1000):Ks n list failed=some (ji (gt (aO n) failed) list):=by
 have hn:=(df hs.net).2.2;have h8:=hs.len;unfold Ks;obtain⟨o,o1,o2,o3⟩:=uo n failed hn hf hl;rw[o1,<-vQ o2 list];simp only[Option.bind_some];have:=cx (f:=DK list o) list (fun i(out:List Int)=>((i:Int),out)) (fun _ s out=>.inl (out++[stP o list out s])) (fun o=>o) (fun i out=>out.length=i) (fun i out x hx hI=>by
  have hlt:=(List.getElem?_eq_some_iff.1 hx).1;have h1:decide ((i:Int)<list.length)=true:=by simp[hlt]
  have hin:=hs.svc x (List.mem_of_getElem? hx);have q1:=hin.wr.len;have q2:=hin.sr.len;refine .inl ⟨_,rfl,by simp[hI],?_⟩;have hg1:grd ((out.length+1)*8<=140737488355328)=some ():=aR (by omega);simp only[DK,h1,cond_true,aQ,hx,Option.bind_some,oB x.Work o (by omega) o3,oB x.Spare o (by omega) o3,bnd,hg1,BA n list out x i hs hx hI];rw[aF (n:=(i:Int)+1) (by omega) (by omega)];unfold stP;by_cases hc:x.Class=0
  ·have e1:(x.Class==0)=true:=by simp[hc]
   simp only[e1,hc,cond_true,true_or,if_true];cases fB x.Work.Fibers o<;>cases fB x.Spare.Fibers o<;>simp
  ·have e1:(x.Class==0)=false:=by simp[hc]
   simp only[e1,hc,cond_false,false_or];cases fB x.Work.Fibers o<;>cases fB x.Spare.Fibers o<;>simp) (fun o _=>by simp[DK]) [] rfl (by omega)
 have e0:((0:Nat):Int)=0:=rfl;simp only[e0] at this;rw[this];rfl
def mV(n:af)(list:List ah)(failed:List Int):Bool:=gL n list&&tJ failed (aO n).length
theorem oK{n:af}{list:List ah}{failed:List Int}(h:mV n list failed=true):iJ n list/\(∀g∈failed,0<=g/\g<((aO n).length:Int))/\failed.length<=23:=by
 obtain⟨h1,h2⟩:=Bool.and_eq_true_iff.1 h;have hs:=mf h1;have:=dA n (df hs.net).2.2;have:=Oh h2;exact⟨hs,(sk h2).2,by omega⟩
theorem mp(n:af)(list:List ah)(failed:List Int)(hz:bH n<=1048576)(hl:bQ list<=1048576)(hf:failed.length<=1048576):Dd n list failed=some (mV n list failed):=by
 unfold Dd mV;rw[gg n list hz hl];simp only[Option.bind_some];rcases bt (gL n list) with e|e
 ·have hn:=(df (mf e).net).2.2;have:=dA n hn;rw[e,cond_true,kJ n hn];simp only[Option.bind_some];rw[Ob failed (aO n).length (by omega) hf];rfl
 ·rw[e];rfl
theorem xL(n:af)(list:List ah)(failed:List Int)(hz:bH n<=1048576)(hl:bQ list<=1048576)(hf:failed.length<=1048576):JC n list failed=some (mV n list failed):=by
 unfold JC mV;rw[lH n list hz hl];simp only[Option.bind_some];rcases bt (gL n list) with e|e
 ·have hn:=(df (mf e).net).2.2;have:=dA n hn;rw[e,cond_true,kf n hn];simp only[Option.bind_some];rw[aF (by omega) (by omega),wy failed _ hf];rfl
 ·rw[e];rfl
end Vs

namespace Vs
open Go
def hY(list:List ah)(rates:List Int):Bool:=decide (rates.length=list.length)&&!rates.any fun r=>!wi r 1 1000
theorem Wa(xs:List Int)(f:Int->Option Bool)(p:Int->Bool)(hf:∀x,f x=some (p x))(hl:xs.length<=1048576):Jg xs f=some (xs.any p):=by
 unfold Jg Om;rw[dC (f:=Cq xs f) xs (fun _ x=>p x) (fun i _=>(i:Int)) () (fun i x hx _=>by
  have hlt:=(List.getElem?_eq_some_iff.1 hx).1;have h1:decide ((i:Int)<xs.length)=true:=by simp[hlt]
  simp only[Cq,h1,cond_true,aQ,hx,hf,Option.bind_some];rw[aF (by omega) (by omega)];cases p x<;>rfl) (by simp[Cq]) (by omega)]
 rw[<-nv];cases e:dG (fun _ x=>p x) xs with
 | none =>
   have h:dF (fun _ x=>p x) xs=false:=cB.2 (eu.1 e);rw[h];rfl
 | some q =>
   obtain⟨i,x⟩:=q;obtain⟨h1,h2,_⟩:=dm.1 e;have h:dF (fun _ x=>p x) xs=true:=eR.2 ⟨i,x,h1,h2⟩;rw[h];simp
theorem yK(a b:Nat):((a:Int)==(b:Int))=decide (a=b):=by
 rw[Bool.eq_iff_iff];simp;omega
theorem kx(list:List ah)(rates:List Int)(hl:rates.length<=1048576):xw list rates=some (hY list rates):=by
 unfold xw hY;rw[yK,Wa rates EA (fun r=>!wi r 1 1000) (fun r=>by unfold EA;rw[eQ];rfl) hl];cases decide (rates.length=list.length)<;>rfl
theorem pp(list:List ah)(rates:List Int)(hl:rates.length<=1048576):DL list rates=some (hY list rates):=by
 unfold DL hY;rw[fm (f:=Cf rates) rates (fun r=>!wi r 1 1000) (.inr false) (.inl ()) (fun i x hx=>by
  have hlt:=(List.getElem?_eq_some_iff.1 hx).1;have h1:decide ((i:Int)<rates.length)=true:=by simp[hlt]
  simp only[Cf,h1,cond_true,aQ,hx,Option.bind_some,gu];rw[aF (by omega) (by omega)];cases wi x 1 1000<;>rfl) (by simp[Cf]) (by omega)]
 cases(rates.any fun r=>!wi r 1 1000)<;>simp[yK]
def LM(rates st:List Int):Int:=fq (fun(_:Nat)(p:Int×Int)(a:Int)=>if p.2==3 then IntKind.wrap .i64 (a+p.1) else a) 0 (rates.zip st) 0
theorem ri{f:Int×Int->Option ((Int×Int)⊕Int)}(rates st:List Int)(hlen:rates.length=st.length)(hl:st.length<=1048576)
 (h1:∀(i:Nat) y c(a:Int),rates[i]?=some y->st[i]?=some c->f (a,(i:Int))=some (.inl (if c==3 then IntKind.wrap .i64 (a+y) else a,((i+1:Nat):Int))))
 (h2:∀a,f (a,(st.length:Int))=some (.inr a)):bl f N0 (0,0)=some (LM rates st):=by
 have hz:(rates.zip st).length=st.length:=by rw[List.length_zip];omega
 exact iy (f:=f) (rates.zip st) (fun i(a:Int)=>(a,(i:Int))) (fun _ p a=>if p.2==3 then IntKind.wrap .i64 (a+p.1) else a) (fun a=>a) (fun _ _=>True) (fun i a p hp _=>by
  obtain⟨y,c⟩:=p;rw[List.getElem?_zip_eq_some] at hp;exact⟨trivial,h1 i y c a hp.1 hp.2⟩) (fun a _=>by rw[hz];exact h2 a) 0 trivial (by omega)
def bA(n:af)(list:List ah)(rates failed:List Int):Int:=LM rates (ji (gt (aO n) failed) list)
theorem iq{list:List ah}{rates:List Int}(h:hY list rates=true):rates.length=list.length:=by
 unfold hY at h;exact of_decide_eq_true (Bool.and_eq_true_iff.1 h).1
theorem kC(n:af)(list:List ah)(rates failed:List Int)(hs:iJ n list)(hf:∀g∈failed,0<=g/\g<((aO n).length:Int))(hl:failed.length<=1000)(hr:rates.length=list.length):tf n list rates failed=some (bA n list rates failed):=by
 have h8:=hs.len;have hsl:=ug (gt (aO n) failed) list;unfold tf bA;rw[wG n list failed hs hf hl];simp only[Option.bind_some];generalize ji (gt (aO n) failed) list=st at hsl;rw[ri (f:=Bw rates st) rates st (by omega) (by omega) (fun i y c a hy hc=>by
  have hlt:=(List.getElem?_eq_some_iff.1 hc).1;have h1:decide ((i:Int)<st.length)=true:=by simp[hlt]
  simp only[Bw,h1,cond_true,Int.toNat_natCast,hc,aQ,hy];rw[aR (by omega),aF (n:=(i:Int)+1) (by omega) (by omega)];simp only[Option.bind_some];cases c==3<;>rfl) (fun a=>by simp[Bw])]
 rfl
theorem lF(n:af)(list:List ah)(rates failed:List Int)(hs:iJ n list)(hf:∀g∈failed,0<=g/\g<((aO n).length:Int))(hl:failed.length<=1000)(hr:rates.length=list.length):wv n list rates failed=some (bA n list rates failed):=by
 have h8:=hs.len;have hsl:=ug (gt (aO n) failed) list;unfold wv bA;rw[tQ n list failed hs hf hl];simp only[Option.bind_some];generalize ji (gt (aO n) failed) list=st at hsl;rw[ri (f:=Bd list rates st) rates st (by omega) (by omega) (fun i y c a hy hc=>by
  have hlt:=(List.getElem?_eq_some_iff.1 hc).1;have h1:decide ((i:Int)<list.length)=true:=decide_eq_true (by omega);simp only[Bd,h1,cond_true,Int.toNat_natCast,hc,aQ,hy];rw[aR (by omega),aF (n:=(i:Int)+1) (by omega) (by omega)];simp only[Option.bind_some];cases c==3<;>rfl) (fun a=>by simp[Bd,hsl])]
 rfl
def lrP(n:af)(list:List ah)(rates failed:List Int):Int×Bool:=if mV n list failed&&hY list rates then(bA n list rates failed,true) else(0,false)
theorem mW(n:af)(list:List ah)(rates failed:List Int)(hz:bH n<=1048576)(hl:bQ list<=1048576)(hr:eX rates<=1048576)(hf:eX failed<=1048576):Dw n list rates failed=some (lrP n list rates failed):=by
 unfold Dw lrP;rw[mp n list failed hz hl hf,kx list rates hr];simp only[Option.bind_some];rcases bt (mV n list failed) with e|e
 ·obtain⟨h1,h2,h3⟩:=oK e;rcases bt (hY list rates) with e2|e2
  ·simp only[e,e2,Bool.not_true,cond_false,Option.bind_some,kC n list rates failed h1 h2 (by omega) (iq e2),Bool.and_self,if_true]
  ·simp[e,e2]
 ·simp[e]
end Vs

namespace Vs
open Go
def pJ{A:Type}(g:Nat->A->A):Nat->Nat->A->A
 |0,_,a=>a
 |m+1,j,a=>pJ g m (j+1) (g j a)
theorem jy{A S B:Type}{f:S->Option (S⊕B)}(st:Nat->A->S)(g:Nat->A->A)(fin:A->B)(K:Nat)(h1:∀j a,j<K->f (st j a)=some (.inl (st (j+1) (g j a))))(h2:∀a,f (st K a)=some (.inr (fin a))):
 ∀(m j:Nat)(a:A)(N:Nat),j+m=K->m<N->bl f N (st j a)=some (fin (pJ g m j a))
 |0,j,a,0,_,h=>by omega
 | 0, j, a, N + 1, hj, _ => by
   have:j=K:=by omega
   subst this;simp[bl,h2,pJ]
 |m+1,j,a,0,_,h=>by omega
 | m + 1, j, a, N + 1, hj, h => by
   simp only[bl,h1 j a (by omega),pJ];exact jy st g fin K h1 h2 m (j+1) (g j a) N (by omega) (by omega)
def wpS(n:af)(list:List ah)(rates:List Int)(i j:Nat)(s:Int×Int×Int):Int×Int×Int:=
 if s.2.2<bA n list rates [(i:Int),(j:Int)] then((i:Int),(j:Int),bA n list rates [(i:Int),(j:Int)]) else s
def wpI(n:af)(list:List ah)(rates:List Int)(K i:Nat)(s:Int×Int×Int):Int×Int×Int:=pJ (wpS n list rates i) (K-(i+1)) (i+1) s
def wpF(n:af)(list:List ah)(rates:List Int)(K:Nat):Int×Int×Int:=pJ (wpI n list rates K) K 0 (0,0,-1)
def wpP(n:af)(list:List ah)(rates:List Int):Int×Int×Int×Bool:=
 if gL n list&&hY list rates then
  (if(wpF n list rates (aO n).length).2.2<0 then(0,0,0,false) else((wpF n list rates (aO n).length).1,(wpF n list rates (aO n).length).2.1,(wpF n list rates (aO n).length).2.2,true))
 else(0,0,0,false)
theorem lT(n:af)(list:List ah)(rates:List Int)(hz:bH n<=1048576)(hl:bQ list<=1048576)(hr:eX rates<=1048576):JW n list rates=some (wpP n list rates):=by
 unfold JW wpP;rw[lH n list hz hl,pp list rates hr];simp only[Option.bind_some];rcases bt (gL n list) with e|e
 ·rcases bt (hY list rates) with e2|e2
  ·have hs:=mf e;have hn:=(df hs.net).2.2;have hK:=dA n hn;simp only[e,e2,Bool.not_true,cond_false,Option.bind_some,kf n hn,Bool.and_self,if_true];have inner:∀(i:Nat)(s:Int×Int×Int),i<(aO n).length->bl (M_u n list rates (aO n) (s.1,s.2.1,s.2.2,(i:Int))) N0 (s.1,s.2.1,s.2.2,((i+1:Nat):Int))=some (wpI n list rates (aO n).length i s):=fun i s hi=>by
    have:=jy (f:=M_u n list rates (aO n) (s.1,s.2.1,s.2.2,(i:Int))) (fun j(a:Int×Int×Int)=>(a.1,a.2.1,a.2.2,(j:Int))) (wpS n list rates i) (fun a=>(a.1,a.2.1,a.2.2)) (aO n).length (fun j a hj=>by
     have h1:decide ((j:Int)<((aO n).length:Int))=true:=decide_eq_true (by omega);have hlost:=lF n list rates [(i:Int),(j:Int)] hs (fun g hg=>by
      simp only[List.mem_cons,List.not_mem_nil,or_false] at hg;omega) (by simp) (iq e2)
     simp only[M_u,h1,cond_true,bnd,hlost,Option.bind_some];rw[aF (n:=(j:Int)+1) (by omega) (by omega)];unfold wpS;by_cases c:a.2.2<bA n list rates [(i:Int),(j:Int)]
     ·rw[decide_eq_true c,if_pos c];rfl
     ·rw[decide_eq_false c,if_neg c];rfl) (fun a=>by simp[M_u]) ((aO n).length-(i+1)) (i+1) s N0 (by omega) (bZ (by omega))
    exact this
   have outer:=jy (f:=Cc n list rates (aO n)) (fun i(a:Int×Int×Int)=>(a.1,a.2.1,a.2.2,(i:Int))) (wpI n list rates (aO n).length) (fun a=>(a.1,a.2.1,a.2.2)) (aO n).length (fun i a hi=>by
    have h1:decide ((i:Int)<((aO n).length:Int))=true:=decide_eq_true (by omega);have e1:IntKind.wrap .i64 ((i:Int)+1)=((i+1:Nat):Int):=by rw[aF (by omega) (by omega)];rfl
    simp only[Cc,h1,cond_true,e1,inner i a hi,Option.bind_some]) (fun a=>by simp[Cc]) (aO n).length 0 (0,0,-1) N0 (by omega) (bZ (by omega))
   have e0:((0:Nat):Int)=0:=rfl;simp only[e0] at outer;rw[outer];simp only[Option.bind_some];unfold wpF;by_cases c:(pJ (wpI n list rates (aO n).length) (aO n).length 0 (0,0,-1)).2.2<0
   ·rw[decide_eq_true c,if_pos c];rfl
   ·rw[decide_eq_false c,if_neg c];rfl
  ·simp[e,e2]
 ·simp[e]
theorem UU(n:af)(list:List ah)(rates:List Int)(i j:Nat)(s:Int×Int×Int)(hs:iJ n list)(hi:i<(aO n).length)(hj:j<(aO n).length)(hr:rates.length=list.length):
 Hu [(i:Int),(j:Int)] n list rates s.2.2 s.1 s.2.1=some (false,n,list,rates,(wpS n list rates i j s).2.2,(wpS n list rates i j s).1,(wpS n list rates i j s).2.1):=by
 have hlost:=kC n list rates [(i:Int),(j:Int)] hs (fun g hg=>by
  simp only[List.mem_cons,List.not_mem_nil,or_false] at hg;omega) (by simp) hr
 have g0:bu [(i:Int),(j:Int)] 0=some (i:Int):=rfl;have g1:bu [(i:Int),(j:Int)] 1=some (j:Int):=rfl;unfold Hu wpS;simp only[hlost,Option.bind_some,g0,g1];by_cases c:s.2.2<bA n list rates [(i:Int),(j:Int)]
 ·rw[decide_eq_true c,if_pos c];rfl
 ·rw[decide_eq_false c,if_neg c];rfl
theorem Vx(n:af)(list:List ah)(rates:List Int)(i:Nat)(s:Int×Int×Int)(hs:iJ n list)(hi:i<(aO n).length)(hr:rates.length=list.length):
 nD N0 ((i + 1 : Nat) : Int) ((aO n).length : Int) 1 [(i : Int)] n list rates s.1 s.2.1 s.2.2 =
   some (false,n,list,rates,(wpI n list rates (aO n).length i s).1,(wpI n list rates (aO n).length i s).2.1,(wpI n list rates (aO n).length i s).2.2):=by
 have hK:=dA n (df hs.net).2.2;have hN:N0=(N0-2+1)+1:=by unfold N0;omega
 have e1:nD N0=tt (nD (N0-2+1)):=by rw[hN];rfl
 rw[e1];unfold tt;have c1:((1:Int)==0)=false:=rfl;rw[c1,cond_false];have this:=jy (f:=BM ((aO n).length:Int) 1 [(i:Int)] (nD (N0-2+1))) (fun j(a:Int×Int×Int)=>((j:Int),n,list,rates,a.1,a.2.1,a.2.2)) (wpS n list rates i) (fun a=>.inl (n,list,rates,a.1,a.2.1,a.2.2)) (aO n).length (fun j a hj=>by
  have h1:decide ((j:Int)<((aO n).length:Int))=true:=decide_eq_true (by omega);have hsl:slT [(i:Int)] (([(i:Int)].length:Nat):Int)=some [(i:Int)]:=rfl;have e2:IntKind.wrap .i64 ((1:Int)-1)=0:=rfl;have e3:nD (N0-2+1)=tt (nD (N0-2)):=rfl;have hg:grd (([(i:Int)].length+1)*8<=140737488355328)=some ():=aR (by simp);simp only[BM,h1,cond_true,hsl,Option.bind_some,bnd,hg,e2,e3];have hB:∀q,tt (nD (N0-2)) q ((aO n).length:Int) 0 ([(i:Int)]++[(j:Int)]) n list rates a.1 a.2.1 a.2.2=some (false,n,list,rates,(wpS n list rates i j a).1,(wpS n list rates i j a).2.1,(wpS n list rates i j a).2.2):=fun q=>by
   unfold tt;have c0:((0:Int)==0)=true:=rfl;rw[c0,cond_true];have:=UU n list rates i j a hs hi hj hr;simp only[List.cons_append,List.nil_append,this,Option.bind_some]
  rw[hB];simp only[Option.bind_some,cond_false];rw[aF (n:=(j:Int)+1) (by omega) (by omega)];rfl) (fun a=>by simp[BM]) ((aO n).length-(i+1)) (i+1) s N0 (by omega) (bZ (by omega))
 rw[this];rfl
theorem lR(n:af)(list:List ah)(rates:List Int)(hz:bH n<=1048576)(hl:bQ list<=1048576)(hr:eX rates<=1048576):GP n list rates=some (wpP n list rates):=by
 unfold GP wpP;rw[gg n list hz hl,kx list rates hr];simp only[Option.bind_some];rcases bt (gL n list) with e|e
 ·rcases bt (hY list rates) with e2|e2
  ·have hs:=mf e;have hn:=(df hs.net).2.2;have hK:=dA n hn;simp only[e,e2,Bool.not_true,cond_false,Option.bind_some,kJ n hn,Bool.and_self,if_true];have hM1:IJ 0 ((aO n).length:Int) 2 [] n list rates 0 0 (-1)=some (false,n,list,rates,(wpF n list rates (aO n).length).1,(wpF n list rates (aO n).length).2.1,(wpF n list rates (aO n).length).2.2):=by
    unfold IJ;have c1:((2:Int)==0)=false:=rfl;rw[c1,cond_false];have this:=jy (f:=Du ((aO n).length:Int) 2 []) (fun j(a:Int×Int×Int)=>((j:Int),n,list,rates,a.1,a.2.1,a.2.2)) (wpI n list rates (aO n).length) (fun a=>.inl (n,list,rates,a.1,a.2.1,a.2.2)) (aO n).length (fun i a hi=>by
     have h1:decide ((i:Int)<((aO n).length:Int))=true:=decide_eq_true (by omega);have hsl:slT ([]:List Int) ((([]:List Int).length:Nat):Int)=some []:=rfl;have e2':IntKind.wrap .i64 ((2:Int)-1)=1:=rfl;have e1:IntKind.wrap .i64 ((i:Int)+1)=((i+1:Nat):Int):=by rw[aF (by omega) (by omega)];rfl
     have hg:grd ((([]:List Int).length+1)*8<=140737488355328)=some ():=aR (by decide);simp only[Du,h1,cond_true,hsl,Option.bind_some,bnd,hg,e2',e1,List.nil_append,Vx n list rates i a hs hi (iq e2),cond_false]) (fun a=>by simp[Du]) (aO n).length 0 (0,0,-1) N0 (by omega) (bZ (by omega))
    have e0:((0:Nat):Int)=0:=rfl;simp only[e0] at this;rw[this];rfl
   rw[hM1];simp only[Option.bind_some];by_cases c:(wpF n list rates (aO n).length).2.2<0
   ·rw[decide_eq_true c,if_pos c];rfl
   ·rw[decide_eq_false c,if_neg c];rfl
  ·simp[e,e2]
 ·simp[e]
end Vs

namespace Vs
open Go
theorem za{α:Type}(xs:List α)(k:Nat):cK xs 0 k=xs.take k:=by
 rw[dk];simp
theorem yr{α:Type}{xs ys:List α}{i:Nat}(h:i+ys.length<=xs.length):(dx xs i ys).take i=xs.take i/\(dx xs i ys).take (i+ys.length)=xs.take i++ys:=by
 have hl:(xs.take i++ys).length=i+ys.length:=by simp;omega
 unfold dx;rw[if_pos h];constructor
 ·rw[List.append_assoc,List.take_append_of_le_length (by simp;omega),List.take_take,Nat.min_self]
 ·rw[List.take_append_of_le_length (by omega)];exact List.take_of_length_le (by omega)
theorem LJ(k len:Nat)(row:List Int)(hk:k<len)(hl:len<=row.length)(hr:row.length<=1048576):∃row',Ap 0 len (k:Int) ((k:Int)+1) row=some (0,len-1,row')/\row'.take (len-1)=(row.take len).eraseIdx k/\row'.length=row.length:=by
 have hT:(cK row (0+(k+1)) (len-(k+1))).length=len-(k+1):=by rw[dk];simp;omega
 unfold Ap;have e1:Int.toNat ((k:Int)+1)=k+1:=by omega
 simp only[Int.toNat_natCast,e1,bnd];rw[aR (by omega)];simp only[Option.bind_some];rw[show((k:Int)==(k:Int)+1)=false from beq_eq_false_iff_ne.2 (by omega),cond_false,aR ⟨trivial,by omega,trivial,by omega⟩];simp only[Option.bind_some];rw[aR ⟨by omega,trivial,by omega,by omega⟩];simp only[Option.bind_some];generalize hTd:cK row (0+(k+1)) (len-(k+1))=T at hT;rw[aR (by omega)];simp only[Option.bind_some];rw[aR ⟨by omega,by omega,by omega,by rw[da];omega⟩];simp only[Option.bind_some];have hlen:k+T.length=len-1:=by omega
 refine⟨_,by rw[hlen],?_,by rw[da,da]⟩;have ho:=yr (xs:=row) (ys:=T) (i:=0+k) (by omega);have ho2:=yr (xs:=dx row (0+k) T) (ys:=List.replicate (len-(k+T.length)) (0:Int)) (i:=0+(k+T.length)) (by rw[da,List.length_replicate];omega);rw[<-hlen];have e2:=ho2.1;rw[show 0+(k+T.length)=k+T.length by omega] at e2⊢;rw[e2];have e3:=ho.2;rw[show 0+k+T.length=k+T.length by omega,show 0+k=k by omega] at e3;rw[show 0+k=k by omega,e3,List.eraseIdx_eq_take_drop_succ,List.take_take,Nat.min_eq_left (by omega)];congr 1;rw[<-hTd,dk,Nat.zero_add,List.drop_take]
theorem Ut(k:Nat)(row:List Int)(hk:k<row.length)(hr:row.length<=1048576):∃row',EP (k:Int) ((k:Int)+1) row=some (0,row.length-1,row')/\row'.take (row.length-1)=row.eraseIdx k/\row'.length=row.length:=by
 obtain⟨row',h1,h2,h3⟩:=LJ k row.length row hk (Nat.le_refl _) hr;refine⟨row',?_,by rw[h2,List.take_length],h3⟩;rw[<-h1];unfold EP Ap;simp only[Nat.zero_add,Int.toNat_natCast]
theorem va(xs:List Int)(hl:xs.length<=1048576):AG xs=some xs:=by
 unfold AG;rw[aR (by omega)];simp only[Option.bind_some];cases xs with
 |nil=>simp[amb]
 |cons x xs=>rfl
theorem rf(g:Int):∀(xs:List Int)(i:Nat)(a:List Int),fq (fun(_:Nat)(x:Int)(a:List Int)=>if x !=g then a++[x] else a) i xs a=a++xs.filter fun x=>x !=g
 |[],_,a=>by simp[fq]
 | x :: xs, i, a => by
   simp only[fq];rw[rf g xs (i+1)];rcases bt (x !=g) with e|e
   ·rw[e,List.filter_cons,e];simp
   ·rw[e,List.filter_cons,e];simp
theorem lY(L:List Int)(g:Int)(hl:L.length<=1048576):vY L g=some (L.filter fun x=>x !=g):=by
 unfold vY;have:bl (xl L g) N0 (0,[])=some (L.filter fun x=>x !=g):=by
  have key:=iy (f:=xl L g) L (fun i(a:List Int)=>((i:Int),a)) (fun _ x(a:List Int)=>if x !=g then a++[x] else a) id (fun i a=>a.length<=i) (fun i a x hx hI=>by
   have hlt:=(List.getElem?_eq_some_iff.1 hx).1;have h1:decide ((i:Int)<L.length)=true:=by simp[hlt]
   refine⟨by split<;>(try simp only[List.length_append,List.length_cons,List.length_nil])<;>omega,?_⟩;simp only[xl,h1,cond_true,aQ,hx,bnd,Option.bind_some];rw[aR (by omega),aF (n:=(i:Int)+1) (by omega) (by omega)];rcases bt (x !=g) with e|e
   ·rw[e];rfl
   ·rw[e];rfl) (fun a _=>by simp[xl]) [] (by simp) (by omega)
  have e0:((0:Nat):Int)=0:=rfl;simp only[e0] at key;rw[key,rf];simp
 rw[this];rfl
theorem jM:∀(L:List Int)(k:Nat)(x:Int),L[k]?=some x->L.Nodup->(L.filter fun y=>y !=x)=L.eraseIdx k
 |[],k,x,h,_=>by simp at h
 | a :: L, 0, x, h, hn => by
   simp at h;subst h;rw[List.nodup_cons] at hn;rw[List.filter_cons,bne_self_eq_false,if_neg (by simp),List.eraseIdx_cons_zero];refine List.filter_eq_self.2 fun y hy=>?_;simp only[bne_iff_ne,ne_eq];rintro rfl;exact hn.1 hy
 | a :: L, k + 1, x, h, hn => by
   rw[List.nodup_cons] at hn;have h':L[k]?=some x:=by simpa using h
   have hne:(a !=x)=true:=by
    simp only[bne_iff_ne,ne_eq];rintro rfl;exact hn.1 (List.mem_of_getElem? h')
   rw[List.filter_cons,if_pos hne,List.eraseIdx_cons_succ,jM L k x h' hn.2]
def chB(f:List Int->Int)(L:List Int):Nat->Nat×Int
 |0=>(0,f (L.eraseIdx 0))
 |m+1=>if f (L.eraseIdx (m+1))<(chB f L m).2 then(m+1,f (L.eraseIdx (m+1))) else chB f L m
theorem rr(f:List Int->Int)(L:List Int):∀m,(chB f L m).1<=m
 |0=>Nat.le_refl _
 | m + 1 => by
   have:=rr f L m;simp only[chB];split
   ·exact Nat.le_refl _
   ·omega
theorem HL(f:List Int->Int)(L:List Int)(h:∀k,k<L.length->0<=f (L.eraseIdx k)):∀m,m<L.length->0<=(chB f L m).2
 |0,hm=>h 0 hm
 | m + 1, hm => by
   have:=HL f L h m (by omega);simp only[chB];split
   ·exact h _ hm
   ·exact this
def roL(f:List Int->Int):Nat->List Int->List Int->List Int
 |0,_,out=>out
 |k+1,L,out=>if L.length=0 then out else roL f k (L.eraseIdx (chB f L (L.length-1)).1) (out++[(L[(chB f L (L.length-1)).1]?).getD 0])
def LIn(n:af)(L:List Int):Prop:=(∀g∈L,0<=g/\g<((aO n).length:Int))/\L.length<=23/\L.Nodup
theorem LIn.er{n:af}{L:List Int}(h:LIn n L)(k:Nat):LIn n (L.eraseIdx k):=
 ⟨fun g hg=>h.1 g (List.mem_of_mem_eraseIdx hg),Nat.le_trans (List.length_eraseIdx_le ..) h.2.1,h.2.2.sublist (List.eraseIdx_sublist ..)⟩
theorem uh:∀(ps:List (Int×Int))(i:Nat)(a:Int),0<=a->a+1000*ps.length<=1000000->(∀p∈ps,1<=p.1/\p.1<=1000)->0<=fq (fun(_:Nat)(p:Int×Int)(a:Int)=>if p.2==3 then IntKind.wrap .i64 (a+p.1) else a) i ps a
 |[],_,a,h,_,_=>h
 | p :: ps, i, a, h, hb, hp => by
   have h1:=hp p (by simp);simp only[List.length_cons] at hb;simp only[fq];refine uh ps (i+1) _ ?_ ?_ fun q hq=>hp q (by simp[hq])
   ·split
    ·rw[aF (by omega) (by omega)];omega
    ·exact h
   ·split
    ·rw[aF (by omega) (by omega)];omega
    ·omega
theorem GG(n:af)(list:List ah)(rates failed:List Int)(hr:hY list rates=true)(hl:list.length<=100):0<=bA n list rates failed:=by
 unfold bA LM;have hlen:=iq hr;have hz:(rates.zip (ji (gt (aO n) failed) list)).length<=rates.length:=by rw[List.length_zip];omega
 refine uh _ 0 0 (Int.le_refl _) (by omega) fun p hp=>?_;have h1:=(List.of_mem_zip hp).1;unfold hY at hr;simp only[Bool.and_eq_true,Bool.not_eq_true',List.any_eq_false] at hr;have:=hr.2 p.1 h1;have h2:wi p.1 1 1000=true:=by
  cases e:wi p.1 1 1000 with
  |true=>rfl
  |false=>rw[e] at this;simp at this
 exact cG.1 h2
theorem SK(n:af)(list:List ah)(rates:List Int)(hs:iJ n list)(hr:hY list rates=true)(hl:list.length<=100)(L out row:List Int)(hL:LIn n L)(h0:0<L.length)(hrow:row.take L.length=L):
 bl (M_s n list rates (0,L.length,out,row)) N0 (0,(-1),0)=some (((chB (bA n list rates) L (L.length-1)).1:Nat):Int):=by
 obtain⟨b,hb,hq⟩:=br (f:=M_s n list rates (0,L.length,out,row))
  (fun s=>s=(0,(-1),0)\/∃m:Nat,m<L.length/\s=((((chB (bA n list rates) L m).1:Nat):Int),(chB (bA n list rates) L m).2,((m+1:Nat):Int)))
  (fun s=>L.length-s.2.2.toNat) (fun b=>b=(((chB (bA n list rates) L (L.length-1)).1:Nat):Int)) (fun s hI=>by
  have step:∀(k:Nat)(best fv:Int),k<L.length->M_s n list rates (0,L.length,out,row) (best,fv,(k:Int))=
   some (.inl (if fv<0\/bA n list rates (L.eraseIdx k)<fv then((k:Int),bA n list rates (L.eraseIdx k),((k+1:Nat):Int)) else(best,fv,((k+1:Nat):Int)))):=by
   intro k best fv hk;have hE:=hL.er k;obtain⟨row',d1,d2,d3⟩:=Ut k L hk (by have:=hL.2.1;omega);simp only[M_s,bnd,za,hrow];rw[decide_eq_true (by omega),cond_true,va L (by have:=hL.2.1;omega)];simp only[Option.bind_some];rw[aF (n:=(k:Int)+1) (by omega) (by have:=hL.2.1;omega),d1];simp only[Option.bind_some,za,d2];rw[kC n list rates (L.eraseIdx k) hs hE.1 (by have:=hE.2.1;omega) (iq hr)];simp only[Option.bind_some];by_cases h1:fv<0
   ·rw[decide_eq_true h1,if_pos (.inl h1)];rfl
   ·rw[decide_eq_false h1,cond_false];simp only[Option.bind_some];by_cases h2:bA n list rates (L.eraseIdx k)<fv
    ·rw[decide_eq_true h2,if_pos (.inr h2)];rfl
    ·rw[decide_eq_false h2,if_neg (by omega)];rfl
  rcases hI with rfl|⟨m,hm,rfl⟩
  ·left;refine⟨_,step 0 0 (-1) h0,.inr ⟨0,h0,?_⟩,?_⟩
   ·rw[if_pos (.inl (by omega))];rfl
   ·rw[if_pos (.inl (by omega))];simp only;omega
  ·by_cases hlast:m+1<L.length
   ·left;have hnn:=HL (bA n list rates) L (fun k _=>GG n list rates _ hr hl) m hm;refine⟨_,step (m+1) _ _ hlast,.inr ⟨m+1,hlast,?_⟩,?_⟩
    ·simp only[chB];by_cases h2:bA n list rates (L.eraseIdx (m+1))<(chB (bA n list rates) L m).2
     ·rw[if_pos (.inr h2),if_pos h2]
     ·rw[if_neg (by omega),if_neg h2]
    ·split<;>simp only<;>omega
   ·right;refine⟨(((chB (bA n list rates) L m).1:Nat):Int),?_,by rw[show m=L.length-1 by omega]⟩;simp only[M_s];rw[decide_eq_false (by omega),cond_false]) N0 (0,(-1),0) (.inl rfl) (bZ (by simp only;have:=hL.2.1;omega))
 rw[hb,hq]
theorem TP(n:af)(list:List ah)(rates:List Int)(hs:iJ n list)(hr:hY list rates=true)(hl:list.length<=100)(L out:List Int)(hL:LIn n L)(h0:0<L.length):
 bl (M_t n list rates (out,L)) N0 (L[0],bA n list rates (L.eraseIdx 0),1)=some ((L[(chB (bA n list rates) L (L.length-1)).1]?).getD 0):=by
 obtain⟨b,hb,hq⟩:=br (f:=M_t n list rates (out,L))
  (fun s=>∃m:Nat,m<L.length/\s=((L[(chB (bA n list rates) L m).1]?).getD 0,(chB (bA n list rates) L m).2,((m+1:Nat):Int)))
  (fun s=>L.length-s.2.2.toNat) (fun b=>b=(L[(chB (bA n list rates) L (L.length-1)).1]?).getD 0) (fun s hI=>by
  obtain⟨m,hm,rfl⟩:=hI;by_cases hlast:m+1<L.length
  ·left;have hE:=hL.er (m+1);simp only[M_t];rw[decide_eq_true (by omega),cond_true,aR (by omega)];simp only[Option.bind_some,Int.toNat_natCast,List.getElem?_eq_getElem hlast];rw[lY L _ (by have:=hL.2.1;omega),jM L (m+1) _ (List.getElem?_eq_getElem hlast) hL.2.2];simp only[Option.bind_some];rw[lF n list rates _ hs hE.1 (by have:=hE.2.1;omega) (iq hr),aF (n:=((m+1:Nat):Int)+1) (by omega) (by have:=hL.2.1;omega)];simp only[Option.bind_some];by_cases h2:bA n list rates (L.eraseIdx (m+1))<(chB (bA n list rates) L m).2
   ·rw[decide_eq_true h2,cond_true];refine⟨_,rfl,⟨m+1,hlast,?_⟩,by simp only;omega⟩;simp only[chB];rw[if_pos h2];simp only[List.getElem?_eq_getElem hlast,Option.getD_some];rfl
   ·rw[decide_eq_false h2,cond_false];refine⟨_,rfl,⟨m+1,hlast,?_⟩,by simp only;omega⟩;simp only[chB];rw[if_neg h2];rfl
  ·right;refine⟨(L[(chB (bA n list rates) L m).1]?).getD 0,?_,by rw[show m=L.length-1 by omega]⟩;simp only[M_t];rw[decide_eq_false (by omega),cond_false]) N0 (L[0],bA n list rates (L.eraseIdx 0),1) ⟨0,h0,by simp[chB,List.getElem?_eq_getElem h0]⟩ (bZ (by simp only;have:=hL.2.1;omega))
 rw[hb,hq]
def roP(n:af)(list:List ah)(rates groups:List Int):List Int×Bool:=if mV n list groups&&hY list rates then(roL (bA n list rates) groups.length groups [],true) else([],false)
theorem uG{n:af}{list:List ah}{failed:List Int}(h:mV n list failed=true):LIn n failed:=by
 obtain⟨_,h2,h3⟩:=oK h;refine⟨h2,h3,?_⟩;obtain⟨_,h5⟩:=Bool.and_eq_true_iff.1 h;exact(sk h5).1.imp fun h=>by omega
theorem HQ{n:af}{list:List ah}(h:iJ n list):list.length<=100:=by have:=h.len;omega
theorem ko(n:af)(list:List ah)(rates groups:List Int)(hz:bH n<=1048576)(hl:bQ list<=1048576)(hr:eX rates<=1048576)(hf:eX groups<=1048576):Ix n list rates groups=some (roP n list rates groups):=by
 have hf':groups.length<=1048576:=hf;have hr':rates.length<=1048576:=hr;unfold Ix roP;simp only[mp n list groups hz hl hf',kx list rates hr',Option.bind_some];rcases bt (mV n list groups) with e|e
 ·rcases bt (hY list rates) with e2|e2
  ·rw[e,e2];simp only[Bool.not_true,cond_false,Option.bind_some,Bool.and_self,if_true];have hs:=(oK e).1;have hl8:=HQ hs;rw[va groups hf'];simp only[Option.bind_some];obtain⟨b,hb,hq⟩:=br (f:=M_n n list rates)
    (fun s=>∃(L out row:List Int),s=(0,L.length,out,row)/\LIn n L/\row.take L.length=L/\row.length<=23/\out.length+L.length<=23/\roL (bA n list rates) L.length L out=roL (bA n list rates) groups.length groups [])
    (fun s=>s.2.1) (fun b=>b=roL (bA n list rates) groups.length groups []) (fun s hI=>by
    obtain⟨L,out,row,rfl,hL,hrow,hrl,hol,hro⟩:=hI;by_cases h0:0<L.length
    ·left;have hlt:(chB (bA n list rates) L (L.length-1)).1<L.length:=by have:=rr (bA n list rates) L (L.length-1);omega
     have hLr:L.length<=row.length:=by have:=congrArg List.length hrow;rw[List.length_take] at this;omega
     obtain⟨row',d1,d2,d3⟩:=LJ (chB (bA n list rates) L (L.length-1)).1 L.length row hlt hLr (by omega);have hget:row[0+(chB (bA n list rates) L (L.length-1)).1]?=some L[(chB (bA n list rates) L (L.length-1)).1]:=by
      have h5:(row.take L.length)[(chB (bA n list rates) L (L.length-1)).1]?=L[(chB (bA n list rates) L (L.length-1)).1]?:=by rw[hrow]
      rw[List.getElem?_take,if_pos hlt] at h5;rw[Nat.zero_add];exact h5.trans (List.getElem?_eq_getElem hlt)
     simp only[M_n];rw[decide_eq_true (by omega),cond_true,SK n list rates hs e2 hl8 L out row hL h0 hrow];simp only[Option.bind_some];rw[aR (by omega)];simp only[Option.bind_some,Int.toNat_natCast,hget,bnd];rw[aR (by omega)];simp only[Option.bind_some];rw[aF (n:=(((chB (bA n list rates) L (L.length-1)).1:Nat):Int)+1) (by omega) (by omega),d1];simp only[Option.bind_some];have hle:(L.eraseIdx (chB (bA n list rates) L (L.length-1)).1).length=L.length-1:=by rw[List.length_eraseIdx,if_pos hlt]
     refine⟨_,rfl,⟨L.eraseIdx (chB (bA n list rates) L (L.length-1)).1,out++[L[(chB (bA n list rates) L (L.length-1)).1]],row',by rw[hle],hL.er _,by rw[hle,d2,hrow],by omega,by simp[hle];omega,?_⟩,by simp only;omega⟩;rw[<-hro,hle]
     conv=>rhs;rw[show L.length=(L.length-1)+1 by omega]
     simp only[roL];rw[if_neg (by omega)];simp[List.getElem?_eq_getElem hlt]
    ·right;refine⟨out,?_,?_⟩
     ·simp only[M_n];rw[decide_eq_false (by omega),cond_false]
     ·rw[<-hro,show L.length=0 by omega];rfl) N0 (0,groups.length,[],groups) ⟨groups,[],groups,rfl,uG e,List.take_length,(uG e).2.1,by simpa using(uG e).2.1,rfl⟩ (bZ (by simp only;omega))
   rw[hb,hq];rfl
  ·rw[e,e2];rfl
 ·rw[e];rfl
theorem kj(n:af)(list:List ah)(rates groups:List Int)(hz:bH n<=1048576)(hl:bQ list<=1048576)(hr:eX rates<=1048576)(hf:eX groups<=1048576):Ik n list rates groups=some (roP n list rates groups):=by
 have hf':groups.length<=1048576:=hf;have hr':rates.length<=1048576:=hr;unfold Ik roP;simp only[xL n list groups hz hl hf',pp list rates hr',Option.bind_some];rcases bt (mV n list groups) with e|e
 ·rcases bt (hY list rates) with e2|e2
  ·rw[e,e2];simp only[Bool.not_true,cond_false,Option.bind_some,Bool.and_self,if_true];have hs:=(oK e).1;have hl8:=HQ hs;unfold M_q;simp only[Option.bind_some,aR (show groups.length*8<=140737488355328 by omega)];obtain⟨b,hb,hq⟩:=br (f:=AE n list rates)
    (fun s=>∃(L out:List Int),s=(out,L)/\LIn n L/\out.length+L.length<=23/\roL (bA n list rates) L.length L out=roL (bA n list rates) groups.length groups [])
    (fun s=>s.2.length) (fun b=>b=roL (bA n list rates) groups.length groups []) (fun s hI=>by
    obtain⟨L,out,rfl,hL,hol,hro⟩:=hI;by_cases h0:0<L.length
    ·left;have hlt:(chB (bA n list rates) L (L.length-1)).1<L.length:=by have:=rr (bA n list rates) L (L.length-1);omega
     have hE:=hL.er 0;have h00:Int.toNat 0<L.length:=h0;simp only[AE];rw[decide_eq_true (by omega),cond_true,aR (by omega)];simp only[Option.bind_some,List.getElem?_eq_getElem h00];rw[lY L _ (by omega),show(L.filter fun x=>x !=L[Int.toNat 0])=L.eraseIdx 0 from jM L 0 _ (List.getElem?_eq_getElem h0) hL.2.2];simp only[Option.bind_some];rw[lF n list rates _ hs hE.1 (by have:=hE.2.1;omega) (iq e2)];simp only[Option.bind_some];have:=TP n list rates hs e2 hl8 L out hL h0;rw[show bl (M_t n list rates (out,L)) N0 (L[Int.toNat 0],bA n list rates (L.eraseIdx 0),1)=_ from this];simp only[Option.bind_some,List.getElem?_eq_getElem hlt,Option.getD_some,bnd];rw[aR (by omega)];simp only[Option.bind_some];rw[lY L _ (by omega),jM L _ _ (List.getElem?_eq_getElem hlt) hL.2.2];have hle:(L.eraseIdx (chB (bA n list rates) L (L.length-1)).1).length=L.length-1:=by rw[List.length_eraseIdx,if_pos hlt]
     refine⟨_,rfl,⟨L.eraseIdx (chB (bA n list rates) L (L.length-1)).1,out++[L[(chB (bA n list rates) L (L.length-1)).1]],rfl,hL.er _,by simp[hle];omega,?_⟩,by simp only;omega⟩;rw[<-hro,hle]
     conv=>rhs;rw[show L.length=(L.length-1)+1 by omega]
     simp only[roL];rw[if_neg (by omega)];simp[List.getElem?_eq_getElem hlt]
    ·right;refine⟨out,?_,?_⟩
     ·simp only[AE];rw[decide_eq_false (by omega),cond_false]
     ·rw[<-hro,show L.length=0 by omega];rfl) N0 ([],groups) ⟨groups,[],rfl,uG e,by simpa using(uG e).2.1,rfl⟩ (bZ (by simp only;omega))
   rw[hb,hq];rfl
  ·rw[e,e2];rfl
 ·rw[e];rfl
theorem zK(f:List Int->Int):∀(k:Nat)(L out:List Int),(roL f k L out).length<=out.length+k
 |0,L,out=>Nat.le_refl _
 | k + 1, L, out => by
   simp only[roL];split
   ·omega
   ·have:=zK f k (L.eraseIdx (chB f L (L.length-1)).1) (out++[(L[(chB f L (L.length-1)).1]?).getD 0]);simp only[List.length_append,List.length_cons,List.length_nil] at this;omega
end Vs

namespace Vs
open Go
theorem jp{n:af}(h:bM n=true):2<=n.Nodes.length/\n.Nodes.length<=8/\n.Fibers.length<=14:=by
 unfold bM at h;simp only[Bool.and_eq_true,decide_eq_true_eq,cG] at h;omega
theorem np{n:af}(h:bM n=true){i:Nat}{f:az}(hf:n.Fibers[i]?=some f):sQ n.Nodes.length f:=by
 unfold bM at h;simp only[Bool.and_eq_true,Bool.not_eq_true'] at h;have:=cB.1 h.1.1.2 i f hf;unfold gw at this;simp only[Bool.or_eq_false_iff] at this;exact nb this.1
end Vs

namespace Vs
open Go
def qj(n:af)(y:Int):Int:=match n.Fibers[y.toNat]? with|some f=>f.Length|none=>0
def km(n:af)(r:au):Int:=fq (fun _ y s=>IntKind.wrap .i64 (s+qj n y)) 0 r.Fibers 0
def RtB(n:af)(r:au):Prop:=r.Fibers.length<=20/\(∀e∈r.Fibers,0<=e/\e<n.Fibers.length)/\0<=r.Start/\r.Start<8
theorem eH{n:af}{r:au}(h:RtB n r):ox n r=some (km n r):=by
 have h1:=h.1;unfold ox km;have:=iy (f:=M_i n r) r.Fibers (fun i(s:Int)=>(s,(i:Int))) (fun _ y s=>IntKind.wrap .i64 (s+qj n y)) id (fun _ _=>True) (fun i s y hy _=>by
  have hlt:=(List.getElem?_eq_some_iff.1 hy).1;have e1:decide ((i:Int)<r.Fibers.length)=true:=by simp[hlt]
  obtain⟨g1,g2⟩:=h.2.1 y (List.mem_of_getElem? hy);have hf:bu n.Fibers y=n.Fibers[y.toNat]?:=by unfold bu;rw[if_pos g1]
  have hs:n.Fibers[y.toNat]?=some (n.Fibers[y.toNat]'(by omega)):=List.getElem?_eq_getElem _;refine⟨trivial,?_⟩;simp only[M_i,e1,cond_true,aQ,hy,Option.bind_some,hf,qj];rw[hs];simp only[Option.bind_some];rw[aF (n:=(i:Int)+1) (by omega) (by omega)];rfl) (fun s _=>by simp[M_i]) 0 trivial (by omega)
 have e0:((0:Nat):Int)=0:=rfl;simp only[e0] at this;rw[this];rfl
theorem ze{n:af}(hn:bM n=true){r:au}(h:RtB n r):0<=km n r/\km n r<=100000:=by
 have gen:∀(ys:List Int)(i:Nat)(s:Int),(∀e∈ys,0<=e/\e<n.Fibers.length)->i+ys.length<=20->0<=s->s<=5000*i->0<=fq (fun _ y s=>IntKind.wrap .i64 (s+qj n y)) i ys s/\fq (fun _ y s=>IntKind.wrap .i64 (s+qj n y)) i ys s<=5000*(i+ys.length:Nat):=by
  intro ys;induction ys with
  |nil=>intro i s _ _ h1 h2;exact⟨h1,by simpa[fq] using h2⟩
  | cons y ys ih =>
    intro i s hy hi h1 h2;simp only[List.length_cons] at hi;obtain⟨g1,g2⟩:=hy y (by simp);have hs:n.Fibers[y.toNat]?=some (n.Fibers[y.toNat]'(by omega)):=List.getElem?_eq_getElem _;obtain⟨_,_,_,f4,f5,_⟩:=np hn hs;have hf:qj n y=(n.Fibers[y.toNat]'(by omega)).Length:=by unfold qj;rw[hs]
    have hw:IntKind.wrap .i64 (s+qj n y)=s+qj n y:=aF (by omega) (by omega);simp only[fq];rw[hw];have:=ih (i+1) (s+qj n y) (fun e he=>hy e (by simp[he])) (by omega) (by omega) (by omega);refine⟨this.1,?_⟩;have h3:=this.2;simp only[List.length_cons];omega
 have h1:=h.1;have:=gen r.Fibers 0 0 h.2.1 (by omega) (by omega) (by omega);unfold km;omega
def Lq(b:List Int)(i:Nat)(x:Int):Int:=match b[i]? with|some y=>dE x y|none=>1
def TB(a b:List Int):Int:=match dG (fun i x=>b[i]? !=some x) a with
 |some q=>Lq b q.1 q.2
 |none=>if a.length<b.length then -1 else 0
def Qb(n:af)(a b:au):Int:=if km n a≠km n b then dE (km n a) (km n b) else if a.Fibers.length≠b.Fibers.length then dE a.Fibers.length b.Fibers.length else
 if TB a.Fibers b.Fibers≠0 then TB a.Fibers b.Fibers else dE a.Start b.Start
theorem tc(x:Int):uO x=some (dE x 0):=by
 unfold uO dE;by_cases h1:x<0
 ·simp[h1]
 ·by_cases h2:0<x<;>simp[h1,h2]
theorem lA(x y:Int):dE (x-y) 0=dE x y:=by
 unfold dE;by_cases h1:x<y
 ·rw[if_pos (by omega),if_pos h1]
 ·by_cases h2:y<x
  ·rw[if_neg (by omega),if_pos (by omega),if_neg h1,if_pos h2]
  ·rw[if_neg (by omega),if_neg (by omega),if_neg h1,if_neg h2]
theorem Ag(x y:Int):(x-y !=0)=decide (x≠y):=by
 by_cases h:x=y
 ·subst h;simp
 ·have:(x-y !=0)=true:=bne_iff_ne.2 (by omega);rw[this,decide_eq_true h]
theorem sP{n:af}(hn:bM n=true){a b:au}(ha:RtB n a)(hb:RtB n b):Dq n a b=some (Qb n a b):=by
 obtain⟨b1,b2,b3⟩:=jp hn;have hla:=ze hn ha;have hlb:=ze hn hb;have h1:=ha.1;have h2:=hb.1;obtain⟨s1,s2⟩:=ha.2.2;obtain⟨s3,s4⟩:=hb.2.2;unfold Dq Qb;rw[eH ha,Option.bind_some,eH hb,Option.bind_some];simp only[tc,Option.bind_some];rw[aF (n:=km n a-km n b) (by omega) (by omega),aF (n:=(a.Fibers.length:Int)-(b.Fibers.length:Int)) (by omega) (by omega),aF (n:=a.Start-b.Start) (by omega) (by omega),Ag,Ag,lA,lA,lA];by_cases e1:km n a=km n b
 ·rw[if_neg (by simpa using e1),decide_eq_false (by simpa using e1),cond_false];by_cases e2:a.Fibers.length=b.Fibers.length
  ·rw[if_neg (by simpa using e2),decide_eq_false (by simp[e2]),cond_false];rw[dC (f:=Cm a b) a.Fibers (fun i x=>b.Fibers[i]? !=some x) (fun i x=>Lq b.Fibers i x) () (fun i x hx _=>by
    have hlt:=(List.getElem?_eq_some_iff.1 hx).1;have h3:decide ((i:Int)<a.Fibers.length)=true:=by simp[hlt]
    have h5:b.Fibers[i]?=some (b.Fibers[i]'(by omega)):=List.getElem?_eq_getElem _;obtain⟨x1,x2⟩:=ha.2.1 x (List.mem_of_getElem? hx);obtain⟨y1,y2⟩:=hb.2.1 _ (List.mem_of_getElem? h5);simp only[Cm,h3,cond_true,aQ,hx,Option.bind_some,Lq,h5,tc];rw[aF (n:=(i:Int)+1) (by omega) (by omega),aF (n:=x-b.Fibers[i]'(by omega)) (by omega) (by omega),lA];by_cases e:x=b.Fibers[i]'(by omega)
    ·have e3:(x !=b.Fibers[i]'(by omega))=false:=by rw[<-e];simp
     have e4:(some (b.Fibers[i]'(by omega)) !=some x)=false:=by rw[<-e];simp
     rw[e3,e4];rfl
    ·have e3:(x !=b.Fibers[i]'(by omega))=true:=bne_iff_ne.2 e;have e4:(some (b.Fibers[i]'(by omega)) !=some x)=true:=bne_iff_ne.2 fun e'=>e (Option.some.inj e').symm;rw[e3,e4];rfl) (by simp[Cm]) (by omega)]
   unfold TB;cases hf:dG (fun i x=>b.Fibers[i]? !=some x) a.Fibers with
   | none =>
     simp only[Option.bind_some];rw[if_neg (show¬a.Fibers.length<b.Fibers.length by omega),if_neg (by simp)]
   | some q =>
     obtain⟨g1,g2,_⟩:=dm.1 (show dG (fun i x=>b.Fibers[i]? !=some x) a.Fibers=some (q.1,q.2) from hf);have hlt:=(List.getElem?_eq_some_iff.1 g1).1;have h5:b.Fibers[q.1]?=some (b.Fibers[q.1]'(by omega)):=List.getElem?_eq_getElem _;have hz:Lq b.Fibers q.1 q.2≠0:=by
      unfold Lq;rw[h5] at g2⊢;exact fun e=>bne_iff_ne.1 g2 (by rw[dP.1 e])
     simp only[Option.bind_some];rw[if_pos hz]
  ·rw[if_pos (by simpa using e2),decide_eq_true (by simp;omega),cond_true]
 ·rw[if_pos (by simpa using e1),decide_eq_true (by simpa using e1),cond_true]
end Vs

namespace Vs
open Go
theorem ja{α:Type}(xs:List α)(k:Nat)(h:k<=xs.length):cK xs 0 k=xs.take k:=by rw[dk,List.drop_zero]
theorem sU{α:Type}(xs:List α)(k:Nat)(h:k<=xs.length):cK xs k (xs.length-k)=xs.drop k:=by
 rw[dk,List.take_of_length_le (by simp)]
theorem JX{f:Int->Option (Int⊕Int)}{L:List au}(hl:L.length<=1000)(g:au->Int)
 (h1:∀(i:Nat)(y:au),L[i]?=some y->f ((i+1:Nat):Int)=some (if decide (g y<0) then .inl (i:Int) else .inr ((i+1:Nat):Int))) (h2:f 0=some (.inr 0)):∃k:Nat,bl f N0 (L.length:Int)=some (k:Int)/\k<=L.length:=by
 obtain⟨b,b1,b2⟩:=br (f:=f) (fun s=>∃i:Nat,s=(i:Int)/\i<=L.length) (fun s=>s.toNat) (fun b=>∃k:Nat,b=(k:Int)/\k<=L.length) (fun s⟨i,e,hi⟩=>by
  subst e;cases i with
  |zero=>exact .inr ⟨0,h2,0,rfl,Nat.zero_le _⟩
  | succ i =>
    have hs:=h1 i _ (List.getElem?_eq_getElem (show i<L.length by omega));rw[hs];split
    ·exact .inl ⟨_,rfl,⟨i,rfl,by omega⟩,by simp⟩
    ·exact .inr ⟨_,rfl,i+1,rfl,hi⟩) N0 (L.length:Int) ⟨L.length,rfl,Nat.le_refl _⟩ (bZ (by omega))
 obtain⟨k,e,hk⟩:=b2;exact⟨k,by rw[b1,e],hk⟩
theorem SP{n:af}(hn:bM n=true){s d:Int}{L:List au}{fs:List Int}(hr:RtB n ⟨s,fs⟩)(hL:∀r∈L,RtB n r)(hl:L.length<=500):
 ∃L',GZ ⟨s,fs⟩ n.Nodes n.Fibers d L=some (n.Nodes,n.Fibers,d,L',L)/\L'.length=L.length+1/\∀r∈L',RtB n r:=by
 obtain⟨k,k1,k2⟩:=JX (f:=Bj ⟨s,fs⟩ n.Nodes n.Fibers L) (L:=L) (by omega) (Qb n ⟨s,fs⟩) (fun i y hy=>by
  have hlt:=(List.getElem?_eq_some_iff.1 hy).1;have e1:decide (0<((i+1:Nat):Int))=true:=by simp only[decide_eq_true_eq];omega
  have e2:IntKind.wrap .i64 (((i+1:Nat):Int)-1)=(i:Int):=by rw[aF (by omega) (by omega)];omega
  unfold Bj;rw[e1,cond_true,e2,aR ⟨by omega,by omega⟩,Option.bind_some,Int.toNat_natCast,hy,Option.bind_some,sP hn hr (hL y (List.mem_of_getElem? hy)),Option.bind_some];cases decide (Qb n ⟨s,fs⟩ y<0)<;>rfl) (by simp[Bj])
 unfold GZ;rw[k1,Option.bind_some,aR ⟨trivial,by omega,trivial,by simpa using k2⟩];simp only[Option.bind_some,bnd,Int.toNat_natCast];rw[aR (by rw[ja _ _ k2];simp;omega),Option.bind_some,aR (by rw[ja _ _ k2];simp;omega),Option.bind_some,aR ⟨by omega,trivial,k2,trivial⟩,Option.bind_some,aR (by rw[ja _ _ k2,sU _ _ k2];simp;omega),Option.bind_some,ja _ _ k2,sU _ _ k2];refine⟨_,rfl,by simp;omega,fun r hr'=>?_⟩;simp only[List.append_assoc,List.mem_append,List.mem_singleton] at hr';rcases hr' with h|rfl|h
 ·exact hL r (List.mem_of_mem_take h)
 ·exact hr
 ·exact hL r (List.mem_of_mem_drop h)
structure rq(n:af)(s:Int)(p q:List Int):Prop where
 len:q.length=p.length+1
 nd:q.Nodup
 rg:∀x∈q,0<=x/\x<(n.Nodes.length:Int)
 pr:∀e∈p,0<=e/\e<(n.Fibers.length:Int)
 st:0<=s/\s<8
theorem rq.le{n:af}{s:Int}{p q:List Int}(h:rq n s p q):q.length<=n.Nodes.length:=jg _ q h.nd h.rg
theorem rq.rt{n:af}(hn:bM n=true){s:Int}{p q:List Int}(h:rq n s p q):RtB n ⟨s,p⟩:=by
 obtain⟨b1,b2,b3⟩:=jp hn;have h1:=h.le;have h2:=h.len;exact⟨by show p.length<=20;omega,h.pr,h.st⟩
def OkL(n:af)(L:List au):Prop:=L.length<=201/\∀r∈L,RtB n r
theorem nl{n:af}(hn:bM n=true){s d:Int}{k:Nat}{rc:Int->List ByteArray->List az->Int->List au->List Int->List Int->Option (List ByteArray×List az×Int×List au×List Int)}
 (L:List au) (p q:List Int) (hrc:∀(L:List au)(p1 q1:List Int),rq n s p1 q1->q1.length+k=n.Nodes.length->q1.length=q.length+1->OkL n L->L.length<=200->∃L',rc s n.Nodes n.Fibers d L p1 q1=some (n.Nodes,n.Fibers,d,L',q1)/\OkL n L') (hp:rq n s p q) (hq:q.length+k+1=n.Nodes.length\/k=0/\q.length=n.Nodes.length) (hL:OkL n L) (hl:L.length<=200):
 ∃L',DP rc s n.Nodes n.Fibers d L p q=some (n.Nodes,n.Fibers,d,L',q)/\OkL n L':=by
 obtain⟨b1,b2,b3⟩:=jp hn;have h1:=hp.le;have h2:=hp.len;have hix:IntKind.wrap .i64 ((q.length:Int)-1)=((q.length-1:Nat):Int):=by rw[aF (by omega) (by omega)];omega
 have hat:q[q.length-1]?=some (q[q.length-1]'(by omega)):=List.getElem?_eq_getElem _;generalize hv:q[q.length-1]'(by omega)=v at hat;unfold DP;rw[hix,aR ⟨by omega,by omega⟩,Option.bind_some,Int.toNat_natCast,hat,Option.bind_some];cases v==d with
 | true =>
   obtain⟨L',e1,e2,e3⟩:=SP hn (d:=d) (hp.rt hn) hL.2 (by have:=hL.1;omega);rw[cond_true,e1,Option.bind_some];exact⟨L',rfl,by omega,e3⟩
 | false =>
   rw[cond_false];obtain⟨b,o1,o2⟩:=br (f:=Mq s p q rc v) (fun t=>∃(i:Nat)(L':List au),t=((i:Int),n.Nodes,n.Fibers,d,L')/\i<=n.Fibers.length/\OkL n L') (fun t=>n.Fibers.length-t.1.toNat) (fun b=>∃L',b=(n.Nodes,n.Fibers,d,L')/\OkL n L') (fun t⟨i,L',e,hi,hL'⟩=>by
    subst e;unfold Mq;by_cases h3:i<n.Fibers.length/\L'.length<=200
    ·left;have e1:decide ((i:Int)<(n.Fibers.length:Int))=true:=by simp[h3.1]
     have e2:decide ((L'.length:Int)<=200)=true:=by simp only[decide_eq_true_eq];omega
     have hwi:wi (i:Int) 0 ((n.Fibers.length:Int)-1)=true:=cG.2 (by omega);simp only[e1,e2,cond_true,Option.bind_some,jD n (i:Int) v hwi,lj q _ (show q.length<=1048576 by omega)];by_cases h4:0<=db n (i:Int) v/\(q.any fun y=>y==db n (i:Int) v)=false
     ·have e3:decide (0<=db n (i:Int) v)=true:=by simp[h4.1]
      obtain⟨f,f1,f2⟩:=ot hwi;have hfo:=np hn f2;obtain⟨fa,fb,fc,_⟩:=hfo;have hlt:db n (i:Int) v<(n.Nodes.length:Int):=by
       have h0:=h4.1;unfold db at h0⊢;rw[f2] at h0⊢;simp only[jn] at h0⊢;by_cases c1:v=f.A
       ·rw[if_pos c1];omega
       ·rw[if_neg c1];by_cases c2:v=f.B
        ·rw[if_pos c2];omega
        ·rw[if_neg c2];omega
      have hP:rq n s (p++[(i:Int)]) (q++[db n (i:Int) v]):=by
       refine⟨by simp;omega,?_,fun x hx=>?_,fun x hx=>?_,hp.st⟩
       ·rw[List.nodup_append];refine⟨hp.nd,by simp,fun x hx y hy e=>?_⟩;simp only[List.mem_singleton] at hy;have:=List.any_eq_false.1 h4.2 x hx;simp only[beq_iff_eq] at this;exact this (e.trans hy)
       ·rcases List.mem_append.1 hx with h|h
        ·exact hp.rg x h
        ·simp only[List.mem_singleton] at h;rw[h];exact⟨h4.1,hlt⟩
       ·rcases List.mem_append.1 hx with h|h
        ·exact hp.pr x h
        ·simp only[List.mem_singleton] at h;rw[h];omega
      have hle:=hP.le;simp only[List.length_append,List.length_singleton] at hle;obtain⟨L2,c1,c2⟩:=hrc L' (p++[(i:Int)]) (q++[db n (i:Int) v]) hP (by simp only[List.length_append,List.length_singleton];omega) (by simp) hL' h3.2;have ep:M_q p=some p:=by unfold M_q;rw[aR (by omega)];rfl
      have eq:M_q q=some q:=by unfold M_q;rw[aR (by omega)];rfl
      simp only[e3,h4.2,cond_true,Bool.not_false,Option.bind_some,ep,eq,bnd];rw[aR (by omega),Option.bind_some,aR (by omega),Option.bind_some,c1,Option.bind_some];refine⟨_,rfl,⟨i+1,L2,by rw[aF (by omega) (by omega)];rfl,by omega,c2⟩,?_⟩;simp only;rw[aF (by omega) (by omega)];omega
     ·have e3:(cond (decide (0<=db n (i:Int) v)) (some (!(q.any fun y=>y==db n (i:Int) v))) (some false):Option Bool)=some false:=by
       by_cases h5:0<=db n (i:Int) v
       ·have:(q.any fun y=>y==db n (i:Int) v)=true:=by
         cases h6:(q.any fun y=>y==db n (i:Int) v) with
         |true=>rfl
         |false=>exact absurd ⟨h5,h6⟩ h4
        simp[h5,this]
       ·simp[h5]
      rw[e3];simp only[Option.bind_some,cond_false];refine⟨_,rfl,⟨i+1,L',by rw[aF (by omega) (by omega)];rfl,by omega,hL'⟩,?_⟩;simp only;rw[aF (by omega) (by omega)];omega
    ·right;have e1:(cond (decide ((i:Int)<(n.Fibers.length:Int))) (some (decide ((L'.length:Int)<=200))) (some false):Option Bool)=some false:=by
      by_cases h5:i<n.Fibers.length
      ·have:¬L'.length<=200:=fun h=>h3 ⟨h5,h⟩;have e6:decide ((L'.length:Int)<=200)=false:=by simp only[decide_eq_false_iff_not];omega
       simp[h5,e6]
      ·simp[h5]
     simp only[e1,Option.bind_some,cond_false];exact⟨_,rfl,L',rfl,hL'⟩) N0 (0,n.Nodes,n.Fibers,d,L) ⟨0,L,rfl,Nat.zero_le _,hL⟩ (bZ (by simp only;omega))
   obtain⟨L',e,hL'⟩:=o2;rw[o1,e];exact⟨L',rfl,hL'⟩
theorem HU{n:af}(hn:bM n=true){s d:Int}:∀(k m:Nat),k<m->∀(L:List au)(p q:List Int),rq n s p q->q.length+k=n.Nodes.length->OkL n L->L.length<=200->
 ∃L',wz m s n.Nodes n.Fibers d L p q=some (n.Nodes,n.Fibers,d,L',q)/\OkL n L'
 |0,0,h=>by omega
 | 0, m + 1, _ => fun L p q hp hq hL hl => by
   exact nl hn (k:=0) L p q (fun L1 p1 q1 hp1 hq1 e _ _=>by omega) hp (.inr ⟨rfl,by omega⟩) hL hl
 | k + 1, m, hm => fun L p q hp hq hL hl => by
   obtain⟨m,rfl⟩:∃m',m=m'+1:=⟨m-1,by omega⟩;exact nl hn (k:=k) L p q (fun L1 p1 q1 hp1 hq1 _ hL1 hl1=>HU hn k m (by omega) L1 p1 q1 hp1 hq1 hL1 hl1) hp (.inl (by omega)) hL hl
theorem Tx{n:af}(hn:bM n=true){a b:Int}(ha:0<=a/\a<(n.Nodes.length:Int)):∃ok L,LZ n a b=some (ok,L)/\L.length<=200/\∀r∈L,RtB n r:=by
 obtain⟨b1,b2,b3⟩:=jp hn;have hP:rq n a [] [a]:=⟨rfl,by simp,fun x hx=>by simp only[List.mem_singleton] at hx;rw[hx];exact ha,fun e he=>(by cases he),⟨ha.1,by omega⟩⟩;have e:QT a n.Nodes n.Fibers b [a]=DP (wz N0) a n.Nodes n.Fibers b [] [] [a]:=rfl;obtain⟨L',e1,e2,e3⟩:=nl hn (d:=b) (k:=n.Nodes.length-2) (rc:=wz N0) [] [] [a] (fun L1 p1 q1 hp1 hq1 _ hL1 hl1=>HU hn (n.Nodes.length-2) N0 (bZ (by omega)) L1 p1 q1 hp1 hq1 hL1 hl1) hP (.inl (by simp only[List.length_singleton];omega)) ⟨by simp,fun r hr=>by cases hr⟩ (by simp);unfold LZ;simp only[bnd];rw[e,e1,Option.bind_some];by_cases h:200<L'.length
 ·have e4:decide ((200:Int)<(L'.length:Int))=true:=by simp only[decide_eq_true_eq];omega
  rw[e4];exact⟨false,[],rfl,by simp,fun r hr=>by cases hr⟩
 ·have e4:decide ((200:Int)<(L'.length:Int))=false:=by simp only[decide_eq_false_iff_not];omega
  rw[e4,cond_false,aR (by simp only;omega),Option.bind_some];exact⟨true,L',rfl,by omega,e3⟩
def F2:List aU:=[⟨3000,10⟩,⟨900,20⟩]
theorem Uv(len:Int):∃r,MV F2 len=some r/\-1<=r/\r<2:=by
 unfold MV;obtain⟨b,b1,b2⟩:=br (f:=Jm F2 len) (fun s=>∃i:Nat,s.2=(i:Int)/\i<=2/\-1<=s.1/\s.1<(2:Int)) (fun s=>2-s.2.toNat) (fun b=>-1<=b/\b<(2:Int)) (fun s⟨i,e,hi,h1,h2⟩=>by
  obtain⟨x,y⟩:=s;simp only at e h1 h2;subst e;unfold Jm;by_cases h:i<2
  ·left;obtain⟨f,hf⟩:∃f,F2[i]?=some f:=⟨_,List.getElem?_eq_getElem (show i<F2.length from h)⟩;have e1:decide ((i:Int)<(F2.length:Int))=true:=by simp only[decide_eq_true_eq];show(i:Int)<2;omega
   simp only[e1,cond_true,aQ,hf,Option.bind_some];rw[aF (by omega) (by omega)];cases decide (len<=f.Reach) with
   |true=>exact⟨_,rfl,⟨i+1,rfl,by omega,by simp only;omega,by simp only;omega⟩,by simp only;omega⟩
   |false=>exact⟨_,rfl,⟨i+1,rfl,by omega,h1,h2⟩,by simp only;omega⟩
  ·right;have e1:decide ((i:Int)<(F2.length:Int))=false:=by simp only[decide_eq_false_iff_not];show¬(i:Int)<2;omega
   simp only[e1,cond_false];exact⟨_,rfl,h1,h2⟩) N0 (-1,0) ⟨0,rfl,by omega,by simp,by simp⟩ (bZ (by simp))
 exact⟨b,by rw[b1];rfl,b2.1,b2.2⟩
theorem yv(len rate:Int)(hr:1<=rate/\rate<=1000):∃x,rA F2 len rate=some x/\0<=x/\x<=24:=by
 obtain⟨r,r1,r2,r3⟩:=Uv len;unfold rA;rw[r1,Option.bind_some];by_cases h0:r<0
 ·exact⟨0,by rw[decide_eq_true h0];rfl,by omega,by omega⟩
 ·rw[decide_eq_false h0,cond_false];have key:∀q:Int,(q=10\/q=20)->∃x,((grd (q≠0)).bind fun _=>cond (decide (24<(IntKind.wrap .i64 (Int.tdiv (IntKind.wrap .i64 ((IntKind.wrap .i64 (rate+q))-1)) q)))) (some 0) (some (IntKind.wrap .i64 (Int.tdiv (IntKind.wrap .i64 ((IntKind.wrap .i64 (rate+q))-1)) q))))=some x/\0<=x/\x<=24:=fun q hq=>by
   have hq0:q≠0:=by omega
   rw[aR hq0,Option.bind_some,aF (n:=rate+q) (by omega) (by omega),aF (n:=rate+q-1) (by omega) (by omega)];have hd:0<=Int.tdiv (rate+q-1) q:=Int.tdiv_nonneg (by omega) (by omega);have hd2:Int.tdiv (rate+q-1) q<=rate+q-1:=by
    rw[Int.tdiv_eq_ediv_of_nonneg (by omega)];exact Int.ediv_le_self _ (by omega)
   rw[aF (by omega) (by omega)];by_cases h:24<Int.tdiv (rate+q-1) q
   ·rw[decide_eq_true h];exact⟨0,rfl,by omega,by omega⟩
   ·rw[decide_eq_false h];exact⟨_,rfl,hd,by omega⟩
  have hr01:r=0\/r=1:=by omega
  rcases hr01 with rfl|rfl
  ·exact key 10 (.inl rfl)
  ·exact key 20 (.inr rfl)
structure UsO(n:af)(Rs:List au)(Ss:List Int):Prop where
 len:Ss.length=Rs.length
 le:Rs.length<=200
 rt:∀r∈Rs,RtB n r
 sl:∀s∈Ss,0<=s/\s<=24
theorem EU{n:af}(hn:bM n=true){d:be}(hd:0<=d.From/\d.From<(n.Nodes.length:Int))(hr:1<=d.Rate/\d.Rate<=1000):∃ok Rs Ss,FA n 0 2 d F2=some (ok,Rs,Ss,F2)/\UsO n Rs Ss:=by
 obtain⟨ok,L,e1,e2,e3⟩:=Tx hn (b:=d.To) hd;unfold FA;rw[e1,Option.bind_some];cases ok with
 |false=>exact⟨false,[],[],rfl,rfl,by simp,fun r hr=>(by cases hr),fun r hr=>by cases hr⟩
 | true =>
   simp only[Bool.not_true,cond_false];obtain⟨b,b1,b2⟩:=br (f:=GJ n 0 2 d F2 (true,L)) (fun s=>∃i:Nat,s.1=(i:Int)/\i<=L.length/\s.2.1.length<=i/\UsO n s.2.1 s.2.2) (fun s=>L.length-s.1.toNat) (fun b=>UsO n b.1 b.2) (fun s⟨i,e,hi,hl,hU⟩=>by
    obtain⟨x,Rs,Ss⟩:=s;simp only at e hl hU;subst e;unfold GJ;by_cases h:i<L.length
    ·left;have hx:L[i]?=some L[i]:=List.getElem?_eq_getElem h;have hR:=e3 L[i] (List.getElem_mem h);obtain⟨z,z1,z2,z3⟩:=yv (km n L[i]) d.Rate hr;have e4:decide ((i:Int)<(L.length:Int))=true:=by simp[h]
     have e5:cK F2 0 2=F2:=rfl;simp only[e4,cond_true];rw[aR ⟨by omega,by omega⟩,Option.bind_some,Int.toNat_natCast,hx,Option.bind_some,eH hR,Option.bind_some];simp only[bnd,e5,z1,Option.bind_some];rw[aF (by omega) (by omega)];have hll:=hU.len;cases decide (0<z) with
     | true =>
       rw[cond_true,aR (by omega),Option.bind_some,aR (by omega),Option.bind_some];refine⟨_,rfl,⟨i+1,rfl,by omega,by simp;omega,by simp;omega,by simp;omega,fun r hr=>?_,fun q hq=>?_⟩,by simp only;omega⟩
       ·rcases List.mem_append.1 hr with h1|h1
        ·exact hU.rt r h1
        ·simp only[List.mem_singleton] at h1;rw[h1];exact hR
       ·rcases List.mem_append.1 hq with h1|h1
        ·exact hU.sl q h1
        ·simp only[List.mem_singleton] at h1;rw[h1];exact⟨z2,z3⟩
     |false=>exact⟨_,rfl,⟨i+1,rfl,by omega,by simp only;omega,hU⟩,by simp only;omega⟩
    ·right;have e4:decide ((i:Int)<(L.length:Int))=false:=by simp only[decide_eq_false_iff_not];omega
     simp only[e4,cond_false];exact⟨_,rfl,hU⟩) N0 (0,[],[]) ⟨0,rfl,by omega,by simp,rfl,by simp,fun r hr=>(by cases hr),fun r hr=>by cases hr⟩ (bZ (by simp only;omega))
   rw[b1,Option.bind_some];exact⟨true,b.1,b.2,rfl,b2⟩
theorem EJ{n:af}{Rs:List au}{Ss:List Int}(h:UsO n Rs Ss):∃r:Int,My Rs Ss=some r/\-1<=r/\r<(Rs.length:Int):=by
 have hle:=h.le;have hlen:=h.len;unfold My;obtain⟨b,b1,b2⟩:=br (f:=ME Rs Ss) (fun s=>∃i:Nat,s.2=(i:Int)/\i<=Rs.length/\-1<=s.1/\s.1<(i:Int)) (fun s=>Rs.length-s.2.toNat) (fun b=>-1<=b/\b<(Rs.length:Int)) (fun s⟨i,e,hi,h1,h2⟩=>by
  obtain⟨x,y⟩:=s;simp only at e h1 h2;subst e;unfold ME;by_cases hl:i<Rs.length
  ·left;have e1:decide ((i:Int)<(Rs.length:Int))=true:=by simp[hl]
   have hc:∃c:Bool,(cond (decide (x<0)) (some true) ((bu Ss (i:Int)).bind fun yZ4=>(bu Rs (i:Int)).bind fun yZ5=>(bu Ss x).bind fun yZ6=>(bu Rs x).bind fun yZ7=>some (decide ((IntKind.wrap .i64 (yZ4*(yZ5.Fibers.length:Int)))<(IntKind.wrap .i64 (yZ6*(yZ7.Fibers.length:Int)))))):Option Bool)=some c:=by
    by_cases hx:x<0
    ·exact⟨true,by rw[decide_eq_true hx];rfl⟩
    ·rw[decide_eq_false hx,cond_false,aQ,aQ,List.getElem?_eq_getElem (show i<Ss.length by omega),List.getElem?_eq_getElem hl];have hg1:bu Ss x=some (Ss[x.toNat]'(by omega)):=by unfold bu;rw[if_pos (by omega)];exact List.getElem?_eq_getElem _
     have hg2:bu Rs x=some (Rs[x.toNat]'(by omega)):=by unfold bu;rw[if_pos (by omega)];exact List.getElem?_eq_getElem _
     rw[hg1,hg2];exact⟨_,rfl⟩
   obtain⟨c,hc⟩:=hc;simp only[e1,cond_true,hc,Option.bind_some];rw[aF (by omega) (by omega)];cases c with
   |true=>exact⟨_,rfl,⟨i+1,rfl,by omega,by simp only;omega,by simp only;omega⟩,by simp only;omega⟩
   |false=>exact⟨_,rfl,⟨i+1,rfl,by omega,h1,by simp only;omega⟩,by simp only;omega⟩
  ·right;have e1:decide ((i:Int)<(Rs.length:Int))=false:=by simp only[decide_eq_false_iff_not];omega
   simp only[e1,cond_false];exact⟨_,rfl,h1,by omega⟩) N0 (-1,0) ⟨0,rfl,by omega,by simp,by simp⟩ (bZ (by simp only;omega))
 exact⟨b,by rw[b1];rfl,b2.1,b2.2⟩
theorem apT{n:af}(hn:bM n=true){a b:au}(ha:RtB n a)(hb:RtB n b):sI n a b=some (apP n a.Fibers b.Fibers):=by
 have h1:=ha.1;have h2:=hb.1;exact jH n a b (jp hn).2.2 (by omega) (by omega) ha.2.1
def PrI(m:Nat)(s:Int×Int×Int×Int):Prop:=(-1<=s.1/\s.1<(m:Int))/\(0<=s.1->0<=s.2.1/\s.2.1<(m:Int))
theorem Qr{n:af}(hn:bM n=true){Rs:List au}{Ss:List Int}(h:UsO n Rs Ss)(s1:Int×Int×Int×Int){i:Nat}(hi:s1.2.2.2=(i:Int))(hil:i<Rs.length)(x y w:Int)(h0:PrI Rs.length (x,y,w,0)):
 ∃b:Int×Int×Int,bl (M_r n Rs Ss s1) N0 (x,y,w,0)=some b/\PrI Rs.length (b.1,b.2.1,b.2.2,0):=by
 have hle:=h.le;have hlen:=h.len;obtain⟨b,b1,b2⟩:=br (f:=M_r n Rs Ss s1) (fun s=>∃j:Nat,s.2.2.2=(j:Int)/\j<=Rs.length/\PrI Rs.length (s.1,s.2.1,s.2.2.1,0)) (fun s=>Rs.length-s.2.2.2.toNat) (fun b=>PrI Rs.length (b.1,b.2.1,b.2.2,0)) (fun s⟨j,e,hj,hP⟩=>by
  obtain⟨x,y,w,z⟩:=s;simp only at e hP;subst e;by_cases hl:j<Rs.length
  ·left;have e1:decide ((j:Int)<(Rs.length:Int))=true:=by simp[hl]
   have g1:Ss[i]?=some (Ss[i]'(by omega)):=List.getElem?_eq_getElem _;have g2:Rs[i]?=some (Rs[i]'hil):=List.getElem?_eq_getElem _;have g3:Ss[j]?=some (Ss[j]'(by omega)):=List.getElem?_eq_getElem _;have g4:Rs[j]?=some (Rs[j]'hl):=List.getElem?_eq_getElem _;have ha:=apT hn (h.rt _ (List.getElem_mem hil)) (h.rt _ (List.getElem_mem hl));have hw:IntKind.wrap .i64 ((j:Int)+1)=((j+1:Nat):Int):=by rw[aF (by omega) (by omega)];rfl
   have stay:∃s',(some (.inl (x,y,w,IntKind.wrap .i64 ((j:Int)+1))):Option ((Int×Int×Int×Int)⊕(Int×Int×Int)))=some (.inl s')/\(∃j:Nat,s'.2.2.2=(j:Int)/\j<=Rs.length/\PrI Rs.length (s'.1,s'.2.1,s'.2.2.1,0))/\Rs.length-s'.2.2.2.toNat<Rs.length-((j:Int)).toNat:=
    ⟨_,rfl,⟨j+1,hw,by omega,hP⟩,by simp only[hw];omega⟩
   have go:∀q:Int,∃s',(some (.inl ((i:Int),(j:Int),q,IntKind.wrap .i64 ((j:Int)+1))):Option ((Int×Int×Int×Int)⊕(Int×Int×Int)))=some (.inl s')/\(∃j:Nat,s'.2.2.2=(j:Int)/\j<=Rs.length/\PrI Rs.length (s'.1,s'.2.1,s'.2.2.1,0))/\Rs.length-s'.2.2.2.toNat<Rs.length-((j:Int)).toNat:=fun q=>
    ⟨_,rfl,⟨j+1,hw,by omega,⟨by simp only;omega,fun _=>by simp only;omega⟩⟩,by simp only[hw];omega⟩
   unfold M_r;simp only[e1,cond_true,hi,aQ,g1,g2,g3,g4,Option.bind_some,ha];generalize IntKind.wrap .i64 (Ss[j]*(Rs[j].Fibers.length:Int))=u;generalize IntKind.wrap .i64 (Ss[i]*(Rs[i].Fibers.length:Int))=v;generalize apP n Rs[i].Fibers Rs[j].Fibers=c;cases((i:Int)==(j:Int))<;>cases decide (u<v)<;>cases(v==u)<;>cases decide ((j:Int)<(i:Int))<;>cases c<;>simp only[cond_true,cond_false,Option.bind_some,Bool.not_true,Bool.not_false]<;>first|exact stay|(split<;>first|exact stay|exact go _)|(cases decide (x<0)<;>simp only[cond_true,cond_false,Option.bind_some]<;>first|exact go _|(cases decide (IntKind.wrap .i64 (v+u)<w)<;>simp only[cond_true,cond_false]<;>first|exact stay|exact go _))
  ·right;have e1:decide ((j:Int)<(Rs.length:Int))=false:=by simp only[decide_eq_false_iff_not];omega
   unfold M_r;simp only[e1,cond_false];exact⟨_,rfl,hP⟩) N0 (x,y,w,0) ⟨0,rfl,by omega,h0⟩ (bZ (by simp only;omega))
 exact⟨b,b1,b2⟩
theorem OK{n:af}(hn:bM n=true){Rs:List au}{Ss:List Int}(h:UsO n Rs Ss):∃a b:Int,LN n Rs Ss=some (a,b)/\(-1<=a/\a<(Rs.length:Int))/\(0<=a->0<=b/\b<(Rs.length:Int)):=by
 have hle:=h.le;unfold LN;obtain⟨b,b1,b2⟩:=br (f:=Mb n Rs Ss) (fun s=>∃j:Nat,s.2.2.2=(j:Int)/\j<=Rs.length/\PrI Rs.length (s.1,s.2.1,s.2.2.1,0)) (fun s=>Rs.length-s.2.2.2.toNat) (fun b=>PrI Rs.length (b.1,b.2,0,0)) (fun s⟨j,e,hj,hP⟩=>by
  obtain⟨x,y,w,z⟩:=s;simp only at e hP;subst e;unfold Mb;by_cases hl:j<Rs.length
  ·left;have e1:decide ((j:Int)<(Rs.length:Int))=true:=by simp[hl]
   have hw:IntKind.wrap .i64 ((j:Int)+1)=((j+1:Nat):Int):=by rw[aF (by omega) (by omega)];rfl
   obtain⟨c,c1,c2⟩:=Qr hn h (x,y,w,(j:Int)) rfl hl x y w hP;simp only[e1,cond_true,c1,Option.bind_some];exact⟨_,rfl,⟨j+1,hw,by omega,c2⟩,by simp only[hw];omega⟩
  ·right;have e1:decide ((j:Int)<(Rs.length:Int))=false:=by simp only[decide_eq_false_iff_not];omega
   simp only[e1,cond_false];exact⟨_,rfl,hP⟩) N0 (-1,-1,0,0) ⟨0,rfl,by omega,⟨by simp only;omega,fun h=>by simp only at h;omega⟩⟩ (bZ (by simp only;omega))
 exact⟨b.1,b.2,by rw[b1];rfl,b2.1,b2.2⟩
theorem xN{S B:Type}{f:S->Option (S⊕B)}(st:Nat->S)(k:Nat)(r:B)(h1:∀j,j<k->f (st j)=some (.inl (st (j+1))))(h2:f (st k)=some (.inr r))(hk:k<1000000):bl f N0 (st 0)=some r:=by
 have:=cx (f:=f) (List.range k) (fun i(_:Unit)=>st i) (fun _ _ _=>.inl ()) (fun _=>r) (fun _ _=>True) (fun i a x hx _=>by
  have hlt:=(List.getElem?_eq_some_iff.1 hx).1;rw[List.length_range] at hlt;exact .inl ⟨(),rfl,trivial,h1 i hlt⟩) (fun a _=>by rw[List.length_range];exact h2) () trivial (by rw[List.length_range];omega)
 rw[this];have gen:∀(ys:List Nat)(i:Nat),bL (fun _(_:Nat)(_:Unit)=>(.inl ():Unit⊕B)) (fun _=>r) i ys ()=r:=by
  intro ys;induction ys with
  |nil=>intro i;rfl
  |cons y ys ih=>intro i;exact ih (i+1)
 rw[gen]
theorem Ak:Ke F2=some true:=by
 have h:bl (FL F2) N0 0=some (.inl ()):=by
  have:=xN (f:=FL F2) (fun j=>(j:Int)) 2 (.inl ()) (fun j hj=>by
   match j,hj with
   |0,_=>rfl
   |1,_=>rfl) rfl (by omega)
  exact this
 unfold Ke;rw[h];rfl
def DmO(n:af)(d:be):Prop:=(0<=d.From/\d.From<(n.Nodes.length:Int))/\(1<=d.Rate/\d.Rate<=1000)
theorem Ba{n:af}(hn:bM n=true)(d:be):∃b,Ii n d=some b/\(b=true->DmO n d):=by
 obtain⟨b1,b2,b3⟩:=df hn;unfold Ii;simp only[gu,Option.bind_some];rw[aF (n:=(n.Nodes.length:Int)-1) (by omega) (by omega)];cases h1:wi d.From 0 ((n.Nodes.length:Int)-1) with
 |false=>exact⟨false,rfl,fun h=>by cases h⟩
 | true =>
   cases h2:wi d.To 0 ((n.Nodes.length:Int)-1) with
   |false=>exact⟨false,rfl,fun h=>by cases h⟩
   | true =>
     cases d.From !=d.To with
     |false=>exact⟨false,rfl,fun h=>by cases h⟩
     | true =>
       cases h3:wi d.Rate 1 1000 with
       |false=>exact⟨false,rfl,fun h=>by cases h⟩
       | true =>
         have:=cG.1 h1;have:=cG.1 h3;exact⟨_,rfl,fun _=>⟨by omega,by omega⟩⟩
theorem Mf(n:af)(d:be)(hz:bH n<=1048576):∃ok Rs Ss,Bx n 0 2 d F2=some (ok,Rs,Ss,F2)/\UsO n Rs Ss/\(Rs≠[]\/ok=true->bM n=true/\DmO n d):=by
 have e5:cK F2 0 2=F2:=rfl;unfold Bx;simp only[nC n hz,Option.bind_some,bnd,e5,Ak];cases hn:bM n with
 |false=>exact⟨false,[],[],rfl,⟨rfl,by simp,fun r hr=>(by cases hr),fun r hr=>(by cases hr)⟩,fun h=>by rcases h with h|h;exact absurd rfl h;cases h⟩
 | true =>
   obtain⟨b,b1,b2⟩:=Ba hn d;simp only[Bool.not_true,cond_false,b1,Option.bind_some];cases b with
   |false=>exact⟨false,[],[],rfl,⟨rfl,by simp,fun r hr=>(by cases hr),fun r hr=>(by cases hr)⟩,fun h=>by rcases h with h|h;exact absurd rfl h;cases h⟩
   | true =>
     obtain⟨ok,Rs,Ss,u1,u2⟩:=EU hn (b2 rfl).1 (b2 rfl).2;simp only[Bool.not_true,cond_false,u1,Option.bind_some];exact⟨ok,Rs,Ss,rfl,u2,fun _=>⟨trivial,b2 rfl⟩⟩
theorem rt0(n:af):RtB n ⟨0,[]⟩:=⟨by simp,fun e he=>(by cases he),by simp,by simp⟩
theorem Mt(n:af)(d:be)(hz:bH n<=1048576):∃r q f,Kp n 0 2 d F2=some (r,q,f,F2)/\RtB n r/\(f=true->bM n=true/\DmO n d):=by
 obtain⟨ok,Rs,Ss,u1,u2,u3⟩:=Mf n d hz;obtain⟨k,k1,k2,k3⟩:=EJ u2;have hlen:=u2.len;unfold Kp;rw[u1,Option.bind_some];simp only[k1,Option.bind_some];cases ok with
 |false=>exact⟨_,_,_,rfl,rt0 n,fun h=>by cases h⟩
 | true =>
   by_cases h0:k<0
   ·simp only[Bool.not_true,cond_false,decide_eq_true h0,Option.bind_some,cond_true];exact⟨_,_,_,rfl,rt0 n,fun h=>by cases h⟩
   ·simp only[Bool.not_true,cond_false,decide_eq_false h0,Option.bind_some];have hk:k.toNat<Rs.length:=by omega
    rw[aR ⟨by omega,k3⟩,Option.bind_some,List.getElem?_eq_getElem hk,Option.bind_some,aR ⟨by omega,by omega⟩,Option.bind_some,List.getElem?_eq_getElem (show k.toNat<Ss.length by omega),Option.bind_some];exact⟨_,_,_,rfl,u2.rt _ (List.getElem_mem hk),fun _=>u3 (.inr rfl)⟩
theorem Ko(n:af)(d:be)(hz:bH n<=1048576):∃r q f,DM n 0 2 d F2=some (r,q,f,F2)/\RtB n r/\RtB n q/\(f=true->bM n=true/\DmO n d):=by
 obtain⟨ok,Rs,Ss,u1,u2,u3⟩:=Mf n d hz;unfold DM;rw[u1,Option.bind_some];cases ok with
 |false=>exact⟨_,_,_,rfl,rt0 n,rt0 n,fun h=>by cases h⟩
 | true =>
   obtain⟨hn,hd⟩:=u3 (.inr rfl);obtain⟨a,b,k1,k2,k3⟩:=OK hn u2;simp only[Bool.not_true,cond_false,k1,Option.bind_some];by_cases h0:a<0
   ·simp only[decide_eq_true h0,cond_true];exact⟨_,_,_,rfl,rt0 n,rt0 n,fun h=>by cases h⟩
   ·obtain⟨k4,k5⟩:=k3 (by omega);have ha:a.toNat<Rs.length:=by omega
    have hb:b.toNat<Rs.length:=by omega
    simp only[decide_eq_false h0,cond_false];rw[aR ⟨by omega,k2.2⟩,Option.bind_some,List.getElem?_eq_getElem ha,Option.bind_some,aR ⟨k4,k5⟩,Option.bind_some,List.getElem?_eq_getElem hb,Option.bind_some];exact⟨_,_,_,rfl,u2.rt _ (List.getElem_mem ha),u2.rt _ (List.getElem_mem hb),fun _=>⟨hn,hd⟩⟩
def RtF(n:af)(r:au):Prop:=r.Fibers.length<=20/\∀e∈r.Fibers,0<=e/\e<(n.Fibers.length:Int)
structure SvR(n:af)(s:ah):Prop where
 wr:RtF n s.Work
 sr:RtF n s.Spare
 wb:eT s.WorkBlock
 sb:eT s.SpareBlock
theorem RtB.f{n:af}{r:au}(h:RtB n r):RtF n r:=⟨h.1,h.2.1⟩
theorem kT.r{n:af}{s:ah}(h:kT n s):SvR n s:=
 ⟨⟨by have:=h.wr.len;omega,h.wr.fib⟩,⟨by have:=h.sr.len;omega,h.sr.fib⟩,h.wb,h.sb⟩
theorem NH{n:af}(hn:bM n=true){a b:ah}(ha:SvR n a)(hb:SvR n b):∃c,tj n a b=some c:=by
 have a1:=ha.wr.1;have a2:=ha.sr.1;have b1:=hb.wr.1;have b2:=hb.sr.1;have hF:=(df hn).2.2;unfold tj;simp only[dq a.Work a.WorkBlock b.Work b.WorkBlock (by omega) (by omega) ha.wb hb.wb,dq a.Work a.WorkBlock b.Spare b.SpareBlock (by omega) (by omega) ha.wb hb.sb,dq a.Spare a.SpareBlock b.Work b.WorkBlock (by omega) (by omega) ha.sb hb.wb,dq a.Spare a.SpareBlock b.Spare b.SpareBlock (by omega) (by omega) ha.sb hb.sb,jH n a.Work b.Work hF (by omega) (by omega) ha.wr.2,Option.bind_some];cases cm a.Work a.WorkBlock b.Work b.WorkBlock<;>cases cm a.Work a.WorkBlock b.Spare b.SpareBlock<;>cases cm a.Spare a.SpareBlock b.Work b.WorkBlock<;>cases a.Class==2<;>cases b.Class==2<;>cases apP n a.Work.Fibers b.Work.Fibers<;>exact⟨_,rfl⟩
theorem yJ{n:af}(hn:bM n=true){list:List ah}(hl:list.length<=1000)(hs:∀x∈list,SvR n x){s:ah}(h:SvR n s):∃c,AU n list s=some c:=by
 unfold AU;obtain⟨b,b1,_⟩:=br (f:=Jj n list s) (fun t=>∃i:Nat,t=(i:Int)/\i<=list.length) (fun t=>list.length-t.toNat) (fun _=>True) (fun t⟨i,e,hi⟩=>by
  subst e;unfold Jj;by_cases h3:i<list.length
  ·have e1:decide ((i:Int)<(list.length:Int))=true:=by simp[h3]
   obtain⟨c,hc⟩:=NH hn (hs _ (List.getElem_mem h3)) h;simp only[e1,cond_true,aQ,List.getElem?_eq_getElem h3,Option.bind_some,hc];rw[aF (by omega) (by omega)];cases c with
   |false=>exact .inr ⟨_,rfl,trivial⟩
   |true=>exact .inl ⟨_,rfl,⟨i+1,rfl,by omega⟩,by(try simp only);omega⟩
  ·have e1:decide ((i:Int)<(list.length:Int))=false:=by simp only[decide_eq_false_iff_not];omega
   simp only[e1,cond_false];exact .inr ⟨_,rfl,trivial⟩) N0 0 ⟨0,rfl,by omega⟩ (bZ (by(try simp only);omega))
 rw[b1];cases b<;>exact⟨_,rfl⟩
theorem Le{n:af}(hn:bM n=true){list:List ah}(hl:list.length<=1000)(hs:∀x∈list,SvR n x)(s:ah)(hw:RtF n s.Work)(hp:RtF n s.Spare)(a b:Int)(ha:0<=a/\a<=24)(hb:0<=b/\b<=24):
 ∃s' c,HR n 0 list.length s a b list=some (s',c,list)/\s'.Work=s.Work/\(s'.Spare=s.Spare):=by
 have b00:eT ⟨0,0⟩:=⟨⟨by simp,by simp⟩,by simp,by simp⟩;have r0:RtF n ⟨0,[]⟩:=⟨by simp,fun e he=>(by cases he)⟩;unfold HR;obtain⟨o,o1,o2⟩:=br (f:=Fw n 0 list.length s a list) (fun t=>∃i:Nat,t.1=(i:Int)/\i<=25/\t.2.Work=s.Work/\t.2.Spare=⟨0,[]⟩/\eT t.2.SpareBlock) (fun t=>26-t.1.toNat) (fun o=>match o with| .inl v=>v.Work=s.Work/\eT v.WorkBlock| .inr x=>x=(s,false,list)) (fun t⟨i,e,hi,t1,t2,t3⟩=>by
  obtain⟨x,v⟩:=t;simp only at e t1 t2 t3;subst e;unfold Fw;simp only[bnd,eN];rw[aF (n:=(i:Int)+a) (by omega) (by omega)];by_cases h:24<(i:Int)+a
  ·right;rw[decide_eq_true h];exact⟨_,rfl,rfl⟩
  ·rw[decide_eq_false h,cond_false];have hblk:eT ⟨(i:Int),a⟩:=⟨⟨by simp only;omega,by simp only;omega⟩,by simp only;omega,by simp only;omega⟩;obtain⟨c,hc⟩:=yJ hn hl hs (s:=⟨v.Id,v.Class,⟨v.Work.Start,v.Work.Fibers⟩,⟨(i:Int),a⟩,⟨v.Spare.Start,v.Spare.Fibers⟩,⟨v.SpareBlock.First,v.SpareBlock.Count⟩⟩) ⟨by show RtF n v.Work;rw[t1];exact hw,by show RtF n v.Spare;rw[t2];exact r0,hblk,t3⟩;rw[hc,Option.bind_some];cases c with
   |true=>right;exact⟨_,rfl,t1,hblk⟩
   | false =>
     left;refine⟨_,rfl,⟨i+1,?_,by omega,t1,t2,t3⟩,?_⟩
     ·simp only;rw[aF (by omega) (by omega)];rfl
     ·simp only;rw[aF (by omega) (by omega)];omega) N0 (0,⟨0,0,⟨s.Work.Start,s.Work.Fibers⟩,⟨0,0⟩,⟨0,[]⟩,⟨0,0⟩⟩) ⟨0,rfl,by omega,rfl,rfl,b00⟩ (bZ (by simp only;omega))
 rw[o1,Option.bind_some];cases o with
 | inr x =>
   simp only at o2⊢;rw[o2];exact⟨s,false,rfl,rfl,rfl⟩
 | inl v =>
   simp only at o2⊢;cases s.Class==0 with
   |true=>exact⟨_,true,rfl,rfl,rfl⟩
   | false =>
     rw[cond_false];obtain⟨q,q1,q2⟩:=br (f:=KF n 0 list.length b list) (fun t=>∃i:Nat,t.1=(i:Int)/\i<=25/\t.2.Work=s.Work/\t.2.Spare=s.Spare/\eT t.2.WorkBlock) (fun t=>26-t.1.toNat) (fun o=>match o with| .inl v=>v.Work=s.Work/\v.Spare=s.Spare| .inr x=>x.1.Work=s.Work/\x.1.Spare=s.Spare/\x.2.2=list) (fun t⟨i,e,hi,t1,t2,t3⟩=>by
      obtain⟨x,v⟩:=t;simp only at e t1 t2 t3;subst e;unfold KF;simp only[bnd,eN];rw[aF (n:=(i:Int)+b) (by omega) (by omega)];by_cases h:(i:Int)+b<=24
      ·rw[decide_eq_true h,cond_true];have hblk:eT ⟨(i:Int),b⟩:=⟨⟨by simp only;omega,by simp only;omega⟩,by simp only;omega,by simp only;omega⟩;obtain⟨c,hc⟩:=yJ hn hl hs (s:=⟨v.Id,v.Class,⟨v.Work.Start,v.Work.Fibers⟩,⟨v.WorkBlock.First,v.WorkBlock.Count⟩,⟨v.Spare.Start,v.Spare.Fibers⟩,⟨(i:Int),b⟩⟩) ⟨by show RtF n v.Work;rw[t1];exact hw,by show RtF n v.Spare;rw[t2];exact hp,t3,hblk⟩;rw[hc,Option.bind_some];cases c with
       |true=>right;exact⟨_,rfl,t1,t2,rfl⟩
       | false =>
         left;refine⟨_,rfl,⟨i+1,?_,by omega,t1,t2,t3⟩,?_⟩
         ·simp only;rw[aF (by omega) (by omega)];rfl
         ·simp only;rw[aF (by omega) (by omega)];omega
      ·right;rw[decide_eq_false h,cond_false];exact⟨_,rfl,t1,t2⟩) N0 (0,⟨s.Id,s.Class,⟨s.Work.Start,s.Work.Fibers⟩,⟨v.WorkBlock.First,v.WorkBlock.Count⟩,⟨s.Spare.Start,s.Spare.Fibers⟩,⟨s.SpareBlock.First,s.SpareBlock.Count⟩⟩) ⟨0,rfl,by omega,rfl,rfl,o2.2⟩ (bZ (by simp only;omega))
     rw[q1,Option.bind_some];cases q with
     |inl u=>exact⟨u,false,rfl,q2.1,q2.2⟩
     | inr x =>
       obtain⟨u,c,l⟩:=x;simp only at q2⊢;rw[q2.2.2];exact⟨u,c,rfl,q2.1,q2.2.1⟩
theorem HZ(s:ah)(h1:s.Work.Fibers.length<=1000)(h2:s.Spare.Fibers.length<=1000):wl s=some s:=by
 unfold wl GY M_q;rw[aR (by omega)];simp only[Option.bind_some];rw[aR (by omega)];rfl
def SvL(s:ah):Prop:=s.Work.Fibers.length<=1000/\s.Spare.Fibers.length<=1000
theorem UD{list:List ah}(hl:list.length<=1000)(hs:∀x∈list,SvL x)(s:ah)(h:SvL s):∃L,FB list s=some L/\L.length=list.length+1/\∀x∈L,x∈list\/x=s:=by
 unfold FB;obtain⟨o,o1,k,o2,o3,o4,o5⟩:=br (f:=Ju list s) (fun t=>∃i:Nat,t.1=(i:Int)/\i<=list.length/\t.2.length=i/\∀x∈t.2,x∈list) (fun t=>list.length-t.1.toNat) (fun o=>∃i:Nat,o.1=(i:Int)/\i<=list.length/\o.2.length=i/\∀x∈o.2,x∈list) (fun t⟨i,e,hi,t1,t2⟩=>by
  obtain⟨x,acc⟩:=t;simp only at e t1 t2;subst e;unfold Ju;by_cases h3:i<list.length
  ·have e1:decide ((i:Int)<(list.length:Int))=true:=by simp[h3]
   have g:=List.getElem?_eq_getElem h3;have hm:=List.getElem_mem h3;have ho:=HZ list[i] (hs _ hm).1 (hs _ hm).2;simp only[e1,cond_true,aQ,g,Option.bind_some,ho,bnd];cases decide (list[i].Id<s.Id) with
   |false=>exact .inr ⟨_,rfl,i,rfl,hi,t1,t2⟩
   | true =>
     rw[cond_true,aR (by omega),Option.bind_some,aF (by omega) (by omega)];exact .inl ⟨_,rfl,⟨i+1,rfl,by omega,by simp[t1],fun y hy=>by
      rcases List.mem_append.1 hy with h4|h4
      ·exact t2 y h4
      ·simp only[List.mem_singleton] at h4;rw[h4];exact hm⟩,by simp only;omega⟩
  ·have e1:decide ((i:Int)<(list.length:Int))=false:=by simp only[decide_eq_false_iff_not];omega
   simp only[e1,cond_false,Option.bind_some];exact .inr ⟨_,rfl,i,rfl,hi,t1,t2⟩) N0 (0,[]) ⟨0,rfl,by omega,rfl,fun x hx=>(by cases hx)⟩ (bZ (by simp only;omega))
 rw[o1,Option.bind_some,HZ s h.1 h.2,Option.bind_some];simp only[bnd];rw[aR (by omega),Option.bind_some];obtain⟨q,q1,q2,q3⟩:=br (f:=Hm list) (fun t=>∃i:Nat,t.1=(i:Int)/\i<=list.length/\t.2.length=i+1/\∀x∈t.2,x∈list\/x=s) (fun t=>list.length-t.1.toNat) (fun o=>o.length=list.length+1/\∀x∈o,x∈list\/x=s) (fun t⟨i,e,hi,t1,t2⟩=>by
  obtain⟨x,acc⟩:=t;simp only at e t1 t2;subst e;unfold Hm;by_cases h3:i<list.length
  ·have e1:decide ((i:Int)<(list.length:Int))=true:=by simp[h3]
   have g:=List.getElem?_eq_getElem h3;have hm:=List.getElem_mem h3;have ho:=HZ list[i] (hs _ hm).1 (hs _ hm).2;simp only[e1,cond_true,aQ,g,Option.bind_some,ho,bnd];rw[aR (by omega),Option.bind_some,aF (by omega) (by omega)];exact .inl ⟨_,rfl,⟨i+1,rfl,by omega,by simp[t1],fun y hy=>by
    rcases List.mem_append.1 hy with h4|h4
    ·exact t2 y h4
    ·simp only[List.mem_singleton] at h4;rw[h4];exact .inl hm⟩,by simp only;omega⟩
  ·have e1:decide ((i:Int)<(list.length:Int))=false:=by simp only[decide_eq_false_iff_not];omega
   simp only[e1,cond_false];exact .inr ⟨_,rfl,by omega,t2⟩) N0 (o.1,o.2++[s]) ⟨k,o2,o3,by simp[o4],fun y hy=>by
    rcases List.mem_append.1 hy with h4|h4
    ·exact .inl (o5 y h4)
    ·simp only[List.mem_singleton] at h4;exact .inr h4⟩ (bZ (by simp only;omega))
 have es:(⟨s.Id,s.Class,⟨s.Work.Start,s.Work.Fibers⟩,⟨s.WorkBlock.First,s.WorkBlock.Count⟩,⟨s.Spare.Start,s.Spare.Fibers⟩,⟨s.SpareBlock.First,s.SpareBlock.Count⟩⟩:ah)=s:=rfl;rw[es,q1,Option.bind_some];exact⟨q,rfl,q2,q3⟩
theorem tX{n:af}{r:au}(h:RtB n r){d:be}(hd:DmO n d):∃x,((ox n r).bind fun l=>rA F2 l d.Rate)=some x/\0<=x/\x<=24:=by
 obtain⟨x,x1,x2⟩:=yv (km n r) d.Rate hd.2;exact⟨x,by rw[eH h,Option.bind_some,x1],x2⟩
theorem Vt(n:af)(d:be)(list:List ah)(hz:bH n<=1048576)(hl:bQ list<=1048576)(hL:∀x∈list,SvL x):
 ∃id ok L,JG n 0 2 0 list.length d F2 list=some (id,ok,L,F2,list)/\(ok=true->L.length<=9/\∀x∈L,SvL x):=by
 have hll:=Fs hl;have no:∀p:Prop,((false:Bool)=true->p):=fun p h=>by cases h
 unfold JG;simp only[bnd,eN,lH n list hz hl,Option.bind_some];cases hg:gL n list with
 |false=>exact⟨_,_,_,rfl,no _⟩
 | true =>
   have hI:=mf hg;have hn:=hI.net;have h8:=hI.len;have hR:∀x∈list,SvR n x:=fun x hx=>(hI.svc x hx).r;simp only[Bool.not_true,cond_false,Option.bind_some];cases h88:((list.length:Int)==8) with
   |true=>exact⟨_,_,_,rfl,no _⟩
   | false =>
     rw[cond_false];obtain⟨o,o1,o2,o3⟩:=br (f:=EO 0 list.length list) (fun t=>∃i:Nat,t.1=(i:Int)/\i<=list.length/\t.2.Work=⟨0,[]⟩/\t.2.Spare=⟨0,[]⟩) (fun t=>list.length-t.1.toNat) (fun o=>o.Work=⟨0,[]⟩/\o.Spare=⟨0,[]⟩) (fun t⟨i,e,hi,t1,t2⟩=>by
      obtain⟨x,v⟩:=t;simp only at e t1 t2;subst e;unfold EO;by_cases h3:i<list.length
      ·have e1:decide ((i:Int)<(list.length:Int))=true:=by simp[h3]
       simp only[e1,cond_true];rw[aR ⟨by omega,by omega⟩,Option.bind_some,Int.toNat_natCast,Nat.zero_add,List.getElem?_eq_getElem h3,Option.bind_some,Option.bind_some];cases list[i].Id==v.Id with
       |false=>exact .inr ⟨_,rfl,t1,t2⟩
       | true =>
         rw[cond_true,aF (n:=(i:Int)+1) (by omega) (by omega)];exact .inl ⟨_,rfl,⟨i+1,rfl,by omega,t1,t2⟩,by simp only;omega⟩
      ·have e1:decide ((i:Int)<(list.length:Int))=false:=by simp only[decide_eq_false_iff_not];omega
       simp only[e1,cond_false,Option.bind_some];exact .inr ⟨_,rfl,t1,t2⟩) N0 (0,⟨1,d.Class,⟨0,[]⟩,⟨0,0⟩,⟨0,[]⟩,⟨0,0⟩⟩) ⟨0,rfl,by omega,rfl,rfl⟩ (bZ (by simp only;omega))
     rw[o1,Option.bind_some];obtain⟨r,q,f,c1,c2,c3⟩:=Mt n d hz;simp only[c1,Option.bind_some]
     -- the routes
     have hmid:∃(g:Bool)(v:ah)(w:au),((cond (d.Class !=0) ((DM n 0 2 d F2).bind fun rZ16=>some (rZ16.2.2.1,(⟨o.Id,o.Class,⟨o.Work.Start,o.Work.Fibers⟩,⟨o.WorkBlock.First,o.WorkBlock.Count⟩,⟨rZ16.2.1.Start,rZ16.2.1.Fibers⟩,⟨o.SpareBlock.First,o.SpareBlock.Count⟩⟩:ah),rZ16.1,rZ16.2.2.2)) (some (f,o,r,F2)):Option (Bool×ah×au×List aU)))=some (g,v,w,F2)/\RtB n w/\RtB n v.Spare/\(g=true->DmO n d):=by
      cases d.Class !=0 with
      |false=>exact⟨f,o,r,rfl,c2,by rw[o3];exact rt0 n,fun h=>(c3 h).2⟩
      | true =>
        obtain⟨x,y,g,k1,k2,k3,k4⟩:=Ko n d hz;exact⟨g,_,x,by rw[k1];rfl,k2,k3,fun h=>(k4 h).2⟩
     obtain⟨g,v,w,m1,m2,m3,m4⟩:=hmid;rw[m1,Option.bind_some];simp only;cases g with
     |false=>exact⟨_,_,_,rfl,no _⟩
     | true =>
       have hd:=m4 rfl;obtain⟨x1,y1,y2⟩:=tX m3 hd;obtain⟨x2,y3,y4⟩:=tX m2 hd;have e5:cK F2 0 2=F2:=rfl;have hsp:∃b,(cond (d.Class !=0) ((ox n v.Spare).bind fun rZ20=>(rA F2 rZ20 d.Rate).bind fun rZ23=>some rZ23) (some 0):Option Int)=some b/\0<=b/\b<=24:=by
        cases d.Class !=0 with
        |false=>exact⟨0,rfl,by omega,by omega⟩
        | true =>
          refine⟨x1,?_,y2⟩;rw[cond_true];simpa using y1
       obtain⟨b,hb1,hb2⟩:=hsp;simp only[Bool.not_true,cond_false,e5,hb1,Option.bind_some];have y3':=y3;rw[eH m2,Option.bind_some] at y3';rw[eH m2,Option.bind_some,y3',Option.bind_some];obtain⟨s',c,p1,p2,p3⟩:=Le hn (list:=list) (by omega) hR (⟨v.Id,v.Class,⟨w.Start,w.Fibers⟩,⟨v.WorkBlock.First,v.WorkBlock.Count⟩,⟨v.Spare.Start,v.Spare.Fibers⟩,⟨v.SpareBlock.First,v.SpareBlock.Count⟩⟩:ah) m2.f m3.f x2 b y4 hb2;rw[p1,Option.bind_some];cases c with
       |false=>exact⟨_,_,_,rfl,no _⟩
       | true =>
         have hsl:SvL s':=by
          have h1:=m2.1;have h2:=m3.1;unfold SvL;rw[p2,p3];exact⟨by simp only;omega,by simp only;omega⟩
         obtain⟨L,l1,l2,l3⟩:=UD (list:=list) (by omega) hL s' hsl;simp only[Bool.not_true,cond_false,eN,l1,Option.bind_some];refine⟨_,true,L,rfl,fun _=>⟨by omega,fun x hx=>?_⟩⟩;rcases l3 x hx with h|h
         ·exact hL x h
         ·rw[h];exact hsl
end Vs

namespace Vs
open Go
structure bw(c:aw)(m:Nat):Prop where
 by8:∀x∈c.code,0<=x/\x<=255
 len:c.code.length<=65536
 at0:0<=c.atF
 atm:c.atF<=(m:Int)
theorem VI(x:Int):0<=bits .and .u64 x 255/\bits .and .u64 x 255<=255:=by
 have h:(BitVec.ofInt (IntKind.bits .u64) x &&& BitVec.ofInt (IntKind.bits .u64) 255).toNat<=255:=by
  rw[BitVec.toNat_and];exact Nat.le_trans Nat.and_le_right (by decide)
 unfold bits;simp only;generalize (BitVec.ofInt (IntKind.bits .u64) x &&& BitVec.ofInt (IntKind.bits .u64) 255).toNat=k at h;have:IntKind.wrap .u64 (k:Int)=(k:Int):=by
  unfold IntKind.wrap;simp[IntKind.bits,IntKind.signed];omega
 rw[this];omega
theorem Ja{c:aw}{m:Nat}(h:bw c m)(hm:m<=1000000000000):∃b c',Cp c=some (b,c')/\0<=b/\b<=255/\bw c' (m+1):=by
 obtain⟨h1,h2,h3,h4⟩:=h;have hb:∃b,(cond (decide (c.atF<(c.code.length:Int))) ((bu c.code c.atF).bind fun yZ2=>some (IntKind.wrap .i64 yZ2)) (some 0):Option Int)=some b/\0<=b/\b<=255:=by
  by_cases e:c.atF<(c.code.length:Int)
  ·rw[decide_eq_true e,cond_true];have hlt:c.atF.toNat<c.code.length:=by omega
   have hg:bu c.code c.atF=some c.code[c.atF.toNat]:=by
    unfold bu;rw[if_pos h3];exact List.getElem?_eq_getElem hlt
   have:=h1 _ (List.getElem_mem hlt);rw[hg];refine⟨c.code[c.atF.toNat],?_,this.1,this.2⟩;simp only[Option.bind_some];rw[aF (by omega) (by omega)]
  ·rw[decide_eq_false e,cond_false];exact⟨0,rfl,by omega,by omega⟩
 obtain⟨b,b1,b2,b3⟩:=hb;unfold Cp;rw[b1];simp only[Option.bind_some];rw[aF (n:=c.atF+1) (by omega) (by omega)];by_cases e:c.atF+1<=(c.code.length:Int)
 ·rw[decide_eq_true e,cond_true];exact⟨_,_,rfl,b2,b3,⟨h1,h2,by simp only;omega,by simp only;omega⟩⟩
 ·rw[decide_eq_false e,cond_false];have h5:=VI (Int.fdiv (IntKind.wrap .u64 ((IntKind.wrap .u64 ((IntKind.wrap .u64 (c.seed*6364136223846793005))+(IntKind.wrap .u64 b)))+897897)) (2^(min (Int.toNat 40) (IntKind.bits .u64))));refine⟨_,_,rfl,?_,?_,⟨h1,h2,by simp only;omega,by simp only;omega⟩⟩
  ·rw[aF (by omega) (by omega)];exact h5.1
  ·rw[aF (by omega) (by omega)];exact h5.2
theorem bW{c:aw}{m:Nat}(n:Int)(h:bw c m)(hm:m<=100000000000):∃x c',M_b n c=some (x,c')/\0<=x/\(x<n\/x=0)/\bw c' (m+2):=by
 unfold M_b;by_cases e:n<=1
 ·rw[decide_eq_true e,cond_true];exact⟨0,c,rfl,by omega,.inr rfl,⟨h.by8,h.len,h.at0,by have:=h.atm;omega⟩⟩
 ·rw[decide_eq_false e,cond_false];obtain⟨b,c1,g1,g2,g3,g4⟩:=Ja h (by omega);rw[g1];simp only[Option.bind_some];by_cases e2:200<n
  ·rw[decide_eq_true e2,cond_true];obtain⟨b',c2,k1,k2,k3,k4⟩:=Ja g4 (by omega);rw[k1];simp only[Option.bind_some];rw[aR (by omega)];simp only[Option.bind_some];refine⟨_,_,rfl,?_,.inl ?_,k4⟩
   ·rw[aF (n:=b*256) (by omega) (by omega),aF (by omega) (by omega)];exact Int.tmod_nonneg _ (by omega)
   ·exact Int.tmod_lt_of_pos _ (by omega)
  ·rw[decide_eq_false e2,cond_false,aR (by omega)];simp only[Option.bind_some];exact⟨_,_,rfl,Int.tmod_nonneg _ g2,.inl (Int.tmod_lt_of_pos _ (by omega)),⟨g4.by8,g4.len,g4.at0,by have:=g4.atm;omega⟩⟩
theorem bw.up{c:aw}{m k:Nat}(h:bw c m)(hk:m<=k):bw c k:=⟨h.by8,h.len,h.at0,by have:=h.atm;omega⟩
theorem yZ{c:aw}{m:Nat}(n:Int)(h:bw c m)(hm:m<=100000000000):∃b c',rJ n c=some (b,c')/\bw c' (m+2):=by
 obtain⟨x,c1,g1,g2,g3,g4⟩:=bW n h hm;unfold rJ;rw[g1];exact⟨_,_,rfl,g4⟩
theorem dX{c:aw}{m:Nat}(l:List Int)(h:bw c m)(hm:m<=100000000000)(hl:0<l.length):∃x c',M_k c l=some (x,c',l)/\x∈l/\bw c' (m+2):=by
 obtain⟨i,c1,g1,g2,g3,g4⟩:=bW (l.length:Int) h hm;unfold M_k;rw[g1];simp only[Option.bind_some];have hi:i.toNat<l.length:=by omega
 rw[aR (by omega)];simp only[Option.bind_some,List.getElem?_eq_getElem hi];exact⟨_,_,rfl,List.getElem_mem hi,g4⟩
theorem Wy{c:aw}{m:Nat}(l:List ByteArray)(h:bw c m)(hm:m<=100000000000)(hl:0<l.length):∃x c',Lr c l=some (x,c',l)/\x∈l/\bw c' (m+2):=by
 obtain⟨i,c1,g1,g2,g3,g4⟩:=bW (l.length:Int) h hm;unfold Lr;rw[g1];simp only[Option.bind_some];have hi:i.toNat<l.length:=by omega
 rw[aR (by omega)];simp only[Option.bind_some,List.getElem?_eq_getElem hi];exact⟨_,_,rfl,List.getElem_mem hi,g4⟩
end Vs

namespace Vs
open Go
theorem Cu(f g:az):∃r,tk f g=some r:=by
 unfold tk;cases(f.A !=g.A)
 ·cases(f.B !=g.B)
  ·cases(f.Length !=g.Length)<;>exact⟨_,rfl⟩
  ·exact⟨_,rfl⟩
 ·exact⟨_,rfl⟩
theorem yt(a b:Int):∃r,CI a b=some r:=by
 unfold CI;cases decide (a<b)<;>exact⟨_,rfl⟩
theorem LK(a b:Int):∃r,BI a b=some r/\a<=r/\b<=r/\(r=a\/r=b):=by
 unfold BI;by_cases h:b<a
 ·rw[decide_eq_true h,cond_true];exact⟨a,rfl,by omega,by omega,.inl rfl⟩
 ·rw[decide_eq_false h,cond_false];exact⟨b,rfl,by omega,by omega,.inr rfl⟩
theorem yL(l:List az)(f:az)(hl:l.length<=1048576):∃l',Au l f=some l'/\l'.length=l.length+1:=by
 obtain⟨o,o1,i,rfl,o3⟩:=br (f:=DA l f) (fun s=>∃i:Nat,s=i/\i<=l.length) (fun s=>l.length-s.toNat) (fun o=>∃i:Nat,o=(i:Int)/\i<=l.length) (fun s hI=>by
  obtain⟨i,rfl,hi⟩:=hI;by_cases h:i<l.length
  ·obtain⟨r,hr⟩:=Cu l[i] f;simp only[DA,decide_eq_true (show(i:Int)<(l.length:Int) by omega),cond_true,aQ,List.getElem?_eq_getElem h,Option.bind_some,hr];by_cases h2:r<=0
   ·left;rw[decide_eq_true h2,cond_true,aF (n:=(i:Int)+1) (by omega) (by omega)];exact⟨_,rfl,⟨i+1,by simp,by omega⟩,by omega⟩
   ·right;rw[decide_eq_false h2,cond_false];exact⟨_,rfl,i,rfl,hi⟩
  ·right;simp only[DA,decide_eq_false (show¬(i:Int)<(l.length:Int) by omega),cond_false];exact⟨_,rfl,i,rfl,hi⟩) N0 0 ⟨0,rfl,by omega⟩ (bZ (by omega))
 unfold Au;rw[o1];simp only[Option.bind_some,slT,slF,Int.toNat_natCast,bnd];rw[if_pos ⟨by omega,o3⟩,if_pos ⟨by omega,o3⟩];simp only[Option.bind_some];rw[aR (by simp;omega),];simp only[Option.bind_some];rw[aR (by simp;omega)];simp only[Option.bind_some];rw[aR (by simp;omega)];exact⟨_,rfl,by simp;omega⟩
theorem BD{c:aw}{m:Nat}(x:Int)(c0:aw)(hx:0<=x/\x<5)(i:Int)(hi:0<=i/\i<2+x)(fs:List az)(hf:fs.length<=1000)(h:bw c m)(hm:m<=10000000000):
 ∃fs' c',M_z (x,c0) (i,fs,c)=some (.inl (i+1,fs',c'))/\fs'.length<=fs.length+1/\bw c' (m+6):=by
 obtain⟨b,c1,hb,hc⟩:∃b c1,(cond (i==Int.tmod (i+1) (2+x)) (some (true,c)) ((rJ 10 c).bind fun rZ10=>some (rZ10.1,rZ10.2)):Option (Bool×aw))=some (b,c1)/\bw c1 (m+2):=by
  cases(i==Int.tmod (i+1) (2+x))
  ·obtain⟨b,c1,g1,g2⟩:=yZ 10 h (by omega);exact⟨b,c1,by rw[cond_false,g1];rfl,g2⟩
  ·exact⟨true,c,rfl,h.up (by omega)⟩
 simp only[M_z,aF (n:=2+x) (by omega) (by omega),aF (n:=i+1) (by omega) (by omega),decide_eq_true hi.2,cond_true,aR (show(2+x)≠0 by omega),Option.bind_some,hb];cases b with
 |true=>exact⟨fs,c1,rfl,by omega,hc.up (by omega)⟩
 | false =>
   obtain⟨a1,ha1⟩:=yt i (Int.tmod (i+1) (2+x));obtain⟨a2,ha2,_⟩:=LK i (Int.tmod (i+1) (2+x));obtain⟨x8,c2,g1,g2,g3,g4⟩:=bW 8 hc (by omega);obtain⟨rk,c3,k1,k2,k3⟩:=dX [0,0,0,1,2] g4 (by omega) (by simp);obtain⟨l',l1,l2⟩:=yL fs ⟨a1,a2,IntKind.wrap .i64 (100*(IntKind.wrap .i64 (1+x8))),rk⟩ (by omega);simp only[cond_false,ha1,ha2,g1,bnd,k1,l1,Option.bind_some];exact⟨l',c3,rfl,by omega,k3.up (by omega)⟩
theorem Bq{c:aw}{m:Nat}(x:Int)(c0:aw)(hx:0<=x/\x<5)(i:Int)(hi:0<i/\i<=10)(fs:List az)(hf:fs.length<=1000)(h:bw c m)(hm:m<=10000000000):
 ∃fs' c',ye (x,c0) (i,fs,c)=some (.inl (i-1,fs',c'))/\fs'.length<=fs.length+1/\bw c' (m+8):=by
 obtain⟨p,c1,p1,p2,p3,p4⟩:=bW (2+x) h (by omega);obtain⟨q,c2,q1,q2,q3,q4⟩:=bW (2+x) p4 (by omega);simp only[ye,aF (n:=2+x) (by omega) (by omega),aF (n:=i-1) (by omega) (by omega),decide_eq_true hi.1,cond_true,Option.bind_some,p1,q1];cases(p !=q) with
 |false=>exact⟨fs,c2,rfl,by omega,q4.up (by omega)⟩
 | true =>
   obtain⟨a1,ha1⟩:=yt p q;obtain⟨a2,ha2,_⟩:=LK p q;obtain⟨x8,c2',g1,g2,g3,g4⟩:=bW 8 q4 (by omega);obtain⟨rk,c3,k1,k2,k3⟩:=dX [0,0,0,1,2] g4 (by omega) (by simp);obtain⟨l',l1,l2⟩:=yL fs ⟨a1,a2,IntKind.wrap .i64 (100*(IntKind.wrap .i64 (1+x8))),rk⟩ (by omega);simp only[cond_true,ha1,ha2,g1,bnd,k1,l1,Option.bind_some];exact⟨l',c3,rfl,by omega,k3.up (by omega)⟩
theorem qH{c:aw}{m:Nat}(h:bw c m)(hm:m<=1000000000):∃(K:Nat)(nodes:List ByteArray)(fs:List az)(c':aw),BC c=some (0,K,nodes,fs,c')/\2<=K/\K<=6/\nodes.length=6/\(∀s∈nodes,s.size<=9)/\fs.length<=9/\bw c' (m+100):=by
 obtain⟨x,c1,x1,x2,x3,x4⟩:=bW 5 h (by omega);have hx:0<=x/\x<5:=by omega
 obtain⟨⟨f1,c2⟩,o1,o2,o3⟩:=br (f:=M_z (x,c1)) (fun s=>0<=s.1/\s.1<=2+x/\(s.2.1.length:Int)<=s.1/\bw s.2.2 (m+2+6*s.1.toNat)) (fun s=>(2+x-s.1).toNat) (fun o=>o.1.length<=6/\bw o.2 (m+38)) (fun s hI=>by
  obtain⟨j,l,cc⟩:=s;obtain⟨i1,i2,i3,i4⟩:=hI;simp only at i1 i2 i3 i4;by_cases hj:j<2+x
  ·left;obtain⟨fs',c',g1,g2,g3⟩:=BD x c1 hx j ⟨i1,hj⟩ l (by omega) i4 (by omega);exact⟨_,g1,⟨by simp only;omega,by simp only;omega,by simp only;omega,g3.up (by simp only;omega)⟩,by simp only;omega⟩
  ·right;refine⟨(l,cc),?_,by simp only;omega,i4.up (by omega)⟩;simp only[M_z,aF (n:=2+x) (by omega) (by omega),decide_eq_false hj,cond_false]) N0 (0,[],c1) ⟨by simp,by simp only;omega,by simp,x4.up (by simp)⟩ (bZ (by simp only;omega))
 simp only at o2 o3;obtain⟨y,c3,y1,y2,y3,y4⟩:=bW 4 o3 (by omega);have hy:0<=y/\y<4:=by omega
 obtain⟨⟨f2,c4⟩,q1,q2,q3⟩:=br (f:=ye (x,c1)) (fun s=>0<=s.1/\s.1<=3/\(s.2.1.length:Int)<=9-s.1/\bw s.2.2 (m+40+8*(3-s.1.toNat))) (fun s=>s.1.toNat) (fun o=>o.1.length<=9/\bw o.2 (m+64)) (fun s hI=>by
  obtain⟨j,l,cc⟩:=s;obtain⟨i1,i2,i3,i4⟩:=hI;simp only at i1 i2 i3 i4;by_cases hj:0<j
  ·left;obtain⟨fs',c',g1,g2,g3⟩:=Bq x c1 hx j ⟨hj,by omega⟩ l (by omega) i4 (by omega);exact⟨_,g1,⟨by simp only;omega,by simp only;omega,by simp only;omega,g3.up (by simp only;omega)⟩,by simp only;omega⟩
  ·right;refine⟨(l,cc),?_,by simp only;omega,i4.up (by omega)⟩;simp only[ye,decide_eq_false hj,cond_false]) N0 (y,f1,c3) ⟨by simp only;omega,by simp only;omega,by simp only;omega,y4.up (by simp only;omega)⟩ (bZ (by simp only;omega))
 simp only at q2 q3;unfold BC;simp only[x1,Option.bind_some,bnd,aF (n:=2+x) (by omega) (by omega)];rw[aR ⟨trivial,by omega,trivial,by omega⟩];simp only[Option.bind_some,o1,y1,q1];exact⟨_,_,_,_,rfl,by omega,by omega,rfl,by decide,q2,q3.up (by omega)⟩
structure Pj(K:Nat)(nodes:List ByteArray)(fs:List az):Prop where
 k1:1<=K
 k:K<=nodes.length
 n:nodes.length<=10
 z:∀s∈nodes,s.size<=9
 f:fs.length<=15
theorem MM{c:aw}{m:Nat}(fs:List az)(h0:0<fs.length)(h9:fs.length<=9)(h:bw c m)(hm:m<=10000000000):∃fs' c',bl CR N0 (fs,c)=some (fs',c')/\fs'.length<=15/\bw c' (m+100):=by
 obtain⟨⟨f2,c4⟩,q1,q2,q3⟩:=br (f:=CR) (fun s=>0<s.1.length/\s.1.length<=15/\bw s.2 (m+2*s.1.length)) (fun s=>16-s.1.length) (fun o=>o.1.length<=15/\bw o.2 (m+100)) (fun s hI=>by
  obtain⟨l,cc⟩:=s;obtain⟨i1,i2,i3⟩:=hI;simp only at i1 i2 i3;obtain⟨x,c1,x1,x2,x3,x4⟩:=bW 2 i3 (by omega);simp only[CR,x1,Option.bind_some,aF (n:=14+x) (by omega) (by omega),aF (n:=(l.length:Int)-1) (by omega) (by omega)];by_cases hj:(l.length:Int)<14+x
  ·left;have e:((l.length:Int)-1).toNat<l.length:=by omega
   rw[decide_eq_true hj,cond_true,aR (by omega)];simp only[Option.bind_some,List.getElem?_eq_getElem e,bnd];rw[aR (by omega)];exact⟨_,rfl,⟨by simp,by simp only[List.length_append,List.length_cons,List.length_nil];omega,x4.up (by simp only[List.length_append,List.length_cons,List.length_nil];omega)⟩,by simp only[List.length_append,List.length_cons,List.length_nil];omega⟩
  ·right;rw[decide_eq_false hj,cond_false];exact⟨_,rfl,by simp only;omega,x4.up (by omega)⟩) N0 (fs,c) ⟨by simp only;omega,by simp only;omega,h.up (by omega)⟩ (bZ (by simp only;omega))
 exact⟨f2,c4,q1,q2,q3⟩
theorem DZ{α:Type}(xs:List α)(k:Nat)(h:k<=xs.length):cK xs 0 k=xs.take k:=by
 rw[dk];simp
theorem rF{c:aw}{m:Nat}(h:bw c m)(hm:m<=1000000000):∃(K:Nat)(nodes:List ByteArray)(fs:List az)(c':aw),KZ c=some (0,K,nodes,fs,c')/\Pj K nodes fs/\bw c' (m+300):=by
 obtain⟨K,nodes,fs,c1,n1,n2,n3,n4,n5,n6,n7⟩:=qH h (by omega);have hD:Pj K nodes fs:=⟨by omega,by omega,by omega,n5,by omega⟩;unfold KZ;simp only[n1,Option.bind_some];by_cases h0:fs.length=0
 ·rw[show((fs.length:Int)==0)=true by simp[h0],cond_true];exact⟨_,_,_,_,rfl,hD,n7.up (by omega)⟩
 rw[show((fs.length:Int)==0)=false by simp;exact fun e=>h0 (by simp[e]),cond_false];obtain⟨i,c2,i1,i2,i3,i4⟩:=bW (fs.length:Int) n7 (by omega);have hi:i.toNat<fs.length:=by omega
 obtain⟨r,c3,r1,r2,r3,r4⟩:=bW 24 i4 (by omega);simp only[i1,Option.bind_some];rw[aR (by omega)];simp only[Option.bind_some,List.getElem?_eq_getElem hi,r1];have fin:∀(K':Nat)(f:az)(nodes':List ByteArray)(fs':List az)(c':aw),Pj K' nodes' fs'->i.toNat<fs'.length->bw c' (m+300)->
  ∃(K'':Nat)(nodes'':List ByteArray)(fs'':List az)(c'':aw),((grd (0<=i/\i<(fs'.length:Int))).bind fun _=>(fs'[(Int.toNat i)]?).bind fun _=>bnd (fs'.set (Int.toNat i) f) fun l=>some ((0:Nat),K',nodes',l,c'))=some (0,K'',nodes'',fs'',c'')/\Pj K'' nodes'' fs''/\bw c'' (m+300):=by
  intro K' f nodes' fs' c' hD' hi' hc';rw[aR (by omega)];simp only[Option.bind_some,List.getElem?_eq_getElem hi',bnd];exact⟨_,_,_,_,rfl,⟨hD'.k1,hD'.k,hD'.n,hD'.z,by rw[List.length_set];exact hD'.f⟩,hc'⟩
 rcases bt (r==0) with e|e
 ·obtain⟨x,c4,k1,k2,k3⟩:=Wy [(⟨#[98]⟩:ByteArray),(⟨#[]⟩:ByteArray),(⟨#[65]⟩:ByteArray),(⟨#[97,98,99,100,101,102,103,104]⟩:ByteArray),(⟨#[97,98,99,100,101,102,103,104,105]⟩:ByteArray),(⟨#[120,49]⟩:ByteArray)] r4 (by omega) (by simp);have hx:x.size<=9:=(show∀s∈[(⟨#[98]⟩:ByteArray),(⟨#[]⟩:ByteArray),(⟨#[65]⟩:ByteArray),(⟨#[97,98,99,100,101,102,103,104]⟩:ByteArray),(⟨#[97,98,99,100,101,102,103,104,105]⟩:ByteArray),(⟨#[120,49]⟩:ByteArray)],s.size<=9 by decide) x k2;have h00:0+Int.toNat 0<nodes.length:=by simp;omega
  simp only[e,cond_true,bnd,k1,Option.bind_some];rw[aR (by omega)];simp only[Option.bind_some,List.getElem?_eq_getElem h00];refine fin _ _ _ _ _ ⟨by omega,by rw[List.length_set];omega,by rw[List.length_set];omega,fun s hs=>?_,by omega⟩ hi (k3.up (by omega));rcases List.mem_or_eq_of_mem_set hs with h1|h1
  ·exact n5 s h1
  ·rw[h1];exact hx
 rw[e,cond_false];rcases bt (r==1) with e|e
 ·obtain⟨x,c4,k1,k2,k3,k4⟩:=bW 8 r4 (by omega);simp only[e,cond_true,k1,Option.bind_some];exact fin _ _ _ _ _ hD hi (k4.up (by omega))
 rw[e,cond_false];rcases bt (r==2) with e|e
 ·obtain⟨x,c4,k1,k2,k3,k4⟩:=bW 10 r4 (by omega);simp only[e,cond_true,k1,Option.bind_some];exact fin _ _ _ _ _ hD hi (k4.up (by omega))
 rw[e,cond_false];rcases bt (r==3) with e|e
 ·obtain⟨x,c4,k1,k2,k3⟩:=dX [0,1,5000,5001] r4 (by omega) (by simp);simp only[e,cond_true,bnd,k1,Option.bind_some];exact fin _ _ _ _ _ hD hi (k3.up (by omega))
 rw[e,cond_false];rcases bt (r==4) with e|e
 ·obtain⟨x,c4,k1,k2,k3⟩:=dX [(-1),9,10] r4 (by omega) (by simp);simp only[e,cond_true,bnd,k1,Option.bind_some];exact fin _ _ _ _ _ hD hi (k3.up (by omega))
 rw[e,cond_false];rcases bt (r==5) with e|e
 ·have h00:Int.toNat 0<fs.length:=by simp;omega
  simp only[e,cond_true];rw[aR (by omega)];simp only[Option.bind_some,List.getElem?_eq_getElem h00,bnd];rw[aR (by omega)];exact fin K _ nodes (fs++[fs[Int.toNat 0]]) _ ⟨hD.k1,hD.k,hD.n,hD.z,by simp;omega⟩ (by simp;omega) (r4.up (by omega))
 rw[e,cond_false];rcases bt (r==6) with e|e
 ·obtain⟨fs',c4,k1,k2,k3⟩:=MM fs (by omega) n6 r4 (by omega);simp only[e,cond_true,k1,Option.bind_some];exact⟨_,_,_,_,rfl,⟨by omega,by omega,by omega,n5,k2⟩,k3.up (by omega)⟩
 rw[e,cond_false];rcases bt (r==7) with e|e
 ·simp only[e,cond_true,bnd,DZ nodes K hD.k];rw[aR (by omega)];simp only[Option.bind_some];refine fin _ _ _ _ _ ⟨by simp,(by simp only[List.length_append,List.length_take,List.length_cons,List.length_nil];have:=hD.k;omega),by simp;omega,fun s hs=>?_,by omega⟩ hi (r4.up (by omega));rcases List.mem_append.1 hs with h1|h1
  ·exact n5 s (List.mem_of_mem_take h1)
  ·exact(show∀s∈[(⟨#[112]⟩:ByteArray),(⟨#[113]⟩:ByteArray),(⟨#[114]⟩:ByteArray),(⟨#[115]⟩:ByteArray)],s.size<=9 by decide) s h1
 rw[e,cond_false];exact fin _ _ _ _ _ hD hi (r4.up (by omega))
end Vs

namespace Vs
open Go
theorem lQ{α:Type}(xs:List α)(k:Nat)(h:k<=xs.length):cK xs 0 k=xs.take k:=ja xs k h
theorem tU{K:Nat}{nodes:List ByteArray}{fs:List az}(hK:K<=10)(h:∀s∈nodes,s.size<=9)(hf:fs.length<=20):bH ⟨nodes.take K,fs⟩<=1048576:=by
 have hs:∀(l:List ByteArray),(∀s∈l,s.size<=9)->(l.map fun x=>x.size).sum<=9*l.length:=by
  intro l;induction l with
  |nil=>intro _;simp
  | cons a l ih =>
    intro hl;have h1:=hl a (by simp);have h2:=ih fun s hs=>hl s (by simp[hs]);simp only[List.map_cons,List.sum_cons,List.length_cons];omega
 have h1:=hs (nodes.take K) fun s hs=>h s (List.mem_of_mem_take hs);have h2:(nodes.take K).length<=10:=by rw[List.length_take];omega
 unfold bH lI ny;simp only;omega
theorem zt{L:List ah}(h1:L.length<=20)(h2:∀x∈L,SvL x):bQ L<=1048576:=by
 have hs:∀(l:List ah),(∀s∈l,SvL s)->(l.map fun x=>gE x).sum<=2000*l.length:=by
  intro l;induction l with
  |nil=>intro _;simp
  | cons a l ih =>
    intro hl;obtain⟨w1,w2⟩:=hl a (by simp);have w3:=ih fun s hs=>hl s (by simp[hs]);simp only[List.map_cons,List.sum_cons,List.length_cons];have e:gE a=a.Work.Fibers.length+a.Spare.Fibers.length:=rfl;omega
 have:=hs L h2;unfold bQ;omega
theorem Ld{c:aw}{m:Nat}(h:bw c m)(hm:m<=1000000000):∃(K:Nat)(nodes:List ByteArray)(fs:List az)(c':aw),KO c=some (0,K,nodes,fs,c')/\2<=K/\K<=6/\nodes.length=6/\(∀s∈nodes,s.size<=9)/\fs.length<=10/\bw c' (m+100):=by
 obtain⟨K,nodes,fs,c1,n1,n2,n3,n4,n5,n6,n7⟩:=qH h hm;unfold KO;rw[n1,Option.bind_some];simp only[bnd];cases((fs.length:Int)==0) with
 |false=>exact⟨K,nodes,fs,c1,rfl,n2,n3,n4,n5,by omega,n7⟩
 | true =>
   rw[cond_true,aR (by omega),Option.bind_some];exact⟨K,nodes,_,c1,rfl,n2,n3,n4,n5,by simp;omega,n7⟩
theorem AJ{n:af}(hn:2<=n.Nodes.length)(hn2:n.Nodes.length<=20){c:aw}{m:Nat}(h:bw c m)(hm:m<=1000000000):∃d c',Fr n c=some (d,c')/\bw c' (m+20):=by
 unfold Fr;obtain⟨x1,c1,a1,a2,a3,a4⟩:=bW (n.Nodes.length:Int) h (by omega);rw[a1,Option.bind_some];obtain⟨x2,c2,b1,b2,b3,b4⟩:=bW (IntKind.wrap .i64 ((n.Nodes.length:Int)-1)) a4 (by omega);simp only[b1,Option.bind_some,bnd];rw[aR (by omega),Option.bind_some];obtain⟨x3,c3,d1,d2,d3⟩:=dX [10,20,40,50,90,120] b4 (by omega) (by simp);simp only[d1,Option.bind_some];obtain⟨x4,c4,e1,e2,e3,e4⟩:=bW 3 d3 (by omega);simp only[e1,Option.bind_some];obtain⟨x5,c5,f1,f2,f3,f4⟩:=bW 48 e4 (by omega);simp only[f1,Option.bind_some];cases x5==0 with
 | true =>
   obtain⟨x6,c6,g1,g2,g3,g4⟩:=bW 10 f4 (by omega);simp only[cond_true,g1,Option.bind_some];exact⟨_,_,rfl,g4.up (by omega)⟩
 | false =>
   rw[cond_false];cases x5==1 with
   | true =>
     obtain⟨x6,c6,g1,g2,g3⟩:=dX [0,1,1000,1001] f4 (by omega) (by simp);simp only[cond_true,g1,Option.bind_some];exact⟨_,_,rfl,g3.up (by omega)⟩
   | false =>
     rw[cond_false];cases x5==2 with
     | true =>
       obtain⟨x6,c6,g1,g2,g3⟩:=dX [-1,3] f4 (by omega) (by simp);simp only[cond_true,g1,Option.bind_some];exact⟨_,_,rfl,g3.up (by omega)⟩
     |false=>exact⟨_,_,rfl,f4.up (by omega)⟩
theorem sZ{c:aw}{m:Nat}(h:bw c m)(hm:m<=10000000):∃(n:af)(L:List ah)(c':aw),Kz c=some (n,0,L.length,L,c')/\bH n<=1048576/\2<=n.Nodes.length/\n.Nodes.length<=10/\n.Fibers.length<=10/\L.length<=9/\(∀x∈L,SvL x)/\bw c' (m+500):=by
 obtain⟨K,nodes,fs,c1,n1,n2,n3,n4,n5,n6,n7⟩:=Ld h (by omega);have hz:=tU (K:=K) (by omega) n5 (show fs.length<=20 by omega);have hk:(nodes.take K).length=K:=by rw[List.length_take];omega
 unfold Kz;rw[n1,Option.bind_some];simp only[bnd];obtain⟨x,c2,x1,x2,x3,x4⟩:=bW 6 n7 (by omega);rw[lQ _ _ (by omega),x1,Option.bind_some];obtain⟨o,o1,o2,o3,o4,o5⟩:=br (f:=Jo (0,K,nodes,fs,c1) (nodes.take K)) (fun t=>t.2.1=2/\t.1=t.2.2.2.1.length/\t.2.2.2.2.1=F2/\0<=t.2.2.1/\t.2.2.1<=6/\t.2.2.2.1.length<=9/\(∀s∈t.2.2.2.1,SvL s)/\bw t.2.2.2.2.2 (m+102+20*(6-t.2.2.1.toNat))) (fun t=>t.2.2.1.toNat) (fun o=>o.1=o.2.1.length/\o.2.1.length<=9/\(∀s∈o.2.1,SvL s)/\bw o.2.2 (m+500)) (fun t hI=>by
  obtain⟨k,two,j,L,F,cc⟩:=t;obtain⟨i1,i2,i3,i4,i5,i6,i7,i8⟩:=hI;simp only at i1 i2 i3 i4 i5 i6 i7 i8;subst i1 i2 i3;unfold Jo;by_cases hj:0<j
  ·left;obtain⟨d,c3,d1,d2⟩:=AJ (n:=⟨nodes.take K,fs⟩) (by rw[hk];exact n2) (by rw[hk];omega) i8 (by omega);obtain⟨id,ok,L',a1,a2⟩:=Vt ⟨nodes.take K,fs⟩ d L hz (zt (by omega) i7) i7;simp only[decide_eq_true hj,cond_true,d1,Option.bind_some,a1];rw[aF (by omega) (by omega)];cases ok with
   | true =>
     obtain⟨a3,a4⟩:=a2 rfl;exact⟨_,rfl,⟨rfl,rfl,rfl,by simp only;omega,by simp only;omega,a3,a4,d2.up (by simp only;omega)⟩,by simp only;omega⟩
   |false=>exact⟨_,rfl,⟨rfl,rfl,rfl,by simp only;omega,by simp only;omega,i6,i7,d2.up (by simp only;omega)⟩,by simp only;omega⟩
  ·right;simp only[decide_eq_false hj,cond_false];exact⟨_,rfl,rfl,i6,i7,i8.up (by omega)⟩) N0 (0,2,x,[],F2,c2) ⟨rfl,rfl,rfl,x2,by simp only;omega,by simp,fun s hs=>(by cases hs),x4.up (by simp only;omega)⟩ (bZ (by simp only;omega))
 have ef:([(⟨3000,10⟩:aU),(⟨900,20⟩:aU)])=F2:=rfl;rw[ef,o1,Option.bind_some,o2];exact⟨_,_,_,rfl,hz,by rw[hk];exact n2,by rw[hk];omega,n6,o3,o4,o5⟩
theorem TY{n:af}(hF:n.Fibers.length<=20)(s:Int×List Int×List Int×aw)(hq:0<s.2.1.length)(hq2:s.2.1.length<=100):∃l,bl (AK n s) N0 (0,[])=some l/\l.length<=20/\∀e∈l,0<=e/\e<(n.Fibers.length:Int):=by
 obtain⟨o,o1,o2,o3⟩:=br (f:=AK n s) (fun t=>∃i:Nat,t.1=(i:Int)/\i<=n.Fibers.length/\t.2.length<=i/\∀e∈t.2,0<=e/\e<(n.Fibers.length:Int)) (fun t=>n.Fibers.length-t.1.toNat) (fun o=>o.length<=20/\∀e∈o,0<=e/\e<(n.Fibers.length:Int)) (fun t⟨i,e,hi,t1,t2⟩=>by
  obtain⟨x,acc⟩:=t;simp only at e t1 t2;subst e;unfold AK;by_cases h3:i<n.Fibers.length
  ·left;have e1:decide ((i:Int)<(n.Fibers.length:Int))=true:=by simp[h3]
   have hix:IntKind.wrap .i64 ((s.2.1.length:Int)-1)=((s.2.1.length-1:Nat):Int):=by rw[aF (by omega) (by omega)];omega
   simp only[e1,cond_true,hix];rw[aR ⟨by omega,by omega⟩,Option.bind_some,Int.toNat_natCast,List.getElem?_eq_getElem (show s.2.1.length-1<s.2.1.length by omega),Option.bind_some,jD n (i:Int) _ (cG.2 (by omega)),Option.bind_some];generalize db n (i:Int) (s.2.1[s.2.1.length-1]'(by omega))=v;have hc:∃c,(cond (decide (0<=v)) ((nK s.2.1 v).bind fun rZ14=>some (!rZ14)) (some false):Option Bool)=some c:=by
    rw[lj _ _ (show s.2.1.length<=1048576 by omega)];cases decide (0<=v)<;>exact⟨_,rfl⟩
   obtain⟨c,hc⟩:=hc;rw[hc,Option.bind_some,aF (by omega) (by omega)];cases c with
   |false=>exact⟨_,rfl,⟨i+1,rfl,by omega,by simp only;omega,t2⟩,by simp only;omega⟩
   | true =>
     simp only[cond_true,bnd];rw[aR (by omega),Option.bind_some];exact⟨_,rfl,⟨i+1,rfl,by omega,by simp;omega,fun y hy=>by
      rcases List.mem_append.1 hy with h4|h4
      ·exact t2 y h4
      ·simp only[List.mem_singleton] at h4;rw[h4];omega⟩,by simp only;omega⟩
  ·right;have e1:decide ((i:Int)<(n.Fibers.length:Int))=false:=by simp only[decide_eq_false_iff_not];omega
   simp only[e1,cond_false];exact⟨_,rfl,by omega,t2⟩) N0 (0,[]) ⟨0,rfl,by omega,by simp,fun e he=>(by cases he)⟩ (bZ (by simp only;omega))
 exact⟨o,o1,o2,o3⟩
theorem KL{n:af}(hF:n.Fibers.length<=20){c:aw}{m:Nat}(h:bw c m)(hm:m<=1000000000):∃s p c',Ib n c=some (s,p,c')/\p.length<=5/\bw c' (m+20):=by
 unfold Ib;obtain⟨x,c1,a1,a2,a3,a4⟩:=bW (n.Nodes.length:Int) h (by omega);obtain⟨y,c2,b1,b2,b3,b4⟩:=bW 4 a4 (by omega);simp only[a1,Option.bind_some,bnd,b1];rw[aF (n:=1+y) (by omega) (by omega)];obtain⟨o,o1,o2,o3⟩:=br (f:=FW n) (fun t=>0<=t.1/\t.1<=4/\0<t.2.1.length/\(t.2.1.length:Int)<=5-t.1/\(t.2.2.1.length:Int)<=4-t.1/\bw t.2.2.2 (m+4+2*(4-t.1.toNat))) (fun t=>t.1.toNat) (fun o=>o.1.length<=5/\bw o.2 (m+20)) (fun t hI=>by
  obtain⟨k,q,p,cc⟩:=t;obtain⟨i1,i2,i3,i4,i5,i6⟩:=hI;simp only at i1 i2 i3 i4 i5 i6;unfold FW;by_cases hk:0<k
  ·obtain⟨l,l1,l2,l3⟩:=TY hF (k,q,p,cc) i3 (by simp only;omega);simp only[decide_eq_true hk,cond_true,l1,Option.bind_some];by_cases h0:l.length=0
   ·rw[show((l.length:Int)==0)=true by simp[h0],cond_true];exact .inr ⟨_,rfl,by simp only;omega,i6.up (by omega)⟩
   ·have e0:((l.length:Int)==0)=false:=by rw[beq_eq_false_iff_ne];omega
    obtain⟨z,c3,d1,d2,d3,d4⟩:=bW (l.length:Int) i6 (by omega);have hz:z.toNat<l.length:=by omega
    have hix:IntKind.wrap .i64 ((q.length:Int)-1)=((q.length-1:Nat):Int):=by rw[aF (by omega) (by omega)];omega
    obtain⟨g1,g2⟩:=l3 _ (List.getElem_mem hz);rw[e0,cond_false,d1,Option.bind_some];simp only;rw[aR ⟨d2,by omega⟩,Option.bind_some,List.getElem?_eq_getElem hz,Option.bind_some];simp only[bnd,hix];rw[aR (by omega),Option.bind_some,aR ⟨by omega,by omega⟩,Option.bind_some,Int.toNat_natCast,List.getElem?_eq_getElem (show q.length-1<q.length by omega),Option.bind_some,jD n _ _ (cG.2 (by omega)),Option.bind_some,aR (by omega),Option.bind_some,aF (by omega) (by omega)];exact .inl ⟨_,rfl,⟨by simp only;omega,by simp only;omega,by simp,by simp;omega,by simp;omega,d4.up (by simp only;omega)⟩,by simp only;omega⟩
  ·simp only[decide_eq_false hk,cond_false];exact .inr ⟨_,rfl,by simp only;omega,i6.up (by omega)⟩) N0 (1+y,[x],[],c2) ⟨by simp only;omega,by simp only;omega,by simp,by simp only[List.length_singleton];omega,by simp only[List.length_nil];omega,b4.up (by simp only;omega)⟩ (bZ (by simp only;omega))
 rw[o1,Option.bind_some];exact⟨_,_,_,rfl,o2,o3⟩
theorem mq{n:af}(hF:n.Fibers.length<=20){c:aw}{m:Nat}(h:bw c m)(hm:m<=1000000000):∃s p c',Cj n c=some (s,p,c')/\p.length<=6/\bw c' (m+30):=by
 unfold Cj;obtain⟨s,p,c1,a1,a2,a3⟩:=KL hF h hm;obtain⟨x,c2,b1,b2,b3,b4⟩:=bW 16 a3 (by omega);simp only[a1,Option.bind_some,b1];obtain⟨y,c3,d1,d2,d3,d4⟩:=bW 8 b4 (by omega);cases x==0 with
 |true=>simp only[cond_true,d1,Option.bind_some];exact⟨_,_,_,rfl,by omega,d4.up (by omega)⟩
 | false =>
   rw[cond_false];cases x==1 with
   | true =>
     simp only[cond_true,d1,Option.bind_some,bnd];rw[aR (by omega),Option.bind_some];exact⟨_,_,_,rfl,by simp;omega,d4.up (by omega)⟩
   | false =>
     rw[cond_false];cases x==2 with
     |true=>exact⟨_,_,_,rfl,by simp,b4.up (by omega)⟩
     | false =>
       rw[cond_false];cases x==3 with
       |false=>exact⟨_,_,_,rfl,by omega,b4.up (by omega)⟩
       | true =>
         rw[cond_true];by_cases h1:1<p.length
         ·have e1:decide ((1:Int)<(p.length:Int))=true:=by simp only[decide_eq_true_eq];omega
          have hix:IntKind.wrap .i64 ((p.length:Int)-1)=((p.length-1:Nat):Int):=by rw[aF (by omega) (by omega)];omega
          simp only[e1,cond_true,hix,bnd];rw[aR ⟨by omega,by omega⟩,Option.bind_some,Int.toNat_natCast,List.getElem?_eq_getElem (show p.length-1<p.length by omega),Option.bind_some,aR (by omega),Option.bind_some];exact⟨_,_,_,rfl,by simp;omega,b4.up (by omega)⟩
         ·have e1:decide ((1:Int)<(p.length:Int))=false:=by simp only[decide_eq_false_iff_not];omega
          rw[e1];exact⟨_,_,_,rfl,by omega,b4.up (by omega)⟩
theorem ve{c:aw}{m:Nat}(h:bw c m)(hm:m<=1000000000):∃b c',Dz c=some (b,c')/\bw c' (m+10):=by
 unfold Dz;obtain⟨b,c1,a1,a2⟩:=yZ 12 h (by omega);rw[a1,Option.bind_some];cases b with
 | true =>
   obtain⟨x,c2,b1,b2,b3,b4⟩:=bW 26 a2 (by omega);obtain⟨y,c3,d1,d2,d3,d4⟩:=bW 27 b4 (by omega);simp only[cond_true,b1,Option.bind_some,d1];exact⟨_,_,rfl,d4.up (by omega)⟩
 | false =>
   obtain⟨x,c2,b1,b2,b3,b4⟩:=bW 6 a2 (by omega);obtain⟨y,c3,d1,d2,d3,d4⟩:=bW (IntKind.wrap .i64 ((IntKind.wrap .i64 (24-(IntKind.wrap .i64 (1+x))))+1)) b4 (by omega);simp only[cond_false,b1,Option.bind_some,d1];exact⟨_,_,rfl,d4.up (by omega)⟩
def Ft(n:af)(L:List ah):Prop:=bH n<=1048576/\n.Fibers.length<=20/\L.length<=10/\∀x∈L,SvL x
theorem fE{x:Int}{L:List ah}{n:af}{s:ah}{c:aw}{m:Nat}(hx:0<=x/\x<(L.length:Int))(h:Ft n L)(hs:SvL s)(hc:bw c m):∃(n':af)(L':List ah)(c':aw),((grd (0<=x/\x<((L.length:Nat):Int))).bind fun _=>(L[(0+(Int.toNat x))]?).bind fun _=>bnd (L.set (0+(Int.toNat x)) s) fun lZ38=>some (n,0,L.length,lZ38,c))=some (n',0,L'.length,L',c')/\Ft n' L'/\bw c' m:=by
 rw[aR hx,Option.bind_some,List.getElem?_eq_getElem (show 0+x.toNat<L.length by omega),Option.bind_some];refine⟨n,L.set (0+x.toNat) s,c,by rw[List.length_set];rfl,⟨h.1,h.2.1,by rw[List.length_set];exact h.2.2.1,fun y hy=>?_⟩,hc⟩;rcases List.mem_or_eq_of_mem_set hy with h1|h1
 ·exact h.2.2.2 y h1
 ·rw[h1];exact hs
theorem oq{c:aw}{m:Nat}(h:bw c m)(hm:m<=1000000):∃(n:af)(L:List ah)(c':aw),FR c=some (n,0,L.length,L,c')/\Ft n L/\bw c' (m+2000):=by
 obtain⟨n,L,c1,s1,s2,s3,s4,s5,s6,s7,s8⟩:=sZ h (by omega);have hD:Ft n L:=⟨s2,by omega,by omega,s7⟩;unfold FR;rw[s1,Option.bind_some];simp only;by_cases h0:L.length=0
 ·rw[show(((L.length:Nat):Int)==0)=true by simp[h0],cond_true];exact⟨n,L,c1,rfl,hD,s8.up (by omega)⟩
 have e0:(((L.length:Nat):Int)==0)=false:=by rw[beq_eq_false_iff_ne];omega
 obtain⟨x,c2,x1,x2,x3,x4⟩:=bW (L.length:Int) s8 (by omega);have hx:0<=x/\x<(L.length:Int):=by omega
 have hxl:0+x.toNat<L.length:=by omega
 obtain⟨y,c3,y1,y2,y3,y4⟩:=bW 24 x4 (by omega);rw[e0,cond_false,x1,Option.bind_some];simp only;rw[aR hx,Option.bind_some,List.getElem?_eq_getElem hxl,Option.bind_some,y1,Option.bind_some];have hy:=s7 _ (List.getElem_mem hxl);generalize L[0+x.toNat]=s at hy;have up:∀{k:Nat}{c:aw},bw c k->k<=m+2000->bw c (m+2000):=fun h hk=>h.up hk;simp only[bnd];cases y==0 with
 | true =>
   obtain⟨z,c4,z1,z2,z3⟩:=dX [0,999,1000,500,1] y4 (by omega) (by simp);simp only[cond_true,z1,Option.bind_some];exact fE hx hD (by exact hy) (up z3 (by omega))
 | false =>
   rw[cond_false];cases y==1 with
   | true =>
     obtain⟨z,c4,z1,z2,z3,z4⟩:=bW 5 y4 (by omega);simp only[cond_true,z1,Option.bind_some];exact fE hx hD (by exact hy) (up z4 (by omega))
   | false =>
     rw[cond_false];cases y==2 with
     | true =>
       obtain⟨a,p,c4,z1,z2,z3⟩:=mq hD.2.1 y4 (by omega);simp only[cond_true,z1,Option.bind_some];exact fE hx hD ⟨by simp only;omega,hy.2⟩ (up z3 (by omega))
     | false =>
       rw[cond_false];cases y==3 with
       | true =>
         obtain⟨b,c4,z1,z2⟩:=ve y4 (by omega);simp only[cond_true,z1,Option.bind_some];exact fE hx hD (by exact hy) (up z2 (by omega))
       | false =>
         rw[cond_false];cases y==4 with
         | true =>
           obtain⟨a,p,c4,z1,z2,z3⟩:=mq hD.2.1 y4 (by omega);simp only[cond_true,z1,Option.bind_some];exact fE hx hD ⟨hy.1,by simp only;omega⟩ (up z3 (by omega))
         | false =>
           rw[cond_false];cases y==5 with
           | true =>
             obtain⟨b,c4,z1,z2⟩:=ve y4 (by omega);simp only[cond_true,z1,Option.bind_some];exact fE hx hD (by exact hy) (up z2 (by omega))
           | false =>
             rw[cond_false];cases y==6 with
             | true =>
               simp only[cond_true,eN];rw[aR (by omega)];simp only[Option.bind_some];have hl:(L.length+1)=(L++[s]).length:=by simp
               rw[hl];exact fE (by rw[<-hl];omega) ⟨hD.1,hD.2.1,by rw[<-hl];omega,fun z hz=>by
                rcases List.mem_append.1 hz with h4|h4
                ·exact s7 z h4
                ·simp only[List.mem_singleton] at h4;rw[h4];exact hy⟩ hy (up y4 (by omega))
             | false =>
               rw[cond_false];cases y==7 with
               | true =>
                 obtain⟨K,nodes,fs,c4,z1,z2,z3⟩:=rF y4 (by omega);simp only[cond_true,z1,Option.bind_some];rw[lQ _ _ z2.k];have hz:=tU (K:=K) (by have:=z2.k;have:=z2.n;omega) z2.z (show fs.length<=20 by have:=z2.f;omega);exact fE hx ⟨hz,by have:=z2.f;simp only;omega,hD.2.2.1,s7⟩ hy (up z3 (by omega))
               | false =>
                 simp only[cond_false,Option.bind_some];exact fE hx hD hy (up y4 (by omega))
theorem FF(K:Nat)(hK:K<=100)(L:List ah){c:aw}{m:Nat}(h:bw c m)(hm:m<=100000000):∃R c',KB 0 K c L=some (R,c',L)/\R.length<=101/\bw c' (m+300):=by
 unfold KB;obtain⟨o,o1,o2,o3⟩:=br (f:=JV K) (fun t=>∃i:Nat,t.1=(i:Int)/\i<=K/\t.2.1.length=i/\bw t.2.2 (m+2*i)) (fun t=>K-t.1.toNat) (fun o=>o.1.length<=100/\bw o.2 (m+200)) (fun t⟨i,e,hi,t1,t2⟩=>by
  obtain⟨x,acc,cc⟩:=t;simp only at e t1 t2;subst e;unfold JV;by_cases h3:i<K
  ·left;have e1:decide ((i:Int)<(K:Int))=true:=by simp[h3]
   obtain⟨z,c4,z1,z2,z3⟩:=dX [10,10,20,40,100] t2 (by omega) (by simp);simp only[e1,cond_true,bnd,z1,Option.bind_some];rw[aR (by omega),Option.bind_some,aF (by omega) (by omega)];exact⟨_,rfl,⟨i+1,rfl,by omega,by simp[t1],z3.up (by omega)⟩,by simp only;omega⟩
  ·right;have e1:decide ((i:Int)<(K:Int))=false:=by simp only[decide_eq_false_iff_not];omega
   simp only[e1,cond_false];exact⟨_,rfl,by simp only;omega,t2.up (by omega)⟩) N0 (0,[],c) ⟨0,rfl,by omega,rfl,h⟩ (bZ (by simp only;omega))
 obtain⟨y,c3,y1,y2,y3,y4⟩:=bW 24 o3 (by omega);rw[o1,Option.bind_some,y1,Option.bind_some];simp only[bnd];cases y==0 with
 | true =>
   rw[cond_true,aR (by omega),Option.bind_some];exact⟨_,_,rfl,by simp;omega,y4.up (by omega)⟩
 | false =>
   rw[cond_false];cases y==1 with
   |false=>exact⟨_,_,rfl,by omega,y4.up (by omega)⟩
   | true =>
     rw[cond_true];by_cases h0:0<o.1.length
     ·have e1:decide ((0:Int)<(o.1.length:Int))=true:=by simp[h0]
      obtain⟨z,c4,z1,z2,z3⟩:=dX [0,1000,1001] y4 (by omega) (by simp);simp only[e1,cond_true,z1,Option.bind_some];rw[aR ⟨by omega,by omega⟩,Option.bind_some,show Int.toNat 0=0 from rfl,List.getElem?_eq_getElem h0,Option.bind_some];exact⟨_,_,rfl,by rw[List.length_set];omega,z3.up (by omega)⟩
     ·have e1:decide ((0:Int)<(o.1.length:Int))=false:=by simp only[decide_eq_false_iff_not];omega
      rw[e1];exact⟨_,_,rfl,by omega,y4.up (by omega)⟩
theorem vU(n:af)(h:n.Fibers.length<=20)(i:Nat)(f:az)(hf:n.Fibers[i]?=some f)(hr:f.Risk≠0):pK n (i:Int)=some (cA f.Risk 0 n.Fibers):=by
 unfold pK;have e:(f.Risk==0)=false:=by simpa using hr
 simp only[aQ,hf,Option.bind_some,e,cond_false];rw[ob (f:=M_d n (i:Int)) n.Fibers f.Risk (by omega) (fun j x b hx hb=>by
  have hlt:=(List.getElem?_eq_some_iff.1 hx).1;have e1:decide ((j:Int)<n.Fibers.length)=true:=by simp[hlt]
  simp only[M_d,e1,cond_true,aQ,hx,hf,Option.bind_some,bnd];rw[aR (by omega),aF (by omega) (by omega)];by_cases e:x.Risk=f.Risk
  ·simp[e]
  ·simp[e,gN]) (fun a=>by simp[M_d])]
 rfl
theorem ul(n:af)(h:n.Fibers.length<=20):pS n=some (aO n):=by
 unfold pS;rw[lV (f:=M_e n) n.Fibers (fun r a hr1 hr9 ha=>by
  have e1:decide (r<=9)=true:=by simp[hr9]
  simp only[M_e,e1,cond_true];have key:bl (M_l n (r,a)) N0 0=some (if 0<(cA r 0 n.Fibers).length then a++[cA r 0 n.Fibers] else a):=by
   rw[cW (f:=M_l n (r,a)) n.Fibers (fun _ f=>decide (f.Risk=r)) (a++[cA r 0 n.Fibers]) a (fun i x hx _=>by
    have hlt:=(List.getElem?_eq_some_iff.1 hx).1;have e1:decide ((i:Int)<n.Fibers.length)=true:=by simp[hlt]
    simp only[M_l,e1,cond_true,aQ,hx,Option.bind_some,bnd];by_cases e:x.Risk=r
    ·have e0:x.Risk≠0:=by omega
     have e2:(x.Risk==r)=true:=by simp[e]
     rw[vU n h i x hx e0];simp only[e2,cond_true,Option.bind_some];rw[aR (by omega)];simp[e]
    ·have e2:(x.Risk==r)=false:=by simp[e]
     simp only[e2,cond_false];rw[aF (by omega) (by omega)];simp[e]) (by simp[M_l]) (by omega)]
   by_cases hp:0<(cA r 0 n.Fibers).length
   ·rw[if_pos hp];obtain⟨j,f,h1,h2⟩:=ln.1 hp;have:dF (fun _(f:az)=>decide (f.Risk=r)) n.Fibers=true:=eR.2 ⟨j,f,h1,by simp[h2]⟩;rw[this];rfl
   ·rw[if_neg hp];have:dF (fun _(f:az)=>decide (f.Risk=r)) n.Fibers=false:=cB.2 fun i x hx=>by
     simp only[decide_eq_false_iff_not];intro e;exact hp (ln.2 ⟨i,x,hx,e⟩)
    rw[this];rfl
  rw[key];simp only[Option.bind_some];rw[aF (by omega) (by omega)]) (fun a=>by simp[M_e])]
 simp only[Option.bind_some];have hl:=List.length_filter_le (fun l:List Int=>decide (0<l.length)) (fk.map fun r=>cA r 0 n.Fibers);have hl9:(fk.map fun r=>cA r 0 n.Fibers).length=9:=rfl;rw[oJ (f:=M_j n) n.Fibers _ (by omega) (by omega) (fun i x a hx ha=>by
  have hlt:=(List.getElem?_eq_some_iff.1 hx).1;have e1:decide ((i:Int)<n.Fibers.length)=true:=by simp[hlt]
  simp only[M_j,e1,cond_true,aQ,hx,Option.bind_some,bnd];rw[aR (by omega),aF (by omega) (by omega)];by_cases e:x.Risk=0
  ·simp[e]
  ·simp[e,gN]) (fun a=>by simp[M_j])]
 rfl
theorem NJ{n:af}(hF:n.Fibers.length<=20){c:aw}{m:Nat}(h:bw c m)(hm:m<=100000000):∃k ids c',Kx n c=some (0,k,ids,c')/\k<=ids.length/\ids.length<=20/\bw c' (m+100):=by
 unfold Kx;obtain⟨o,o1,o2,o3⟩:=br (f:=Lu n) (fun t=>∃i:Nat,t.1=(i:Int)/\i<=n.Fibers.length/\t.2.1.length<=i/\(∀e∈t.2.1,0<=e)/\bw t.2.2 (m+2*i)) (fun t=>n.Fibers.length-t.1.toNat) (fun o=>o.1.length<=20/\bw o.2 (m+40)) (fun t⟨i,e,hi,t1,t3,t2⟩=>by
  obtain⟨x,acc,cc⟩:=t;simp only at e t1 t2 t3;subst e;unfold Lu;by_cases h3:i<n.Fibers.length
  ·left;have e1:decide ((i:Int)<(n.Fibers.length:Int))=true:=by simp[h3]
   obtain⟨z,c4,z1,z2⟩:=yZ 4 t2 (by omega);simp only[e1,cond_true,bnd,z1,Option.bind_some];rw[aF (by omega) (by omega)];cases z with
   |false=>exact⟨_,rfl,⟨i+1,rfl,by omega,by simp only;omega,t3,z2.up (by omega)⟩,by simp only;omega⟩
   | true =>
     rw[cond_true,aR (by omega),Option.bind_some];exact⟨_,rfl,⟨i+1,rfl,by omega,by simp;omega,fun y hy=>by
      rcases List.mem_append.1 hy with h4|h4
      ·exact t3 y h4
      ·simp only[List.mem_singleton] at h4;omega,z2.up (by omega)⟩,by simp only;omega⟩
  ·right;have e1:decide ((i:Int)<(n.Fibers.length:Int))=false:=by simp only[decide_eq_false_iff_not];omega
   simp only[e1,cond_false];exact⟨_,rfl,by simp only;omega,t2.up (by omega)⟩) N0 (0,[],c) ⟨0,rfl,by omega,by simp,fun e he=>(by cases he),h⟩ (bZ (by simp only;omega))
 obtain⟨z,c4,z1,z2⟩:=yZ 8 o3 (by omega);rw[o1,Option.bind_some,ul n hF,Option.bind_some,z1,Option.bind_some];simp only;cases z with
 |true=>exact⟨o.1.length,o.1,c4,rfl,Nat.le_refl _,o2,z2.up (by omega)⟩
 | false =>
   simp only[Bool.not_false,cond_true];obtain⟨k,k1,k2⟩:=br (f:=DY o (aO n)) (fun t=>t<=o.1.length) (fun t=>t) (fun k=>k<=o.1.length) (fun t ht=>by
    unfold DY;by_cases h0:0<t
    ·have e1:decide ((0:Int)<(t:Int))=true:=by simp[h0]
     have hix:IntKind.wrap .i64 ((t:Int)-1)=((t-1:Nat):Int):=by rw[aF (by omega) (by omega)];omega
     simp only[e1,cond_true,hix];rw[aR ⟨by omega,by omega⟩,Option.bind_some,Int.toNat_natCast,List.getElem?_eq_getElem (show t-1<o.1.length by omega),Option.bind_some,Option.bind_some];cases decide (((aO n).length:Int)<=o.1[t-1]'(by omega)) with
     |false=>exact .inr ⟨t,rfl,ht⟩
     | true =>
       rw[cond_true,aR ⟨trivial,by omega,trivial,by omega⟩,Option.bind_some];exact .inl ⟨_,rfl,by omega,by omega⟩
    ·have e1:decide ((0:Int)<(t:Int))=false:=by simp only[decide_eq_false_iff_not];omega
     simp only[e1,cond_false,Option.bind_some];exact .inr ⟨t,rfl,ht⟩) N0 o.1.length (Nat.le_refl _) (bZ (by omega))
   rw[k1];exact⟨k,o.1,c4,rfl,k2,o2,z2.up (by omega)⟩
theorem Dh{code:List Int}(h1:∀x∈code,0<=x/\x<=255)(h2:code.length<=65536):∃(n:af)(L:List ah)(R ids:List Int)(k:Nat),MR code=some (n,0,L.length,0,k,L,R,ids)/\Ft n L/\R.length<=101/\k<=ids.length/\ids.length<=20:=by
 have h0:bw (⟨code,0,0⟩:aw) 0:=⟨h1,h2,by simp,by simp⟩;obtain⟨n,L,c1,a1,a2,a3⟩:=oq h0 (by omega);obtain⟨R,c2,b1,b2,b3⟩:=FF L.length (by have:=a2.2.2.1;omega) L a3 (by omega);obtain⟨k,ids,c3,d1,d2,d3,d4⟩:=NJ a2.2.1 b3 (by omega);unfold MR QC;rw[a1,Option.bind_some];simp only[b1,Option.bind_some,d1];exact⟨n,L,R,ids,k,rfl,a2,b2,d2,d3⟩
end Vs

namespace Vs
open Go
theorem nN:∀(L:List Int)(i:Nat)(h:i<L.length),(L[i]::L.eraseIdx i).Perm L
 |a::l,0,_=>List.Perm.refl _
 | a :: l, i + 1, h => by
   have ih:=nN l i (by simpa using h);simp only[List.getElem_cons_succ,List.eraseIdx_cons_succ];exact(List.Perm.swap _ _ _).trans (ih.cons a)
theorem tT(f:List Int->Int):∀(k:Nat)(L out:List Int),L.length=k->(roL f k L out).Perm (out++L)
 | 0, L, out, h => by
   have:L=[]:=List.eq_nil_of_length_eq_zero h;subst this;simp only[roL,List.append_nil];exact List.Perm.refl _
 | k + 1, L, out, h => by
   have hi:(chB f L (L.length-1)).1<L.length:=by have:=rr f L (L.length-1);omega
   simp only[roL];rw[if_neg (by omega),List.getElem?_eq_getElem hi];have h1:=tT f k (L.eraseIdx (chB f L (L.length-1)).1) (out++[L[(chB f L (L.length-1)).1]]) (by rw[List.length_eraseIdx_of_lt hi];omega);refine h1.trans ?_;rw[List.append_assoc];exact(List.Perm.refl out).append (nN L _ hi)
theorem wO{g:Nat->Int×Int×Int->Int×Int×Int}(hm:∀j a,a.2.2<=(g j a).2.2):∀(m j:Nat)(a:Int×Int×Int),a.2.2<=(pJ g m j a).2.2
 |0,_,_=>Int.le_refl _
 |m+1,j,a=>Int.le_trans (hm j a) (wO hm m (j+1) (g j a))
theorem xK{g:Nat->Int×Int×Int->Int×Int×Int}(hm:∀j a,a.2.2<=(g j a).2.2)(v:Int)(t:Nat)(hv:∀a,v<=(g t a).2.2):∀(m j:Nat)(a:Int×Int×Int),j<=t->t<j+m->v<=(pJ g m j a).2.2
 |0,j,a,h1,h2=>by omega
 | m + 1, j, a, h1, h2 => by
   simp only[pJ];by_cases e:j=t
   ·subst e;exact Int.le_trans (hv a) (wO hm m (j+1) _)
   ·exact xK hm v t hv m (j+1) _ (by omega) (by omega)
theorem RE(n:af)(list:List ah)(rates:List Int)(i j:Nat)(a:Int×Int×Int):a.2.2<=(wpS n list rates i j a).2.2/\bA n list rates [(i:Int),(j:Int)]<=(wpS n list rates i j a).2.2:=by
 unfold wpS;split
 ·rename_i h;exact⟨Int.le_of_lt h,Int.le_refl _⟩
 ·rename_i h;exact⟨Int.le_refl _,by omega⟩
theorem Tb(n:af)(list:List ah)(rates:List Int)(K i j:Nat)(hij:i<j)(hj:j<K):bA n list rates [(i:Int),(j:Int)]<=(wpF n list rates K).2.2:=by
 unfold wpF;have hm1:∀i j a,a.2.2<=(wpS n list rates i j a).2.2:=fun i j a=>(RE n list rates i j a).1;have hm:∀i a,a.2.2<=(wpI n list rates K i a).2.2:=fun i a=>wO (hm1 i) _ _ a;refine xK hm _ i (fun a=>?_) K 0 _ (Nat.zero_le _) (by omega);unfold wpI;exact xK (hm1 i) _ j (fun a=>(RE n list rates i j a).2) _ _ a (by omega) (by omega)
theorem Ig(a:List Int)(hl:a.length<=1048576):Ee a a=some true:=by
 unfold Ee;rw[bne_self_eq_false,cond_false];rw[fm (f:=Bt a a) a (fun _=>false) (.inr false) (.inl ()) (fun i x hx=>by
  have hlt:=(List.getElem?_eq_some_iff.1 hx).1;have h1:decide ((i:Int)<a.length)=true:=by simp[hlt]
  simp only[Bt,h1,cond_true,aQ,hx,Option.bind_some,bne_self_eq_false,cond_false];rw[aF (by omega) (by omega)];rfl) (by simp[Bt]) (by omega)]
 simp
theorem SU(l:List Int)(x:Int)(hl:l.length<=1048576):KN l x=some (decide (x∈l)):=by
 unfold KN;rw[fm (f:=Ci l x) l (fun y=>y==x) (.inr true) (.inl ()) (fun i y hy=>by
  have hlt:=(List.getElem?_eq_some_iff.1 hy).1;have h1:decide ((i:Int)<l.length)=true:=by simp[hlt]
  simp only[Ci,h1,cond_true,aQ,hy,Option.bind_some];rw[aF (by omega) (by omega)];cases y==x<;>rfl) (by simp[Ci]) (by omega),rX]
 cases l.any fun y=>y==x<;>rfl
theorem DU{n:af}{L:List ah}{R ids:List Int}{k:Nat}(hk:k<=ids.length)(h20:ids.length<=20){o:List Int×Bool}(ho:o.1.length<=1000)(h:o.2=true->∀g∈ids.take k,g∈o.1):bl (Bh (n,0,L.length,0,k,L,R,ids) o) N0 0=some (.inl ()):=by
 obtain⟨b,b1,b2⟩:=br (f:=Bh (n,0,L.length,0,k,L,R,ids) o) (fun t=>∃i:Nat,t=(i:Int)/\i<=k) (fun t=>k-t.toNat) (fun b=>b=.inl ()) (fun t⟨i,e,hi⟩=>by
  subst e;unfold Bh;by_cases h3:i<k/\o.2=true
  ·left;have e1:decide ((i:Int)<(k:Int))=true:=by simp[h3.1]
   have hil:i<ids.length:=by omega
   have hm:ids[i]∈o.1:=h h3.2 _ (List.mem_take_iff_getElem.2 ⟨i,by omega,rfl⟩);simp only[e1,h3.2,cond_true,Option.bind_some];rw[aR ⟨by omega,by omega⟩,Option.bind_some,Int.toNat_natCast,Nat.zero_add,List.getElem?_eq_getElem hil,Option.bind_some,SU _ _ (by omega),Option.bind_some,decide_eq_true hm,aF (by omega) (by omega)];exact⟨_,rfl,⟨i+1,rfl,by omega⟩,by omega⟩
  ·right;have e1:(cond (decide ((i:Int)<(k:Int))) (some o.2) (some false):Option Bool)=some false:=by
    by_cases h4:i<k
    ·have:o.2=false:=by
      cases h5:o.2 with
      |false=>rfl
      |true=>exact absurd ⟨h4,h5⟩ h3
     simp[this]
    ·simp[h4]
   simp only[e1,Option.bind_some,cond_false];exact⟨_,rfl,rfl⟩) N0 0 ⟨0,rfl,by omega⟩ (bZ (by omega))
 rw[b1,b2]
theorem vM(code:List Int)(o1:code.length<=9223372036854775807/\∀x∈code,0<=x/\x<=255):Pz code=some true:=by
 unfold Pz NT;by_cases hl:(65536:Int)<(code.length:Int)
 ·simp[hl]
 simp only[decide_eq_false hl,Option.bind_some,cond_false];obtain⟨n,L,R,ids,k,d1,d2,d3,d4,d5⟩:=Dh o1.2 (by omega);obtain⟨hz,_,hL,hS⟩:=d2;have hzl:bQ L<=1048576:=zt (by omega) hS;have hzr:eX R<=1048576:=by unfold eX;omega
 have hG:(ids.take k).length=k:=by rw[List.length_take];omega
 have hzg:eX (ids.take k)<=1048576:=by unfold eX;omega
 have e6:cK ids 0 k=ids.take k:=lQ _ _ d4;simp only[d1,Option.bind_some,bnd,eN,e6,ko n L R (ids.take k) hz hzl hzr hzg,kj n L R (ids.take k) hz hzl hzr hzg];have hlen:(roP n L R (ids.take k)).1.length<=k:=by
  unfold roP;split
  ·have:=zK (bA n L R) (ids.take k).length (ids.take k) [];simp only[List.length_nil] at this⊢;omega
  ·simp
 have hper:(roP n L R (ids.take k)).2=true->(roP n L R (ids.take k)).1.Perm (ids.take k):=by
  unfold roP;split
  ·intro _;exact tT _ _ (ids.take k) [] rfl
  ·intro h;cases h
 rw[Ig _ (by omega)];simp only[beq_self_eq_true,Bool.not_true,cond_false,Option.bind_some];rw[DU d4 d5 (by omega) fun h g hg=>(hper h).mem_iff.2 hg,Option.bind_some];simp only[lR n L R hz hzl hzr,lT n L R hz hzl hzr,Option.bind_some,bne_self_eq_false,cond_false,beq_self_eq_true,Bool.not_true];have hfin:cond (((roP n L R (ids.take k)).1.length:Int)==(k:Int)) (some true) (some (!(roP n L R (ids.take k)).2))=some true:=by
  cases h:(roP n L R (ids.take k)).2 with
  |false=>cases(((roP n L R (ids.take k)).1.length:Int)==(k:Int))<;>rfl
  | true =>
    have:=(hper h).length_eq;rw[show(((roP n L R (ids.take k)).1.length:Int)==(k:Int))=true by rw[this,hG];simp];rfl
 have hmid:((cond (roP n L R (ids.take k)).2 (cond (wpP n L R).2.2.2 (some ((k:Int)==2)) (some false)) (some false):Option Bool).bind fun oZ34=>cond (oZ34) ((Dw n L R (ids.take k)).bind fun rZ36=>cond (!rZ36.2) (some (.inr false)) (cond (decide ((wpP n L R).2.2.1<rZ36.1)) (some (.inr false)) (some (.inl ())))) (some (.inl ())):Option (Unit⊕Bool))=some (.inl ()):=by
  cases h1:(roP n L R (ids.take k)).2 with
  |false=>rfl
  | true =>
    cases h2:(wpP n L R).2.2.2 with
    |false=>rfl
    | true =>
      simp only[cond_true,Option.bind_some];by_cases hk:k=2
      ·have hask:mV n L (ids.take k)=true/\hY L R=true:=by
        unfold roP at h1;split at h1
        ·rename_i h;exact Bool.and_eq_true_iff.1 h
        ·cases h1
       have hlr:lrP n L R (ids.take k)=(bA n L R (ids.take k),true):=by unfold lrP;rw[hask.1,hask.2];rfl
       rw[show((k:Int)==2)=true by simp[hk],cond_true,mW n L R (ids.take k) hz hzl hzr hzg,hlr];simp only[Option.bind_some,Bool.not_true,cond_false];obtain⟨_,q2,_⟩:=oK hask.1;obtain⟨_,q5⟩:=Bool.and_eq_true_iff.1 hask.1;have q6:=(sk q5).1;have two:∀G:List Int,G.length=2->∃a b,G=[a,b]:=fun G h=>match G,h with
        |[a,b],_=>⟨a,b,rfl⟩
       obtain⟨a,b,hgs⟩:=two (ids.take k) (by omega);rw[hgs] at q2 q6⊢
       ·
        have hab:a<b:=by simpa using q6
        have ha:=q2 a (by simp);have hb:=q2 b (by simp);have hge:=Tb n L R (aO n).length a.toNat b.toNat (by omega) (by omega);rw[show((a.toNat:Nat):Int)=a by omega,show((b.toNat:Nat):Int)=b by omega] at hge;have hw:(wpP n L R).2.2.1=(wpF n L R (aO n).length).2.2:=by
         unfold wpP at h2⊢;split
         ·rename_i h;rw[if_pos h] at h2;split
          ·rename_i h3;rw[if_pos h3] at h2;cases h2
          ·rfl
         ·rename_i h;rw[if_neg h] at h2;cases h2
        rw[hw,decide_eq_false (by omega)];rfl
      ·rw[show((k:Int)==2)=false by rw[beq_eq_false_iff_ne];omega];rfl
 rw[hmid,Option.bind_some];exact hfin
end Vs



