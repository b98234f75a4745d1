/-
  Part of the proof that the law FnCompatible returns true at every input; no condition beside the row's own.
-/
import Derived.Test.YtfmhphgpijjejaaGreatTe
import Derived.Test.YtfmhphgpijjejaaGreatDa
set_option linter.defProp false
set_option linter.unusedSimpArgs false
set_option linter.unusedVariables false
namespace Vs
open Go
def mt(xs:(List ByteArray)):Nat:=xs.length+(xs.map fun x=>x.size).sum
def pQ(xs:(List aA)):Nat:=xs.length
def bJ(x:ae):Nat:=mt x.Nodes+pQ x.Fibers
def UG(xs:(List Int)):Nat:=xs.length
def zJ(x:ah):Nat:=UG x.Fibers
def ie(x:aj):Nat:=zJ x.Work+zJ x.Spare
def dX(xs:(List aj)):Nat:=xs.length+(xs.map fun x=>ie x).sum
end Vs

namespace Vs
open Go
def wi(x a b:Int):Bool:=decide (a<=x)&&decide (x<=b)
theorem bT{x a b:Int}:wi x a b=true↔a<=x/\x<=b:=by simp[wi]
theorem oo{x a b:Int}:wi x a b=false↔¬(a<=x/\x<=b):=by rw[<-bT];simp
theorem dB(x a b:Int):M_d x a b=some (wi x a b):=by
 unfold M_d wi;by_cases h:a<=x<;>simp[h]
theorem gw(x a b:Int):M_c x a b=some (wi x a b):=by
 unfold M_c wi;by_cases h:a<=x<;>simp[h]
def ra(c:UInt8):Bool:=decide (97<=c.toNat)&&decide (c.toNat<=122)
def wl(c:UInt8):Bool:=decide (48<=c.toNat)&&decide (c.toNat<=57)
def ge(i:Nat)(c:UInt8):Bool:=!ra c&&(!wl c||i==0)
def ph(s:ByteArray):Bool:=!eN ge s.data.toList&&wi s.size 1 8
theorem pq(s:ByteArray)(i:Nat):sO s (i:Int)=s.data.toList[i]?:=by
 unfold sO;rw[if_pos (by omega),Int.toNat_natCast];by_cases h:i<s.size
 ·have h2:i<s.data.toList.length:=by simpa using h
  rw[getElem?_pos s i h,List.getElem?_eq_getElem h2];rfl
 ·have h2:¬i<s.data.toList.length:=by simpa using h
  rw[getElem?_neg s i h,List.getElem?_eq_none (Nat.le_of_not_lt h2)]
theorem fG(s:ByteArray):s.size=s.data.toList.length:=by show s.data.size=s.data.toList.length;rw[Array.length_toList]
theorem xp(c:UInt8):ra c=(decide (97<=(c.toNat:Int))&&decide ((c.toNat:Int)<=122)):=by
 unfold ra;congr 1<;>exact decide_eq_decide.2 (by omega)
theorem Kc(c:UInt8):wl c=(decide (48<=(c.toNat:Int))&&decide ((c.toNat:Int)<=57)):=by
 unfold wl;congr 1<;>exact decide_eq_decide.2 (by omega)
theorem Mv(s:ByteArray)(hl:s.size<=1048576):JQ s=some (ph s):=by
 unfold JQ ph;rw[fG] at*
 rw[el (f:=Et s) s.data.toList ge (.inr false) (.inl ()) (fun i c hc _=>by
  have hlt:=(List.getElem?_eq_some_iff.1 hc).1;have h1:decide ((i:Int)<s.size)=true:=decide_eq_true (by rw[fG];omega);simp only[Et,h1,cond_true,pq,hc,Option.bind_some,ge,xp,Kc];rw[aH (by omega) (by omega)];have hi:((i:Int)==0)=(i==0):=by rw[Bool.eq_iff_iff];simp
  rw[hi];cases decide (97<=(c.toNat:Int))<;>cases decide ((c.toNat:Int)<=122)<;>cases decide (48<=(c.toNat:Int))<;>cases decide ((c.toNat:Int)<=57)<;>cases(i==0)<;>rfl) (by simp[Et]) (by omega)]
 rw[<-fG];cases eN ge s.data.toList<;>simp[dB]
theorem Md(c:UInt8):HW (c.toNat:Int)=some (ra c||wl c):=by
 unfold HW;simp only[xp,Kc];cases decide (97<=(c.toNat:Int))<;>cases decide ((c.toNat:Int)<=122)<;>cases decide (48<=(c.toNat:Int))<;>rfl
theorem fstc(c:UInt8):(cond (decide ((c.toNat:Int)<97)) (some true) (some (decide (122<(c.toNat:Int)))):Option Bool)=some (!ra c):=by
 rw[xp];by_cases h1:(c.toNat:Int)<97
 ·have h2:¬97<=(c.toNat:Int):=by omega
  simp[h1,h2]
 ·have h2:97<=(c.toNat:Int):=by omega
  simp only[h1,decide_false,cond_false,h2,decide_true,Bool.true_and];by_cases h3:122<(c.toNat:Int)
  ·have h4:¬(c.toNat:Int)<=122:=by omega
   simp[h3,h4]
  ·have h4:(c.toNat:Int)<=122:=by omega
   simp[h3,h4]
theorem IZ(s:ByteArray)(hl:s.size<=1048576):Jr s=some (ph s):=by
 unfold Jr ph;simp only[gw,Option.bind_some];rcases bt (wi s.size 1 8) with hw|hw
 ·simp only[hw,Bool.not_true,cond_false,Bool.and_true];have hs:0<s.data.toList.length:=by rw[<-fG];have:=(bT.1 hw).1;omega
  have h0:s.data.toList[0]?=some s.data.toList[0]:=List.getElem?_eq_getElem hs;have g0:sO s 0=some s.data.toList[0]:=by rw[<-h0];exact pq s 0
  simp only[g0,Option.bind_some];have key:=el (f:=M_b s) s.data.toList (fun _ c=>!(ra c||wl c)) (.inr false) (.inl ()) (fun i c hc _=>by
   have hlt:=(List.getElem?_eq_some_iff.1 hc).1;have h1:decide ((i:Int)<s.size)=true:=decide_eq_true (by rw[fG];omega);rw[fG] at hl;simp only[M_b,h1,cond_true,pq,hc,Option.bind_some,Md];rw[aH (by omega) (by omega)];cases ra c<;>cases wl c<;>rfl) (by simp[M_b]) (by rw[fG] at hl;omega)
  rw[fstc];simp only[Option.bind_some,key];rcases bt (ra s.data.toList[0]) with hL|hL
  ·simp only[hL,Bool.not_true,cond_false];have e:eN (fun _ c=>!(ra c||wl c)) s.data.toList=eN ge s.data.toList:=by
    refine yI fun i c hc _=>?_;unfold ge;by_cases hi:i=0
    ·subst hi;rw[h0] at hc;cases hc;rw[hL];rfl
    ·have:(i==0)=false:=by simpa using hi
     rw[this];cases ra c<;>cases wl c<;>rfl
   rw[e];cases eN ge s.data.toList<;>rfl
  ·have:eN ge s.data.toList=true:=gC.2 ⟨0,_,h0,by unfold ge;rw[hL];simp⟩;simp only[hL,this,Bool.not_false,cond_true,Bool.not_true]
 ·simp[hw]
def Vj(v:ByteArray)(xs:List ByteArray):Option (Nat×ByteArray):=cC (fun _ x=>x.toList==v.toList) xs
def OB(v:ByteArray)(xs:List ByteArray):Int:=match Vj v xs with|some q=>(q.1:Int)|none=>-1
theorem Kl(xs:List ByteArray)(v:ByteArray)(hl:xs.length<=1048576):Ij xs v=some (OB v xs):=by
 unfold Ij OB;rw[da (f:=CB xs v) xs (fun _ x=>x.toList==v.toList) (fun i _=>(i:Int)) () (fun i x hx _=>by
  have hlt:=(List.getElem?_eq_some_iff.1 hx).1;have h1:decide ((i:Int)<xs.length)=true:=by simp[hlt]
  simp only[CB,h1,cond_true,ba,hx,Option.bind_some];rw[aH (by omega) (by omega)];cases x.toList==v.toList<;>rfl) (by simp[CB]) (by omega)]
 unfold Vj;cases cC (fun _ x=>x.toList==v.toList) xs<;>rfl
theorem sB(xs:List ByteArray)(v:ByteArray)(hl:xs.length<=1048576):IR xs v=some (xs.any fun x=>x.toList==v.toList):=by
 unfold IR PG;rw[da (f:=BP xs v) xs (fun _ x=>x.toList==v.toList) (fun i _=>(i:Int)) () (fun i x hx _=>by
  have hlt:=(List.getElem?_eq_some_iff.1 hx).1;have h1:decide ((i:Int)<xs.length)=true:=by simp[hlt]
  simp only[BP,h1,cond_true,ba,hx,Option.bind_some];rw[aH (by omega) (by omega),show(v.toList==x.toList)=(x.toList==v.toList) from Bool.beq_comm ..];cases x.toList==v.toList<;>rfl) (by simp[BP]) (by omega)]
 cases e:cC (fun _ x=>x.toList==v.toList) xs with
 | none =>
   have:=ed.1 e;have h:(xs.any fun x=>x.toList==v.toList)=false:=by
    rw[<-oy (fun x:ByteArray=>x.toList==v.toList),dr];exact this
   rw[h];rfl
 | some q =>
   obtain⟨i,x⟩:=q;obtain⟨h1,h2,_⟩:=cL.1 e;have h:(xs.any fun x=>x.toList==v.toList)=true:=List.any_eq_true.2 ⟨x,List.mem_of_getElem? h1,h2⟩;rw[h];simp
def cT(x y:Int):Int:=if x<y then -1 else if y<x then 1 else 0
theorem wg(x y:Int):M_m x y=some (cT x y):=by
 unfold M_m vX cT;by_cases h:x<y
 ·simp[h]
 ·by_cases h2:y<x<;>simp[h,h2]
def xq(f g:aA):Int:=if f.A≠g.A then cT f.A g.A else if f.B≠g.B then cT f.B g.B else if f.Length≠g.Length then cT f.Length g.Length else cT f.Risk g.Risk
theorem ca{x y:Int}:cT x y=0↔x=y:=by
 unfold cT;split
 ·simp;omega
 ·split
  ·simp;omega
  ·simp;omega
theorem nI(f g:aA):Lt f g=some (xq f g):=by
 unfold Lt;simp only[wg,Option.bind_some,bnd];unfold mB;have key:=da (f:=M_k [cT f.A g.A,cT f.B g.B,cT f.Length g.Length,cT f.Risk g.Risk]) [cT f.A g.A,cT f.B g.B,cT f.Length g.Length,cT f.Risk g.Risk] (fun _ x=>x !=0) (fun _ x=>x) () (fun i x hx _=>by
  have hlt:=(List.getElem?_eq_some_iff.1 hx).1;have h1:decide ((i:Int)<([cT f.A g.A,cT f.B g.B,cT f.Length g.Length,cT f.Risk g.Risk].length:Nat))=true:=decide_eq_true (by omega);simp only[List.length_cons,List.length_nil] at hlt;simp only[M_k,h1,cond_true,ba,hx,Option.bind_some];rw[aH (by omega) (by omega)];cases x !=0<;>rfl) (by simp[M_k]) (by simp)
 rw[key];unfold xq cC;simp only[List.zipIdx_cons,List.zipIdx_nil,List.find?_cons,List.find?_nil];by_cases h1:f.A=g.A
 ·rw[ca.2 h1];by_cases h2:f.B=g.B
  ·rw[ca.2 h2];by_cases h3:f.Length=g.Length
   ·rw[ca.2 h3];by_cases h4:f.Risk=g.Risk
    ·simp[h1,h2,h3,h4,ca.2]
    ·have:(cT f.Risk g.Risk !=0)=true:=bne_iff_ne.2 fun e=>h4 (ca.1 e);simp[h1,h2,h3,this]
   ·have:(cT f.Length g.Length !=0)=true:=bne_iff_ne.2 fun e=>h3 (ca.1 e);simp[h1,h2,h3,this]
  ·have:(cT f.B g.B !=0)=true:=bne_iff_ne.2 fun e=>h2 (ca.1 e);simp[h1,h2,this]
 ·have:(cT f.A g.A !=0)=true:=bne_iff_ne.2 fun e=>h1 (ca.1 e);simp[h1,this]
end Vs

namespace Vs
open Go
theorem QW{α:Type}(xs:List α)(i:Nat)(h:i<=xs.length):slT xs (i:Int)=some (xs.take i):=by
 unfold slT;rw[if_pos ⟨by omega,by simpa using h⟩];simp
theorem Ap{n:ae}(h:bJ n<=1048576):n.Nodes.length<=1048576/\n.Fibers.length<=1048576/\∀x∈n.Nodes,x.size<=1048576:=by
 unfold bJ mt pQ at h;refine⟨by omega,by omega,fun x hx=>?_⟩;obtain⟨i,hi,rfl⟩:=List.getElem_of_mem hx;have:n.Nodes[i].size<=(n.Nodes.map fun x:ByteArray=>x.size).sum:=xo (fun x:ByteArray=>x.size) (xs:=n.Nodes) (i:=i) (x:=n.Nodes[i]) (by simp[hi]);omega
def iV(n:ae)(i:Nat)(x:ByteArray):Bool:=!ph x||(n.Nodes.take i).any fun y=>y.toList==x.toList
def xf(m:Nat)(f:aA):Bool:=decide (f.A<0)||decide (f.B<=f.A)||decide ((m:Int)<=f.B)||!wi f.Length 1 5000||!wi f.Risk 0 9
def gY(n:ae)(i:Nat)(f:aA):Bool:=xf n.Nodes.length f||(decide (0<i)&&match n.Fibers[i-1]? with|some g=>decide (0<xq g f)|none=>false)
def br(n:ae):Bool:=!eN (iV n) n.Nodes&&!eN (gY n) n.Fibers&&wi n.Nodes.length 2 8&&decide (n.Fibers.length<=14)
theorem ee(n:ae)(hz:bJ n<=1048576):vZ n=some (br n):=by
 obtain⟨h1,h2,h3⟩:=Ap hz;unfold vZ br;rw[el (f:=Ea n) n.Nodes (iV n) (.inr false) (.inl ()) (fun i x hx _=>by
  have hlt:=(List.getElem?_eq_some_iff.1 hx).1;have e1:decide ((i:Int)<n.Nodes.length)=true:=by simp[hlt]
  simp only[Ea,e1,cond_true,ba,hx,Option.bind_some,Mv x (h3 x (List.mem_of_getElem? hx)),QW n.Nodes i (Nat.le_of_lt hlt),sB (n.Nodes.take i) x (by simp;omega),iV];rw[aH (by omega) (by omega)];rcases bt (ph x) with e|e<;>rcases bt ((n.Nodes.take i).any (fun y=>y.toList==x.toList)) with e'|e'<;>simp only[e,e']<;>rfl) (by simp[Ea]) (by omega)]
 rcases bt (eN (iV n) n.Nodes) with hN|hN
 ·simp[hN]
 ·simp only[hN,Bool.false_eq_true,if_false,Option.bind_some,Bool.not_false,Bool.true_and];rw[el (f:=EF n) n.Fibers (gY n) (.inr false) (.inl ()) (fun i x hx _=>by
   have hlt:=(List.getElem?_eq_some_iff.1 hx).1;have e1:decide ((i:Int)<n.Fibers.length)=true:=by simp[hlt]
   simp only[EF,e1,cond_true,ba,hx,Option.bind_some,dB];rw[aH (n:=(i:Int)+1) (by omega) (by omega)];unfold gY xf;cases decide (x.A<0)
   ·cases decide (x.B<=x.A)
    ·cases decide ((n.Nodes.length:Int)<=x.B)
     ·cases wi x.Length 1 5000
      ·rfl
      ·cases wi x.Risk 0 9
       ·rfl
       ·by_cases hi:0<i
        ·have hi':decide ((0:Int)<(i:Int))=true:=by simp[hi]
         have hp:n.Fibers[i-1]?=some n.Fibers[i-1]:=List.getElem?_eq_getElem (by omega);have hw:IntKind.wrap .i64 ((i:Int)-1)=((i-1:Nat):Int):=by rw[aH (by omega) (by omega)];omega
         simp only[hi',cond_true,cond_false,Bool.not_true,hw,ba,hp,Option.bind_some,nI,hi,decide_true,Bool.true_and,Bool.false_or];cases decide (0<xq n.Fibers[i-1] x)<;>rfl
        ·have hi':decide ((0:Int)<(i:Int))=false:=by simp;omega
         simp[hi',hi]
     ·rfl
    ·rfl
   ·rfl) (by simp[EF]) (by omega)]
  rcases bt (eN (gY n) n.Fibers) with hF|hF
  ·simp[hF]
  ·simp only[hF,Bool.false_eq_true,if_false,Option.bind_some,Bool.not_false,Bool.true_and,dB];have e:decide ((n.Fibers.length:Int)<=14)=decide (n.Fibers.length<=14):=decide_eq_decide.2 (by omega);rw[e];cases wi n.Nodes.length 2 8<;>rfl
theorem JG(n:ae)(i:Nat)(x:ByteArray)(hx:n.Nodes[i]?=some x):
 (OB x n.Nodes !=(i:Int))=(n.Nodes.take i).any fun y=>y.toList==x.toList:=by
 unfold OB;cases e:Vj x n.Nodes with
 | none =>
   have:=ed.1 e i x hx;simp at this
 | some q =>
   obtain⟨j,y⟩:=q;obtain⟨h1,h2,h3⟩:=cL.1 e;simp only;by_cases hj:j=i
   ·subst hj;have:((n.Nodes.take j).any fun y=>y.toList==x.toList)=false:=by
     rw[List.any_eq_false];intro z hz;obtain⟨k,hk,rfl⟩:=List.getElem_of_mem hz;simp only[List.length_take] at hk;have:=h3 k (n.Nodes.take j)[k] (by omega) (by rw[List.getElem_take];exact List.getElem?_eq_getElem (by omega));rw[this];simp
    rw[this];simp
   ·have hji:j<i:=by
     rcases Nat.lt_trichotomy j i with h|h|h
     ·exact h
     ·exact(hj h).elim
     ·have:=h3 i x h hx;simp at this
    have:((n.Nodes.take i).any fun y=>y.toList==x.toList)=true:=List.any_eq_true.2 ⟨y,by
     have:(n.Nodes.take i)[j]?=some y:=by rw[List.getElem?_take,if_pos hji];exact h1
     exact List.mem_of_getElem? this,h2⟩
    rw[this];simp;omega
theorem BR(f:aA)(m:Nat)(hm:m<=8)(hm2:2<=m):Ld f (m:Int)=some (!xf m f):=by
 unfold Ld xf;simp only[gw,Option.bind_some];rw[aH (n:=(m:Int)-1) (by omega) (by omega)];rcases bt (wi f.A 0 ((m:Int)-1)) with h1|h1
 ·have h2:=bT.1 h1;rw[aH (n:=f.A+1) (by omega) (by omega)];rcases bt (wi f.B (f.A+1) ((m:Int)-1)) with h3|h3
  ·have h4:=bT.1 h3;have a1:decide (f.A<0)=false:=by simp;omega
   have a2:decide (f.B<=f.A)=false:=by simp;omega
   have a3:decide ((m:Int)<=f.B)=false:=by simp;omega
   simp only[h1,h3,a1,a2,a3,cond_true,Bool.false_or];cases wi f.Length 1 5000<;>cases wi f.Risk 0 9<;>rfl
  ·have h4:=oo.1 h3;simp only[h1,h3,cond_true,cond_false];by_cases a2:f.B<=f.A
   ·simp[a2]
   ·have a3:(m:Int)<=f.B:=by omega
    simp[a3]
 ·have h2:=oo.1 h1;simp only[h1,cond_false];by_cases a1:f.A<0
  ·simp[a1]
  ·by_cases a2:f.B<=f.A
   ·simp[a2]
   ·have a3:(m:Int)<=f.B:=by omega
    simp[a3]
structure wv(m:Int)(f:aA):Prop where
 a0:0<=f.A
 ab:f.A<f.B
 bm:f.B<m
 l1:1<=f.Length
 l2:f.Length<=5000
 r0:0<=f.Risk
 r9:f.Risk<=9
theorem nQ{m:Nat}{f:aA}(h:xf m f=false):wv m f:=by
 unfold xf at h;simp only[Bool.or_eq_false_iff,decide_eq_false_iff_not,Bool.not_eq_false',bT] at h;obtain⟨⟨⟨⟨h1,h2⟩,h3⟩,h4,h5⟩,h6,h7⟩:=h;exact⟨by omega,by omega,by omega,h4,h5,h6,h7⟩
theorem LH(f g:aA)(m:Nat)(hm:m<=8)(hf:wv m f)(hg:wv m g):∃r,ux f g=some r/\decide (0<r)=decide (0<xq f g):=by
 obtain⟨a1,a2,a3,a4,a5,a6,a7⟩:=hf;obtain⟨b1,b2,b3,b4,b5,b6,b7⟩:=hg;have sgn:∀x y:Int,decide (0<x-y)=decide (0<cT x y):=by
  intro x y;unfold cT;by_cases h:x<y
  ·rw[if_pos h];exact decide_eq_decide.2 (by omega)
  ·rw[if_neg h];by_cases h2:y<x
   ·rw[if_pos h2];exact decide_eq_decide.2 (by omega)
   ·rw[if_neg h2];exact decide_eq_decide.2 (by omega)
 unfold ux xq;rw[aH (n:=f.A-g.A) (by omega) (by omega),aH (n:=f.B-g.B) (by omega) (by omega),aH (n:=f.Length-g.Length) (by omega) (by omega),aH (n:=f.Risk-g.Risk) (by omega) (by omega)];by_cases h1:f.A=g.A
 ·have e1:(f.A !=g.A)=false:=by rw[h1];simp
  by_cases h2:f.B=g.B
  ·have e2:(f.B !=g.B)=false:=by rw[h2];simp
   by_cases h3:f.Length=g.Length
   ·have e3:(f.Length !=g.Length)=false:=by rw[h3];simp
    exact⟨f.Risk-g.Risk,by simp only[e1,e2,e3,cond_false],by simp only[h1,h2,h3,ne_eq,not_true,if_false];exact sgn _ _⟩
   ·have e3:(f.Length !=g.Length)=true:=bne_iff_ne.2 h3;exact⟨f.Length-g.Length,by simp only[e1,e2,e3,cond_false,cond_true],by simp only[h1,h2,h3,ne_eq,not_true,not_false_eq_true,if_false,if_true];exact sgn _ _⟩
  ·have e2:(f.B !=g.B)=true:=bne_iff_ne.2 h2;exact⟨f.B-g.B,by simp only[e1,e2,cond_false,cond_true],by simp only[h1,h2,ne_eq,not_true,not_false_eq_true,if_false,if_true];exact sgn _ _⟩
 ·have e1:(f.A !=g.A)=true:=bne_iff_ne.2 h1;exact⟨f.A-g.A,by simp only[e1,cond_true],by simp only[h1,ne_eq,not_false_eq_true,if_true];exact sgn _ _⟩
theorem jQ(n:ae)(hz:bJ n<=1048576):vw n=some (br n):=by
 obtain⟨z1,z2,z3⟩:=Ap hz;unfold vw br;simp only[gw,Option.bind_some];rcases bt (wi n.Nodes.length 2 8) with hw|hw
 ·have hw2:=bT.1 hw;have e:decide (14<(n.Fibers.length:Int))=!decide (n.Fibers.length<=14):=by
   rw[<-decide_not];exact decide_eq_decide.2 (by omega)
  simp only[hw,e,Bool.not_true,cond_false,Option.bind_some,Bool.and_true];rcases bt (decide (n.Fibers.length<=14)) with h14|h14
  ·simp only[h14,Bool.not_true,cond_false,Bool.and_true];rw[el (f:=M_g n) n.Nodes (iV n) (.inr false) (.inl ()) (fun i x hx _=>by
    have hlt:=(List.getElem?_eq_some_iff.1 hx).1;have e1:decide ((i:Int)<n.Nodes.length)=true:=by simp[hlt]
    simp only[M_g,e1,cond_true,ba,hx,Option.bind_some,IZ x (z3 x (List.mem_of_getElem? hx)),Kl n.Nodes x z1,JG n i x hx,iV];rw[aH (by omega) (by omega)];rcases bt (ph x) with e|e<;>rcases bt ((n.Nodes.take i).any (fun y=>y.toList==x.toList)) with e'|e'<;>simp only[e,e']<;>rfl) (by simp[M_g]) (by omega)]
   rcases bt (eN (iV n) n.Nodes) with hN|hN
   ·simp[hN]
   ·simp only[hN,Bool.false_eq_true,if_false,Option.bind_some,Bool.not_false,Bool.true_and];rw[el (f:=Bk n) n.Fibers (gY n) (.inr false) (.inl ()) (fun i x hx hprev=>by
     have hlt:=(List.getElem?_eq_some_iff.1 hx).1;have e1:decide ((i:Int)<n.Fibers.length)=true:=by simp[hlt]
     simp only[Bk,e1,cond_true,ba,hx,Option.bind_some,BR x n.Nodes.length (by omega) (by omega),Bool.not_not];rw[aH (n:=(i:Int)+1) (by omega) (by omega)];unfold gY;rcases bt (xf n.Nodes.length x) with h1|h1
     ·simp[h1]
     ·simp only[h1,cond_false,Bool.false_or];by_cases hi:0<i
      ·have hi':decide ((0:Int)<(i:Int))=true:=by simp[hi]
       have hp:n.Fibers[i-1]?=some n.Fibers[i-1]:=List.getElem?_eq_getElem (by omega);have hw:IntKind.wrap .i64 ((i:Int)-1)=((i-1:Nat):Int):=by rw[aH (by omega) (by omega)];omega
       have hb:=hprev (i-1) n.Fibers[i-1] (by omega) hp;unfold gY at hb;simp only[Bool.or_eq_false_iff] at hb;obtain⟨r,r1,r2⟩:=LH n.Fibers[i-1] x n.Nodes.length (by omega) (nQ hb.1) (nQ h1);simp only[hi',cond_true,hw,ba,hp,Option.bind_some,r1,r2,hi,decide_true,Bool.true_and];cases decide (0<xq n.Fibers[i-1] x)<;>rfl
      ·have hi':decide ((0:Int)<(i:Int))=false:=by simp;omega
       simp[hi',hi]) (by simp[Bk]) (by omega)]
    cases eN (gY n) n.Fibers<;>rfl
  ·simp[h14]
 ·simp[hw]
end Vs

namespace Vs
open Go
theorem gU{n:ae}(h:br n=true):2<=n.Nodes.length/\n.Nodes.length<=8/\n.Fibers.length<=14:=by
 unfold br at h;simp only[Bool.and_eq_true,decide_eq_true_eq,bT] at h;omega
theorem sk{n:ae}(h:br n=true){i:Nat}{f:aA}(hf:n.Fibers[i]?=some f):wv n.Nodes.length f:=by
 unfold br at h;simp only[Bool.and_eq_true,Bool.not_eq_true'] at h;have:=dr.1 h.1.1.2 i f hf;unfold gY at this;simp only[Bool.or_eq_false_iff] at this;exact nQ this.1
def dM(r:Int):Nat->List aA->List Int
 |_,[]=>[]
 |i,f::fs=>if f.Risk=r then(i:Int)::dM r (i+1) fs else dM r (i+1) fs
theorem kj(r:Int)(i:Nat)(f:aA)(fs:List aA):dM r i (f::fs)=if f.Risk=r then(i:Int)::dM r (i+1) fs else dM r (i+1) fs:=rfl
theorem mr(r:Int):∀(fs:List aA)(i:Nat),(dM r i fs).length<=fs.length
 |[],i=>by simp[dM]
 | f :: fs, i => by
   have:=mr r fs (i+1);rw[kj];split<;>simp<;>omega
theorem pk(r:Int):∀(fs:List aA)(i:Nat)(x:Int),x∈dM r i fs↔∃j f,fs[j]?=some f/\f.Risk=r/\x=((i+j:Nat):Int)
 |[],i,x=>by simp[dM]
 | f :: fs, i, x => by
   have ih:=pk r fs (i+1) x;have step:(∃j g,(f::fs)[j]?=some g/\g.Risk=r/\x=((i+j:Nat):Int))↔(f.Risk=r/\x=(i:Int))\/∃j g,fs[j]?=some g/\g.Risk=r/\x=((i+1+j:Nat):Int):=by
    constructor
    ·rintro⟨j,g,h1,h2,h3⟩;cases j with
     |zero=>simp at h1;subst h1;exact .inl ⟨h2,h3⟩
     |succ j=>exact .inr ⟨j,g,by simpa using h1,h2,by rw[h3];congr 1;omega⟩
    ·rintro(⟨h1,h2⟩|⟨j,g,h1,h2,h3⟩)
     ·exact⟨0,f,rfl,h1,h2⟩
     ·exact⟨j+1,g,by simpa using h1,h2,by rw[h3];congr 1;omega⟩
   rw[step,<-ih];rw[kj];split
   ·rename_i h;simp[h]
   ·rename_i h;simp[h]
theorem rT(r:Int):∀(fs:List aA)(i:Nat)(acc:List Int),bU (fun i(f:aA)(a:List Int)=>(.inl (if f.Risk=r then a++[(i:Int)] else a):List Int⊕List Int)) (fun a=>a) i fs acc=acc++dM r i fs
 |[],i,acc=>by simp[bU,dM]
 | f :: fs, i, acc => by
   simp only[bU];rw[rT r fs (i+1)];rw[kj];split<;>simp
def iu:List Int:=[1,2,3,4,5,6,7,8,9]
def dj(n:ae):List (List Int):=((iu.map fun r=>dM r 0 n.Fibers).filter fun l=>decide (0<l.length))++(dM 0 0 n.Fibers).map fun i=>[i]
theorem ul(n:ae)(h:n.Fibers.length<=14):(dj n).length<=23:=by
 have:=mr 0 n.Fibers 0;have h2:=List.length_filter_le (fun l:List Int=>decide (0<l.length)) (iu.map fun r=>dM r 0 n.Fibers);have h3:(iu.map fun r=>dM r 0 n.Fibers).length=9:=rfl;unfold dj;simp only[List.length_append,List.length_map];omega
theorem vz{f:Int×List Int->Option ((Int×List Int)⊕List Int)}(fs:List aA)(r:Int)(hl:fs.length<=1048576)
 (h1:∀(i:Nat) x(a:List Int),fs[i]?=some x->a.length<=i->f ((i:Int),a)=some (.inl (((i+1:Nat):Int),if x.Risk=r then a++[(i:Int)] else a)))
 (h2:∀a,f ((fs.length:Int),a)=some (.inr a)):bz f N0 (0,[])=some (dM r 0 fs):=by
 have:=de (f:=f) fs (fun i(a:List Int)=>((i:Int),a)) (fun i x a=>.inl (if x.Risk=r then a++[(i:Int)] else a)) (fun a=>a) (fun i a=>a.length<=i) (fun i a x hx hI=>by
  refine .inl ⟨_,rfl,?_,h1 i x a hx hI⟩;split<;>first|omega|(simp only[List.length_append,List.length_cons,List.length_nil];omega)) (fun a _=>h2 a) [] (by simp) (by omega)
 rw[show bz f N0 (0,[])=_ from this,rT];rfl
theorem Ht{f:Int×List (List Int)->Option ((Int×List (List Int))⊕List (List Int))}(fs:List aA)(G:List (List Int))(hl:fs.length<=1048576)(hG:G.length<=100)
 (h1:∀(i:Nat) x(a:List (List Int)),fs[i]?=some x->a.length<=100+i->f ((i:Int),a)=some (.inl (((i+1:Nat):Int),if x.Risk=0 then a++[[(i:Int)]] else a)))
 (h2:∀a,f ((fs.length:Int),a)=some (.inr a)):bz f N0 (0,G)=some (G++(dM 0 0 fs).map fun i=>[i]):=by
 have:=de (f:=f) fs (fun i(a:List (List Int))=>((i:Int),a)) (fun i x a=>.inl (if x.Risk=0 then a++[[(i:Int)]] else a)) (fun a=>a) (fun i a=>a.length<=100+i) (fun i a x hx hI=>by
  refine .inl ⟨_,rfl,?_,h1 i x a hx hI⟩;split<;>first|omega|(simp only[List.length_append,List.length_cons,List.length_nil];omega)) (fun a _=>h2 a) G (by omega) (by omega)
 rw[show bz f N0 (0,G)=_ from this];have gen:∀(fs:List aA)(i:Nat)(acc:List (List Int)),bU (fun i(f:aA)(a:List (List Int))=>(.inl (if f.Risk=0 then a++[[(i:Int)]] else a):List (List Int)⊕List (List Int))) (fun a=>a) i fs acc=acc++(dM 0 i fs).map fun i=>[i]:=by
  intro fs;induction fs with
  |nil=>intro i acc;simp[bU,dM]
  | cons f fs ih =>
    intro i acc;simp only[bU];rw[ih (i+1)];rw[kj];split<;>simp
 rw[gen]
theorem BW{f:Int×List (List Int)->Option ((Int×List (List Int))⊕List (List Int))}(fs:List aA)
 (h1:∀(r:Int)(a:List (List Int)),1<=r->r<=9->a.length<=10->f (r,a)=some (.inl (r+1,if 0<(dM r 0 fs).length then a++[dM r 0 fs] else a)))
 (h2:∀a,f (10,a)=some (.inr a)):bz f N0 (1,[])=some ((iu.map fun r=>dM r 0 fs).filter fun l=>decide (0<l.length)):=by
 have:=de (f:=f) iu (fun i(a:List (List Int))=>((i:Int)+1,a)) (fun i r a=>.inl (if 0<(dM r 0 fs).length then a++[dM r 0 fs] else a)) (fun a=>a) (fun i a=>a.length<=i) (fun i a r hr hI=>by
  have hi:i<9:=by have:=(List.getElem?_eq_some_iff.1 hr).1;simpa[iu] using this
  have e:(i:Int)+1=r:=by
   rcases i with _|_|_|_|_|_|_|_|_|i<;>first|(simp[iu] at hr;omega)|omega
  refine .inl ⟨_,rfl,?_,?_⟩
  ·split<;>first|omega|(simp only[List.length_append,List.length_cons,List.length_nil];omega)
  ·rw[e,h1 r a (by omega) (by omega) (by omega)];have:((i+1:Nat):Int)+1=r+1:=by omega
   rw[this]) (fun a _=>by have:=h2 a;simpa[iu] using this) [] (by simp) (by simp[iu])
 rw[show bz f N0 (1,[])=_ from this];have gen:∀(rs:List Int)(i:Nat)(acc:List (List Int)),bU (fun(_:Nat)(r:Int)(a:List (List Int))=>(.inl (if 0<(dM r 0 fs).length then a++[dM r 0 fs] else a):List (List Int)⊕List (List Int))) (fun a=>a) i rs acc=
  acc++(rs.map fun r=>dM r 0 fs).filter fun l=>decide (0<l.length):=by
  intro rs;induction rs with
  |nil=>intro i acc;simp[bU]
  | cons r rs ih =>
    intro i acc;simp only[bU];rw[ih (i+1),List.map_cons,List.filter_cons];by_cases h:0<(dM r 0 fs).length
    ·simp[h]
    ·simp[h]
 rw[gen];rfl
theorem FB(n:ae)(h:n.Fibers.length<=14):Lc n=some (dj n):=by
 unfold Lc;rw[BW (f:=Ch n) n.Fibers (fun r a hr1 hr9 ha=>by
  have e1:decide (r<=9)=true:=by simp[hr9]
  simp only[Ch,e1,cond_true];rw[vz (f:=BV n (r,a)) n.Fibers r (by omega) (fun i x b hx hb=>by
   have hlt:=(List.getElem?_eq_some_iff.1 hx).1;have e1:decide ((i:Int)<n.Fibers.length)=true:=by simp[hlt]
   simp only[BV,e1,cond_true,ba,hx,Option.bind_some,bnd];rw[aY (by omega),aH (by omega) (by omega)];by_cases e:x.Risk=r
   ·simp[e]
   ·simp[e,pS]) (fun a=>by simp[BV])]
  simp only[Option.bind_some,bnd];rw[aY (by omega),aH (by omega) (by omega)];by_cases e:0<(dM r 0 n.Fibers).length
  ·have e':decide ((0:Int)<((dM r 0 n.Fibers).length:Int))=true:=by simpa using e
   simp only[e',cond_true,if_pos e,Option.bind_some]
  ·have e':decide ((0:Int)<((dM r 0 n.Fibers).length:Int))=false:=by simpa using e
   simp only[e',cond_false,if_neg e]) (fun a=>by simp[Ch])]
 simp only[Option.bind_some];have hl:=List.length_filter_le (fun l:List Int=>decide (0<l.length)) (iu.map fun r=>dM r 0 n.Fibers);have hl9:(iu.map fun r=>dM r 0 n.Fibers).length=9:=rfl;rw[Ht (f:=DP n) n.Fibers _ (by omega) (by omega) (fun i x a hx ha=>by
  have hlt:=(List.getElem?_eq_some_iff.1 hx).1;have e1:decide ((i:Int)<n.Fibers.length)=true:=by simp[hlt]
  simp only[DP,e1,cond_true,ba,hx,Option.bind_some,bnd];rw[aY (by omega),aH (by omega) (by omega)];by_cases e:x.Risk=0
  ·simp[e]
  ·simp[e,pS]) (fun a=>by simp[DP])]
 rfl
theorem Bp(n:ae)(h:n.Fibers.length<=14)(i:Nat)(f:aA)(hf:n.Fibers[i]?=some f)(hr:f.Risk≠0):xn n (i:Int)=some (dM f.Risk 0 n.Fibers):=by
 unfold xn;have e:(f.Risk==0)=false:=by simpa using hr
 simp only[ba,hf,Option.bind_some,e,cond_false];rw[vz (f:=M_h n (i:Int)) n.Fibers f.Risk (by omega) (fun j x b hx hb=>by
  have hlt:=(List.getElem?_eq_some_iff.1 hx).1;have e1:decide ((j:Int)<n.Fibers.length)=true:=by simp[hlt]
  simp only[M_h,e1,cond_true,ba,hx,hf,Option.bind_some,bnd];rw[aY (by omega),aH (by omega) (by omega)];by_cases e:x.Risk=f.Risk
  ·simp[e]
  ·simp[e,pS]) (fun a=>by simp[M_h])]
 rfl
end Vs

namespace Vs
open Go
theorem wd{r:Int}{fs:List aA}(h:fs.length<=14):∀x∈dM r 0 fs,0<=x/\x<14:=by
 intro x hx;obtain⟨j,f,hj,_,rfl⟩:=(pk r fs 0 x).1 hx;have:=(List.getElem?_eq_some_iff.1 hj).1;omega
theorem yR{n:ae}(h:n.Fibers.length<=14):∀g∈dj n,g.length<=14/\∀x∈g,0<=x/\x<14:=by
 intro g hg;unfold dj at hg;rw[List.mem_append] at hg;rcases hg with hg|hg
 ·obtain⟨r,_,rfl⟩:=List.mem_map.1 (List.mem_filter.1 hg).1;exact⟨Nat.le_trans (mr ..) h,wd h⟩
 ·obtain⟨x,hx,rfl⟩:=List.mem_map.1 hg;exact⟨by simp,fun y hy=>by rw[List.mem_singleton.1 hy];exact wd h x hx⟩
theorem KM{n:ae}(h:br n=true):∀f∈n.Fibers,f.A<n.Nodes.length/\f.B<n.Nodes.length:=by
 intro f hf;obtain⟨i,hi⟩:=List.getElem?_of_mem hf;obtain⟨h1,h2,h3⟩:=sk h hi;omega
def gP(n:ae)(e:Int):Int:=match n.Fibers[e.toNat]? with|some f=>f.Risk|none=>0
def lN(n:ae)(e:Int):List Int:=if gP n e=0 then [e] else dM (gP n e) 0 n.Fibers
def lW(n:ae)(x y:Int):Prop:=x=y\/(gP n x≠0/\gP n x=gP n y)
def iw(n:ae)(e:Int):Prop:=0<=e/\e<(n.Fibers.length:Int)
theorem tr{n:ae}{e:Int}(h:iw n e):∃f,n.Fibers[e.toNat]?=some f/\gP n e=f.Risk:=by
 have hlt:e.toNat<n.Fibers.length:=by have:=h.1;have:=h.2;omega
 refine⟨_,List.getElem?_eq_getElem hlt,?_⟩;unfold gP;rw[List.getElem?_eq_getElem hlt]
theorem pL{n:ae}{r x:Int}:x∈dM r 0 n.Fibers↔iw n x/\gP n x=r:=by
 rw[pk];constructor
 ·rintro⟨j,f,h1,h2,rfl⟩;have:=(List.getElem?_eq_some_iff.1 h1).1;refine⟨⟨by omega,by omega⟩,?_⟩;unfold gP;rw[show((0+j:Nat):Int).toNat=j by omega,h1];exact h2
 ·rintro⟨h,hr⟩;obtain⟨f,h1,h2⟩:=tr h;exact⟨x.toNat,f,h1,by rw[<-h2];exact hr,by have:=h.1;omega⟩
theorem lS{n:ae}{x y:Int}(hy:iw n y):y∈lN n x↔lW n x y:=by
 unfold lN lW;by_cases h:gP n x=0
 ·rw[if_pos h,List.mem_singleton];exact⟨fun e=>.inl e.symm,fun e=>e.elim Eq.symm fun q=>(q.1 h).elim⟩
 ·rw[if_neg h,pL];constructor
  ·exact fun q=>.inr ⟨h,q.2.symm⟩
  ·rintro(rfl|q)
   ·exact⟨hy,rfl⟩
   ·exact⟨hy,q.2.symm⟩
theorem la{n:ae}{g:List Int}(hg:g∈dj n){x y:Int}(hx:x∈g)(hfx:iw n x)(hfy:iw n y):y∈g↔lW n x y:=by
 unfold dj at hg;rw[List.mem_append] at hg;rcases hg with hg|hg
 ·obtain⟨h1,_⟩:=List.mem_filter.1 hg;obtain⟨r,hr,rfl⟩:=List.mem_map.1 h1;have hr0:r≠0:=by unfold iu at hr;simp at hr;omega
  rw[pL] at hx⊢;unfold lW;constructor
  ·exact fun q=>.inr ⟨by rw[hx.2];exact hr0,by rw[hx.2,q.2]⟩
  ·rintro(rfl|q)
   ·exact hx
   ·exact⟨hfy,by rw[<-q.2,hx.2]⟩
 ·obtain⟨z,hz,rfl⟩:=List.mem_map.1 hg;rw[List.mem_singleton] at hx⊢;subst hx;have h0:=(pL.1 hz).2;unfold lW;exact⟨fun e=>.inl e.symm,fun e=>e.elim Eq.symm fun q=>(q.1 h0).elim⟩
theorem Ku{n:ae}(h:br n=true){x:Int}(hx:iw n x):∃g∈dj n,x∈g:=by
 obtain⟨f,h1,h2⟩:=tr hx;have hf:=sk h h1;obtain⟨_,_,_,_,_,_,_⟩:=hf;unfold dj;by_cases h0:gP n x=0
 ·exact⟨[x],List.mem_append_right _ (List.mem_map.2 ⟨x,pL.2 ⟨hx,h0⟩,rfl⟩),by simp⟩
 ·have hm:x∈dM (gP n x) 0 n.Fibers:=pL.2 ⟨hx,rfl⟩;refine⟨_,List.mem_append_left _ (List.mem_filter.2 ⟨List.mem_map.2 ⟨gP n x,?_,rfl⟩,by simpa using List.length_pos_of_mem hm⟩),hm⟩;unfold iu;rw[h2] at h0⊢;simp only[List.mem_cons,List.not_mem_nil,or_false];omega
def mh(n:ae)(e:Int):Int:=match cC (fun _(g:List Int)=>decide (e∈g)) (dj n) with|some q=>(q.1:Int)|none=>-1
theorem tR{n:ae}(h:br n=true){x y:Int}(hx:iw n x)(hy:iw n y):mh n x=mh n y↔lW n x y:=by
 obtain⟨g,hg,hm⟩:=Ku h hx;constructor
 ·intro e;unfold mh at e;cases hf:cC (fun _(g:List Int)=>decide (x∈g)) (dj n) with
  | none =>
    obtain⟨i,hi⟩:=List.getElem?_of_mem hg;have:=ed.1 hf i g hi;simp[hm] at this
  | some q =>
    obtain⟨i,gx⟩:=q;obtain⟨k1,k2,_⟩:=cL.1 hf;rw[hf] at e;cases hf2:cC (fun _(g:List Int)=>decide (y∈g)) (dj n) with
    |none=>rw[hf2] at e;simp only at e;omega
    | some q2 =>
      obtain⟨j,gy⟩:=q2;obtain⟨m1,m2,_⟩:=cL.1 hf2;rw[hf2] at e;have hij:i=j:=by simp only at e;omega
      subst hij;rw[k1] at m1;cases m1;exact(la (List.mem_of_getElem? k1) (by simpa using k2) hx hy).1 (by simpa using m2)
 ·intro e;have e':lW n y x:=e.elim (fun q=>.inl q.symm) fun q=>.inr ⟨by rw[<-q.2];exact q.1,q.2.symm⟩;have key:∀g∈dj n,(x∈g↔y∈g):=fun g hg=>⟨fun q=>(la hg q hx hy).2 e,fun q=>(la hg q hy hx).2 e'⟩;have:cC (fun _(g:List Int)=>decide (y∈g)) (dj n)=cC (fun _(g:List Int)=>decide (x∈g)) (dj n):=by
   cases hf:cC (fun _(g:List Int)=>decide (x∈g)) (dj n) with
   | none =>
     rw[ed] at hf⊢;intro i z hz;have:=hf i z hz;simp only[decide_eq_false_iff_not] at this⊢;exact fun q=>this ((key z (List.mem_of_getElem? hz)).2 q)
   | some q =>
     obtain⟨i,gx⟩:=q;rw[cL] at hf⊢;obtain⟨k1,k2,k3⟩:=hf;simp only[decide_eq_true_eq,decide_eq_false_iff_not] at k2 k3⊢;exact⟨k1,(key gx (List.mem_of_getElem? k1)).1 k2,fun j z hj hz q=>k3 j z hj hz ((key z (List.mem_of_getElem? hz)).2 q)⟩
  unfold mh;rw[this]
def apP(n:ae)(a b:List Int):Bool:=!a.any fun x=>b.any fun y=>decide (y∈lN n x)
theorem Dx{n:ae}(h:br n=true){a b:List Int}(ha:∀x∈a,iw n x)(hb:∀x∈b,iw n x):(!(a.map (mh n)).any fun x=>decide (x∈b.map (mh n)))=apP n a b:=by
 unfold apP;congr 1;rw[Bool.eq_iff_iff];simp only[List.any_eq_true,List.mem_map,decide_eq_true_eq];constructor
 ·rintro⟨_,⟨x,hx,rfl⟩,y,hy,e⟩;exact⟨x,hx,y,hy,(lS (hb y hy)).2 ((tR h (ha x hx) (hb y hy)).1 e.symm)⟩
 ·rintro⟨x,hx,y,hy,e⟩;exact⟨_,⟨x,hx,rfl⟩,y,hy,((tR h (ha x hx) (hb y hy)).2 ((lS (hb y hy)).1 e)).symm⟩
end Vs

namespace Vs
open Go
def hM(f:aA)(v:Int):Int:=if v=f.A then f.B else if v=f.B then f.A else -1
def bW(n:ae)(e v:Int):Int:=match n.Fibers[e.toNat]? with|some f=>hM f v|none=>-1
end Vs

namespace Vs
open Go
theorem kf(l:List Int)(x:Int)(hl:l.length<=1048576):pR l x=some (l.any fun y=>y==x):=by
 unfold pR;rw[io (f:=Ee l x) l (fun y=>y==x) (.inr true) (.inl ()) (fun i y hy=>by
  have hlt:=(List.getElem?_eq_some_iff.1 hy).1;have h1:decide ((i:Int)<l.length)=true:=by simp[hlt]
  simp only[Ee,h1,cond_true,ba,hy,Option.bind_some];rw[aH (by omega) (by omega)];cases y==x<;>rfl) (by simp[Ee]) (by omega)]
 cases l.any fun y=>y==x<;>rfl
theorem mi{n:ae}{e:Int}(h:wi e 0 ((n.Fibers.length:Int)-1)=true):∃f,bH n.Fibers e=some f/\n.Fibers[e.toNat]?=some f:=by
 rw[bT] at h;have hlt:e.toNat<n.Fibers.length:=by omega
 refine⟨n.Fibers[e.toNat],?_,List.getElem?_eq_getElem hlt⟩;have h3:=ba n.Fibers e.toNat;rw[Int.toNat_of_nonneg h.1] at h3;rw[h3];exact List.getElem?_eq_getElem hlt
theorem iv(n:ae)(e v:Int)(h:wi e 0 ((n.Fibers.length:Int)-1)=true):sM n e v=some (bW n e v):=by
 obtain⟨f,h1,h2⟩:=mi h;unfold sM bW hM;rw[h1,h2];simp only[Option.bind_some];by_cases a:v=f.A
 ·rw[show(v==f.A)=true from by simpa using a,cond_true,if_pos a]
 ·rw[show(v==f.A)=false from by simpa using a,cond_false,if_neg a];by_cases b:v=f.B
  ·rw[show(v==f.B)=true from by simpa using b,cond_true,if_pos b]
  ·rw[show(v==f.B)=false from by simpa using b,cond_false,if_neg b]
end Vs

namespace Vs
open Go
theorem tI(xs:List Int)(v:Int)(hl:xs.length<=1048576):wM xs v=some (decide (v∈xs)):=by
 unfold wM QO;rw[da (f:=Cy xs v) xs (fun _ x=>v==x) (fun i _=>(i:Int)) () (fun i x hx _=>by
  have hlt:=(List.getElem?_eq_some_iff.1 hx).1;have h1:decide ((i:Int)<xs.length)=true:=by simp[hlt]
  simp only[Cy,h1,cond_true,ba,hx,Option.bind_some];rw[aH (by omega) (by omega)];cases v==x<;>rfl) (by simp[Cy]) (by omega)]
 cases e:cC (fun _ x=>v==x) xs with
 | none =>
   have:=ed.1 e;have h:¬v∈xs:=fun hm=>by
    obtain⟨i,hi⟩:=List.getElem?_of_mem hm;have:=this i v hi;simp at this
   rw[decide_eq_false h];rfl
 | some q =>
   obtain⟨i,x⟩:=q;obtain⟨h1,h2,_⟩:=cL.1 e;have h:v∈xs:=by
    have:=eq_of_beq h2;rw[this];exact List.mem_of_getElem? h1
   rw[decide_eq_true h];simp
theorem oZ(f:aA)(v:Int):wT f v=some (hM f v):=by
 unfold wT hM;by_cases a:v=f.A
 ·rw[show(v==f.A)=true from by simpa using a,cond_true,if_pos a]
 ·rw[show(v==f.A)=false from by simpa using a,cond_false,if_neg a];by_cases b:v=f.B
  ·rw[show(v==f.B)=true from by simpa using b,cond_true,if_pos b]
  ·rw[show(v==f.B)=false from by simpa using b,cond_false,if_neg b]
theorem nT(l:List Int)(e:Int):decide (e∈l)=l.any fun x=>x==e:=by
 rw[Bool.eq_iff_iff,decide_eq_true_iff,List.any_eq_true];constructor
 ·intro h;exact⟨e,h,by simp⟩
 ·rintro⟨x,hx,he⟩;rw[<-eq_of_beq he];exact hx
end Vs

namespace Vs
open Go
theorem mD{α A B C:Type}(s1:Nat->α->A->A⊕B)(s2:Nat->α->A->A⊕C)(f1:A->B)(f2:A->C)(R:B->C->Prop)(h:∀i x a,(∃a',s1 i x a=.inl a'/\s2 i x a=.inl a')\/∃b c,s1 i x a=.inr b/\s2 i x a=.inr c/\R b c)(hf:∀a,R (f1 a) (f2 a)):
 ∀(xs:List α)(i:Nat)(a:A),R (bU s1 f1 i xs a) (bU s2 f2 i xs a)
 |[],_,a=>hf a
 | x :: xs, i, a => by
   simp only[bU];rcases h i x a with⟨a',h1,h2⟩|⟨b,c,h1,h2,h3⟩
   ·rw[h1,h2];exact mD s1 s2 f1 f2 R h hf xs (i+1) a'
   ·rw[h1,h2];exact h3
def nM(n:ae)(e:Int)(a:Int×List Int):Bool:=!wi e 0 ((n.Fibers.length:Int)-1)||decide (bW n e a.1<0)||decide (bW n e a.1∈a.2)
def lK(n:ae)(_:Nat)(e:Int)(a:Int×List Int):(Int×List Int)⊕Option (List Int):=if nM n e a then .inr none else .inl (bW n e a.1,a.2++[bW n e a.1])
def fP(n:ae)(r:ah):Option (List Int):=if !wi r.Start 0 ((n.Nodes.length:Int)-1)||decide (r.Fibers.length=0) then none else bU (lK n) (fun a=>some a.2) 0 r.Fibers (r.Start,[r.Start])
def FS(n:ae)(_:Nat)(e:Int)(a:Int×List Int):(Int×List Int)⊕((List Int)⊕(List Int×Bool)):=if nM n e a then .inr (.inr ([],false)) else .inl (bW n e a.1,a.2++[bW n e a.1])
def IL(n:ae)(_:Nat)(e:Int)(a:Int×List Int):(Int×List Int)⊕((List Int)⊕(List Int×Bool)):=if nM n e a then .inr (.inr (a.2,false)) else .inl (bW n e a.1,a.2++[bW n e a.1])
theorem SE(l:List Int):((l.length:Int)==0)=decide (l.length=0):=by
 rw[Bool.eq_iff_iff];simp
theorem my(n:ae)(r:ah)(hN:n.Nodes.length<=1048576)(hF:n.Fibers.length<=1048576)(hr:r.Fibers.length<=1048576):yD n r=some (match fP n r with|some l=>(l,true)|none=>([],false)):=by
 unfold yD fP;simp only[dB,Option.bind_some,SE];rw[aH (n:=(n.Nodes.length:Int)-1) (by omega) (by omega)];have hc:(cond (!wi r.Start 0 ((n.Nodes.length:Int)-1)) (some true) (some (decide (r.Fibers.length=0))):Option Bool)=some (!wi r.Start 0 ((n.Nodes.length:Int)-1)||decide (r.Fibers.length=0)):=by
  cases wi r.Start 0 ((n.Nodes.length:Int)-1)<;>rfl
 rw[hc];simp only[Option.bind_some];rcases bt (!wi r.Start 0 ((n.Nodes.length:Int)-1)||decide (r.Fibers.length=0)) with e|e
 ·rw[e];rfl
 rw[e];simp only[cond_false,bnd,Bool.false_eq_true,if_false];have key:=de (f:=DE n r) r.Fibers (fun i(a:Int×List Int)=>(a.1,(i:Int),a.2)) (FS n) (fun a=>.inl a.2) (fun i a=>a.2.length=i+1) (fun i a x hx hI=>by
  have hlt:=(List.getElem?_eq_some_iff.1 hx).1;have h1:decide ((i:Int)<r.Fibers.length)=true:=by simp[hlt]
  simp only[DE,h1,cond_true,ba,hx,Option.bind_some,dB];rw[aH (n:=(n.Fibers.length:Int)-1) (by omega) (by omega),aH (n:=(i:Int)+1) (by omega) (by omega)];unfold FS nM;rcases bt (wi x 0 ((n.Fibers.length:Int)-1)) with e1|e1
  ·obtain⟨f,f1,f2⟩:=mi e1;have ho:bW n x a.1=hM f a.1:=by unfold bW;rw[f2]
   simp only[e1,Bool.not_true,cond_false,f1,Option.bind_some,oZ,<-ho,tI a.2 (bW n x a.1) (by omega),Bool.false_or];by_cases h3:bW n x a.1<0
   ·exact .inr ⟨_,by simp[h3];rfl,by simp[h3]⟩
   ·by_cases h4:bW n x a.1∈a.2
    ·exact .inr ⟨_,by simp[h4];rfl,by simp[h3,h4]⟩
    ·refine .inl ⟨(bW n x a.1,a.2++[bW n x a.1]),by simp[h3,h4],by simp[hI],?_⟩;simp only[decide_eq_false h3,decide_eq_false h4,cond_false,Option.bind_some,bnd];rw[aY (by omega)];rfl
  ·exact .inr ⟨_,by simp[e1];rfl,by simp[e1]⟩) (fun a _=>by simp[DE]) (r.Start,[r.Start]) rfl (by omega)
 have e0:((0:Nat):Int)=0:=rfl;simp only[e0] at key;rw[key];have:=mD (lK n) (FS n) (fun a=>some a.2) (fun a=>(.inl a.2:(List Int)⊕(List Int×Bool))) (fun b c=>match b with|some l=>c=.inl l|none=>c=.inr ([],false)) (fun i x a=>by
  unfold lK FS;cases nM n x a
  ·exact .inl ⟨_,rfl,rfl⟩
  ·exact .inr ⟨_,_,rfl,rfl,rfl⟩) (fun a=>rfl) r.Fibers 0 (r.Start,[r.Start])
 revert this
 generalize bU (FS n) (fun a=>(.inl a.2:(List Int)⊕(List Int×Bool))) 0 r.Fibers (r.Start,[r.Start])=c;cases bU (lK n) (fun a=>some a.2) 0 r.Fibers (r.Start,[r.Start]) with
 |none=>intro h;rw[h];rfl
 |some l=>intro h;rw[h];rfl
theorem vR(n:ae)(r:ah)(hN:n.Nodes.length<=1048576)(hF:n.Fibers.length<=1048576)(hr:r.Fibers.length<=1048576):∃o,CN n r=some (o,(fP n r).isSome)/\∀l,fP n r=some l->o=l:=by
 unfold CN fP;simp only[gw,Option.bind_some,SE,bnd];rw[aH (n:=(n.Nodes.length:Int)-1) (by omega) (by omega)];have hc:(cond (!wi r.Start 0 ((n.Nodes.length:Int)-1)) (some true) (some (decide (r.Fibers.length=0))):Option Bool)=some (!wi r.Start 0 ((n.Nodes.length:Int)-1)||decide (r.Fibers.length=0)):=by
  cases wi r.Start 0 ((n.Nodes.length:Int)-1)<;>rfl
 rw[hc];simp only[Option.bind_some];rcases bt (!wi r.Start 0 ((n.Nodes.length:Int)-1)||decide (r.Fibers.length=0)) with e|e
 ·rw[e];exact⟨[r.Start],rfl,fun l h=>by simp at h⟩
 rw[e];simp only[cond_false,Bool.false_eq_true,if_false];have key:=de (f:=M_j n r) r.Fibers (fun i(a:Int×List Int)=>((i:Int),a.2)) (IL n) (fun a=>.inl a.2) (fun i a=>a.2.length=i+1/\a.2[i]?=some a.1) (fun i a x hx hI=>by
  have hlt:=(List.getElem?_eq_some_iff.1 hx).1;have h1:decide ((i:Int)<r.Fibers.length)=true:=by simp[hlt]
  simp only[M_j,h1,cond_true,ba,hx,Option.bind_some,gw];have hl1:IntKind.wrap .i64 ((a.2.length:Int)-1)=(i:Int):=by rw[aH (by omega) (by omega)];omega
  rw[aH (n:=(n.Fibers.length:Int)-1) (by omega) (by omega),aH (n:=(i:Int)+1) (by omega) (by omega),hl1];unfold IL nM;rcases bt (wi x 0 ((n.Fibers.length:Int)-1)) with e1|e1
  ·simp only[e1,Bool.not_true,cond_false,Option.bind_some,Bool.false_or,Int.toNat_natCast,hI.2];rw[aY (by omega)];simp only[Option.bind_some,iv n x a.1 e1,kf a.2 (bW n x a.1) (by omega)];have hm:(a.2.any fun y=>y==bW n x a.1)=decide (bW n x a.1∈a.2):=by
    rw[Bool.eq_iff_iff];simp
   rw[hm];by_cases h3:bW n x a.1<0
   ·exact .inr ⟨_,by simp[h3];rfl,by simp[h3]⟩
   ·by_cases h4:bW n x a.1∈a.2
    ·exact .inr ⟨_,by simp[h4];rfl,by simp[h3,h4]⟩
    ·refine .inl ⟨(bW n x a.1,a.2++[bW n x a.1]),by simp[h3,h4],⟨by simp[hI.1],by rw[<-hI.1];simp⟩,?_⟩;simp only[decide_eq_false h3,decide_eq_false h4,cond_false,Option.bind_some];rw[aY (by omega)];rfl
  ·exact .inr ⟨_,by simp[e1];rfl,by simp[e1]⟩) (fun a _=>by simp[M_j]) (r.Start,[r.Start]) ⟨rfl,rfl⟩ (by omega)
 have e0:((0:Nat):Int)=0:=rfl;simp only[e0] at key;rw[key];have:=mD (lK n) (IL n) (fun a=>some a.2) (fun a=>(.inl a.2:(List Int)⊕(List Int×Bool))) (fun b c=>match b with|some l=>c=.inl l|none=>∃o,c=.inr (o,false)) (fun i x a=>by
  unfold lK IL;cases nM n x a
  ·exact .inl ⟨_,rfl,rfl⟩
  ·exact .inr ⟨_,_,rfl,rfl,_,rfl⟩) (fun a=>rfl) r.Fibers 0 (r.Start,[r.Start])
 revert this
 generalize bU (IL n) (fun a=>(.inl a.2:(List Int)⊕(List Int×Bool))) 0 r.Fibers (r.Start,[r.Start])=c;cases bU (lK n) (fun a=>some a.2) 0 r.Fibers (r.Start,[r.Start]) with
 |none=>rintro⟨o,h⟩;rw[h];exact⟨o,rfl,fun l h=>by cases h⟩
 |some l=>intro h;rw[h];exact⟨l,rfl,fun l' h=>by cases h;rfl⟩
def ir(n:ae)(r:ah):Bool:=br n&&(fP n r).isSome
theorem gq(n:ae)(r:ah)(hz:bJ n<=1048576)(hr:r.Fibers.length<=1048576):Dr n r=some (ir n r):=by
 obtain⟨h1,h2,_⟩:=Ap hz;unfold Dr Ob ir;rw[ee n hz];simp only[Option.bind_some];rcases bt (br n) with e|e
 ·rw[e];simp only[Bool.not_true,cond_false,my n r (by omega) (by omega) hr,Option.bind_some];cases fP n r<;>rfl
 ·rw[e];rfl
theorem Fb(n:ae)(r:ah)(hz:bJ n<=1048576)(hr:r.Fibers.length<=1048576):yN n r=some (ir n r):=by
 obtain⟨h1,h2,_⟩:=Ap hz;unfold yN ir;rw[jQ n hz];simp only[Option.bind_some];rcases bt (br n) with e|e
 ·obtain⟨o,o1,_⟩:=vR n r (by omega) (by omega) hr;rw[e];simp only[Bool.not_true,cond_false,o1,Option.bind_some,Bool.true_and]
 ·rw[e];rfl
theorem rA{n:ae}(hE:∀f∈n.Fibers,f.A<n.Nodes.length/\f.B<n.Nodes.length):∀(xs:List Int)(i:Nat)(a:Int×List Int)(l:List Int),bU (lK n) (fun a=>some a.2) i xs a=some l->a.2.Nodup->(∀v∈a.2,0<=v/\v<(n.Nodes.length:Int))->a.1∈a.2->
 l.Nodup/\(∀v∈l,0<=v/\v<(n.Nodes.length:Int))/\l.length=a.2.length+xs.length/\(∀e∈xs,0<=e/\e<(n.Fibers.length:Int))/\xs.Nodup/\∀e∈xs,∀f,n.Fibers[e.toNat]?=some f->¬(f.A∈a.2/\f.B∈a.2)
 |[],_,a,l,h,hd,hv,_=>by simp only[bU,Option.some.injEq] at h;subst h;exact⟨hd,hv,by simp,by simp,by simp,by simp⟩
 | x :: xs, i, a, l, h, hd, hv, ha => by
   simp only[bU,lK] at h;rcases bt (nM n x a) with e|e
   ·rw[e] at h;cases h
   ·rw[e] at h;simp only[Bool.false_eq_true,if_false] at h;simp only[nM,Bool.or_eq_false_iff,Bool.not_eq_false',decide_eq_false_iff_not,bT] at e;obtain⟨⟨e1,e2⟩,e3⟩:=e;have hi:x.toNat<n.Fibers.length:=by omega
    have hf:=hE _ (List.getElem_mem hi);have hg:=List.getElem?_eq_getElem hi;generalize n.Fibers[x.toNat]=f at hf hg;have ho:bW n x a.1=hM f a.1:=by unfold bW;rw[hg]
    have hend:(f.A=a.1/\f.B=bW n x a.1)\/(f.B=a.1/\f.A=bW n x a.1):=by
     rw[ho] at e2⊢;unfold hM at e2⊢;split
     ·rename_i h1;exact .inl ⟨h1.symm,rfl⟩
     ·split
      ·rename_i h1;exact .inr ⟨h1.symm,rfl⟩
      ·rename_i h1 h2;simp[h1,h2] at e2
    have hlt:bW n x a.1<n.Nodes.length:=by omega
    obtain⟨g1,g2,g3,g4,g5,g6⟩:=rA hE xs (i+1) _ l h (by
     rw[List.nodup_append];exact⟨hd,by simp,fun u hu v hv=>by simp at hv;subst hv;intro e;subst e;exact e3 hu⟩) (fun v hv2=>by
     simp only[List.mem_append,List.mem_singleton] at hv2;rcases hv2 with h|h
     ·exact hv v h
     ·subst h;exact⟨by omega,hlt⟩) (by simp)
    refine⟨g1,g2,by rw[g3];simp;omega,fun e he=>?_,List.nodup_cons.2 ⟨fun hm=>?_,g5⟩,fun e he f' hf'=>?_⟩
    ·rcases List.mem_cons.1 he with rfl|he
     ·omega
     ·exact g4 e he
    ·refine g6 x hm f hg ?_;simp only[List.mem_append,List.mem_singleton];rcases hend with⟨h1,h2⟩|⟨h1,h2⟩
     ·exact⟨.inl (h1▸ha),.inr h2⟩
     ·exact⟨.inr h2,.inl (h1▸ha)⟩
    ·rcases List.mem_cons.1 he with rfl|he
     ·rw[hg] at hf';cases hf';rcases hend with⟨h1,h2⟩|⟨h1,h2⟩
      ·exact fun h=>e3 (h2▸h.2)
      ·exact fun h=>e3 (h2▸h.1)
     ·exact fun h=>g6 e he f' hf' ⟨List.mem_append_left _ h.1,List.mem_append_left _ h.2⟩
theorem BK{n:ae}{r:ah}(hE:∀f∈n.Fibers,f.A<n.Nodes.length/\f.B<n.Nodes.length){l:List Int}(h:fP n r=some l):l.Nodup/\(∀v∈l,0<=v/\v<(n.Nodes.length:Int))/\l.length=r.Fibers.length+1/\(∀e∈r.Fibers,0<=e/\e<(n.Fibers.length:Int))/\r.Fibers.Nodup:=by
 unfold fP at h;split at h
 ·cases h
 ·rename_i hc;simp only[Bool.or_eq_true,Bool.not_eq_true',decide_eq_true_eq,not_or,Bool.not_eq_false,bT] at hc;obtain⟨g1,g2,g3,g4,g5,_⟩:=rA hE _ _ _ _ h (by simp) (fun v hv=>by simp at hv;subst hv;omega) (by simp);exact⟨g1,g2,by rw[g3];simp;omega,g4,g5⟩
theorem lY:∀(m:Nat)(l:List Int),l.Nodup->(∀x∈l,0<=x/\x<(m:Int))->l.length<=m
 | 0, l, _, h => by
   cases l with
   |nil=>simp
   |cons x l=>have:=h x (by simp);omega
 | m + 1, l, hn, h => by
   by_cases hm:(m:Int)∈l
   ·have:=lY m (l.erase (m:Int)) (hn.erase _) (fun x hx=>by
     have h1:=(hn.mem_erase_iff).1 hx;have:=h x h1.2;have h3:=h1.1;omega)
    rw[List.length_erase_of_mem hm] at this;omega
   ·have:=lY m l hn (fun x hx=>by
     have:=h x hx;have:x≠(m:Int):=fun e=>hm (e▸hx);omega)
    omega
end Vs

namespace Vs
open Go
def gz(l:List Int)(p:Nat):Int:=(l[p]?).getD 0
theorem vu{l:List Int}{p:Nat}(h:p<l.length):l[p]?=some (gz l p):=by
 unfold gz;rw[List.getElem?_eq_getElem h];rfl
theorem li{l:List Int}{p q:Nat}{x:Int}(h:p<l.length):gz (l.set p x) q=if q=p then x else gz l q:=by
 unfold gz;rw[List.getElem?_set];by_cases e:p=q
 ·rw[if_pos e,if_pos h,if_pos e.symm];rfl
 ·rw[if_neg e,if_neg (Ne.symm e)]
theorem Lg(x y:Int):Hg x y=some (decide (x<y)):=by
 unfold Hg vX;simp
theorem CL{l:List Int}{i j:Nat}(hi:i<l.length)(hj:j<l.length):((l.set i (gz l j)).set j (gz l i)).Perm l:=by
 by_cases e:i=j
 ·subst e;have:(l.set i (gz l i)).set i (gz l i)=l:=by
   apply List.ext_getElem?;intro k;rw[List.getElem?_set,List.getElem?_set];by_cases h:i=k
   ·subst h;simp[hi];unfold gz;rw[List.getElem?_eq_getElem hi];rfl
   ·simp[h]
  rw[this]
 ·have g1:gz l j=l[j]:=by unfold gz;rw[List.getElem?_eq_getElem hj];rfl
  have g2:gz l i=l[i]:=by unfold gz;rw[List.getElem?_eq_getElem hi];rfl
  rw[g1,g2];exact List.set_set_perm hi hj
def SrtI(i j:Nat)(l:List Int):Prop:=(∀p q,p<q->q<=i->p≠j->q≠j->gz l p<=gz l q)/\∀q,j<q->q<=i->gz l j<=gz l q
def EC(n:Nat)(l:List Int):Prop:=∀p q,p<q->q<n->gz l p<=gz l q
theorem JM(n i:Nat)(l0:List Int)(hl:l0.length=n)(hn:n<=1048576)(hi:i<n)(hs:EC i l0):
 ∃l,bz (M_o 0) N0 ((i:Int),l0)=some l/\l.Perm l0/\EC (i+1) l:=by
 refine bw (f:=M_o 0) (fun s=>∃j:Nat,s.1=j/\j<=i/\s.2.length=n/\s.2.Perm l0/\SrtI i j s.2) (fun s=>s.1.toNat) (fun l=>l.Perm l0/\EC (i+1) l) (fun s hI=>?_) N0 ((i:Int),l0)
  ⟨i,rfl,Nat.le_refl _,hl,List.Perm.refl _,fun p q h1 h2 h3 h4=>hs p q h1 (by omega),fun q h1 h2=>by omega⟩ (cB (by simp;omega))
 obtain⟨j',l⟩:=s;obtain⟨j,rfl,hj,hll,hp,hA,hB⟩:=hI;simp only at hll hp hA hB;by_cases h0:0<j
 ·have e1:decide ((0:Int)<(j:Int))=true:=decide_eq_true (by omega);have ew:IntKind.wrap .i64 ((j:Int)-1)=((j-1:Nat):Int):=by rw[aH (by omega) (by omega)];omega
  have g1:l[j]?=some (gz l j):=vu (by omega);have g2:l[j-1]?=some (gz l (j-1)):=vu (by omega);have d1:grd (0<=(j:Int)/\(j:Int)<(l.length:Int))=some ():=aY (by omega);have d2:grd (0<=((j-1:Nat):Int)/\((j-1:Nat):Int)<(l.length:Int))=some ():=aY (by omega);by_cases hlt:gz l j<gz l (j-1)
  ·left;have e2:decide (gz l j<gz l (j-1))=true:=decide_eq_true hlt;have g3:(l.set j (gz l (j-1)))[j-1]?=some (gz l (j-1)):=by
    rw[List.getElem?_set,if_neg (by omega)];exact g2
   refine⟨(((j-1:Nat):Int),(l.set j (gz l (j-1))).set (j-1) (gz l j)),?_,⟨j-1,rfl,by omega,by simp[hll],?_,?_,?_⟩,?_⟩
   ·simp only[M_o,e1,cond_true,Int.toNat_natCast,ew,d1,d2,g1,g2,Lg,e2,Option.bind_some,bnd,g3]
   ·exact(CL (by omega) (by omega)).trans hp
   ·intro p q h1 h2 h3 h4;simp only at*
    rw[li (by simp;omega),li (by omega),li (by simp;omega),li (by omega),if_neg h3,if_neg h4];by_cases c1:p=j
    ·rw[if_pos c1,if_neg (by omega)];exact hA (j-1) q (by omega) h2 (by omega) (by omega)
    ·rw[if_neg c1];by_cases c2:q=j
     ·rw[if_pos c2];exact hA p (j-1) (by omega) (by omega) c1 (by omega)
     ·rw[if_neg c2];exact hA p q h1 h2 c1 c2
   ·intro q h1 h2;simp only at*
    rw[li (by simp;omega),if_pos rfl,li (by simp;omega),if_neg (by omega),li (by omega)];by_cases c2:q=j
    ·rw[if_pos c2];omega
    ·rw[if_neg c2];exact hB q (by omega) h2
   ·simp only[Int.toNat_natCast];omega
  ·right;have e2:decide (gz l j<gz l (j-1))=false:=decide_eq_false hlt;refine⟨l,?_,hp,?_⟩
   ·simp only[M_o,e1,cond_true,Int.toNat_natCast,ew,d1,d2,g1,g2,Option.bind_some,Lg,e2,cond_false]
   ·intro p q h1 h2;by_cases c1:p=j
    ·rw[c1];exact hB q (by omega) (by omega)
    ·by_cases c2:q=j
     ·rw[c2];by_cases c3:p=j-1
      ·rw[c3];omega
      ·have:=hA p (j-1) (by omega) (by omega) c1 (by omega);omega
     ·exact hA p q h1 (by omega) c1 c2
 ·right;have e1:decide ((0:Int)<(j:Int))=false:=decide_eq_false (by omega);refine⟨l,by simp only[M_o,e1,cond_false,Option.bind_some],hp,fun p q h1 h2=>?_⟩;by_cases c1:p=j
  ·rw[c1];exact hB q (by omega) (by omega)
  ·exact hA p q h1 (by omega) c1 (by omega)
theorem PB(n:Nat)(xs:List Int)(hl:xs.length=n)(hn:n<=1048576):∃l,Hw 0 (n:Int) xs=some l/\l.Perm xs/\EC n l:=by
 unfold Hw;obtain⟨l,h1,h2,h3⟩:=bw (f:=M_v 0 (n:Int)) (fun s=>∃i:Nat,s.1=i/\1<=i/\i<=n+1/\s.2.length=n/\s.2.Perm xs/\EC i s.2) (fun s=>n+1-s.1.toNat) (fun l=>l.Perm xs/\EC n l) (fun s hI=>by
  obtain⟨i',l⟩:=s;obtain⟨i,rfl,h0,hi,hll,hp,hs⟩:=hI;simp only at hll hp hs;by_cases h:i<n
  ·left;have e1:decide ((i:Int)<(n:Int))=true:=decide_eq_true (by omega);obtain⟨l',g1,g2,g3⟩:=JM n i l hll hn h hs;refine⟨(((i+1:Nat):Int),l'),?_,⟨i+1,rfl,by omega,by omega,by rw[g2.length_eq];exact hll,g2.trans hp,g3⟩,by simp only[Int.toNat_natCast];omega⟩;simp only[M_v,e1,cond_true,g1,Option.bind_some];rw[aH (by omega) (by omega)];rfl
  ·right;have e1:decide ((i:Int)<(n:Int))=false:=decide_eq_false (by omega);exact⟨l,by simp only[M_v,e1,cond_false],hp,fun p q h1 h2=>hs p q h1 (by omega)⟩) N0 (((1:Nat):Int),xs) ⟨1,rfl,by omega,by omega,hl,List.Perm.refl _,fun p q h1 h2=>by omega⟩ (cB (by simp;omega))
 refine⟨l,?_,h2,h3⟩;have e:IntKind.wrap .i64 ((0:Int)+1)=((1:Nat):Int):=by rw[aH (by omega) (by omega)];rfl
 rw[e,h1];rfl
theorem Es:∀n:Fin 13,(Jm (IntKind.wrap .u64 (n.val:Int))).isSome=true:=by decide+kernel
theorem Ph(xs:List Int)(h:xs.length<=12):∃l,Ja xs=some l/\l.Perm xs/\l.Pairwise (·<=·):=by
 obtain⟨l,h1,h2,h3⟩:=PB xs.length xs rfl (by omega);refine⟨l,?_,h2,?_⟩
 ·have hb:=Es ⟨xs.length,by omega⟩;simp only at hb;unfold Ja;cases hx:Jm (IntKind.wrap .u64 (xs.length:Int)) with
  |none=>rw[hx] at hb;cases hb
  | some r =>
    simp only[Option.bind_some];unfold Rk;have hN:N0=(N0-1)+1:=by unfold N0;omega
    rw[hN,bz];have e1:decide (IntKind.wrap .i64 ((xs.length:Int)-0)<=12)=true:=by rw[aH (by omega) (by omega)];exact decide_eq_true (by omega)
    simp only[OH,e1,cond_true,h1,Option.bind_some]
 ·rw[List.pairwise_iff_getElem];intro i j hi hj hij;have:=h3 i j hij (by rw[<-h2.length_eq];exact hj);unfold gz at this;rw[List.getElem?_eq_getElem hi,List.getElem?_eq_getElem hj] at this;exact this
end Vs

namespace Vs
open Go
def PT(a bX:List Int):List Int:=a.filter fun x=>decide (x∈bX)
theorem ox(p:Int->Bool):∀(xs:List Int)(i:Nat)(l:List Int),bU (fun(_:Nat)(x:Int)(l:List Int)=>(.inl (if p x then l++[x] else l):List Int⊕List Int)) (fun l=>l) i xs l=l++xs.filter p
 |[],_,l=>by simp[bU]
 | x :: xs, i, l => by
   simp only[bU];rw[ox p xs (i+1)];by_cases h:p x=true
   ·simp[h]
   ·simp[h]
theorem UN(a bX:List Int)(ha:a.length<=1048576)(hg:bX.length<=1048576):bz (xA a bX) N0 (0,[])=some (PT a bX):=by
 have key:=de (f:=xA a bX) a (fun i(l:List Int)=>((i:Int),l)) (fun _ x l=>.inl (if decide (x∈bX) then l++[x] else l)) (fun l=>l) (fun i l=>l.length<=i) (fun i l x hx hI=>by
  have hlt:=(List.getElem?_eq_some_iff.1 hx).1;have h1:decide ((i:Int)<a.length)=true:=by simp[hlt]
  refine .inl ⟨_,rfl,by split<;>(try simp only[List.length_append,List.length_cons,List.length_nil])<;>omega,?_⟩;simp only[xA,h1,cond_true,ba,hx,Option.bind_some,tI bX x hg,bnd];rw[aH (n:=(i:Int)+1) (by omega) (by omega)];by_cases h:x∈bX
  ·rw[decide_eq_true h,cond_true,aY (by omega),if_pos rfl];rfl
  ·rw[decide_eq_false h,cond_false,if_neg (by simp)];rfl) (fun l _=>by simp[xA]) [] (Nat.le_refl 0) (by omega)
 have e0:((0:Nat):Int)=0:=rfl;simp only[e0] at key;rw[key,ox];rfl
def ddp(ys:List Int):Nat->List Int
 |0=>[]
 |j+1=>if 0<j/\ys[j]?=ys[j-1]? then ddp ys j else ddp ys j++(ys[j]?).toList
theorem pK(ys:List Int):∀k,(∀i,1<=i->i<k->ys[i]?≠ys[i-1]?)->ddp ys k=ys.take k
 |0,_=>by simp[ddp]
 | k + 1, h => by
   unfold ddp;rw[if_neg (fun e=>h k (by omega) (by omega) e.2),pK ys k (fun i h1 h2=>h i h1 (by omega)),List.take_add_one]
theorem BQ{l:List Int}{k:Nat}(y:Int)(h:k<l.length):(l.set k y).take (k+1)=l.take k++[y]:=by
 rw[List.take_add_one,List.getElem?_set_self h,List.take_set_of_le (Nat.le_refl k)];rfl
theorem og{ys:List Int}(hs:ys.Pairwise (·<=·)):∀j,j<=ys.length->(ddp ys j).Pairwise (·<·)/\(∀x∈ddp ys j,∀y,ys[j-1]?=some y->x<=y)/\∀x,x∈ddp ys j↔x∈ys.take j
 |0,_=>by simp[ddp]
 | j + 1, h => by
   obtain⟨h1,h2,h3⟩:=og hs j (by omega);have hy:ys[j]?=some (ys[j]'(by omega)):=List.getElem?_eq_getElem (by omega);generalize ys[j]'(by omega)=y at hy;unfold ddp;rw[List.take_add_one,hy];by_cases c:0<j/\some y=ys[j-1]?
   ·rw[if_pos c];refine⟨h1,fun x hx z hz=>?_,fun x=>?_⟩
    ·simp only[Nat.add_sub_cancel,hy,Option.some.injEq] at hz;subst hz;exact h2 x hx y c.2.symm
    ·have hm:y∈ys.take j:=by
      rw[List.mem_take_iff_getElem];obtain⟨q1,q2⟩:=List.getElem?_eq_some_iff.1 c.2.symm;exact⟨j-1,by omega,q2⟩
     simp only[Option.toList_some,List.mem_append,List.mem_singleton,h3];exact⟨.inl,fun q=>q.elim id fun e=>e▸hm⟩
   ·rw[if_neg c];have hlt:∀x∈ddp ys j,x<y:=fun x hx=>by
     by_cases hj:0<j
     ·have hz:ys[j-1]?=some (ys[j-1]'(by omega)):=List.getElem?_eq_getElem (by omega);have:=h2 x hx _ hz;have h5:ys[j-1]'(by omega)<=ys[j]'(by omega):=List.pairwise_iff_getElem.1 hs (j-1) j (by omega) (by omega) (by omega);have h6:ys[j]'(by omega)=y:=(List.getElem?_eq_some_iff.1 hy).2;have h7:ys[j-1]'(by omega)≠y:=fun e=>c ⟨hj,by rw[hz,e]⟩;omega
     ·have:j=0:=by omega
      subst this;simp[ddp] at hx
    refine⟨?_,fun x hx z hz=>?_,fun x=>?_⟩
    ·rw[List.pairwise_append];exact⟨h1,by simp,fun a ha b hb=>by simp at hb;subst hb;exact hlt a ha⟩
    ·simp only[Nat.add_sub_cancel,hy,Option.some.injEq] at hz;subst hz;simp only[Option.toList_some,List.mem_append,List.mem_singleton] at hx;rcases hx with hx|hx
     ·have:=hlt x hx;omega
     ·omega
    ·simp only[List.mem_append,h3]
theorem Lb(ys:List Int)(hl:ys.length<=1048576)(k0:Nat)(h0:1<=k0)(hk:k0<ys.length)(hd:ddp ys (k0+1)=ys.take k0):
 ∃(k:Nat)(l:List Int),bz (xT 0 ys.length (k0:Int)) N0 ((k0:Int),1,ys)=some ((k:Int),l)/\l.length=ys.length/\k<=ys.length/\l.take k=ddp ys ys.length:=by
 obtain⟨o,o1,o2⟩:=bw (f:=xT 0 ys.length (k0:Int)) (fun s=>∃(k k2:Nat)(l:List Int),s=((k:Int),(k2:Int),l)/\1<=k2/\k0+k2<=ys.length/\l.length=ys.length/\k+1<=k0+k2/\(∀p,k0+k2<=p+1->l[p]?=ys[p]?)/\l.take k=ddp ys (k0+k2))
  (fun s=>ys.length-s.2.1.toNat) (fun o=>∃(k:Nat)(l:List Int),o=((k:Int),l)/\l.length=ys.length/\k<=ys.length/\l.take k=ddp ys ys.length) (fun s hI=>by
  obtain⟨k,k2,l,rfl,i1,i2,i3,i4,i5,i6⟩:=hI;by_cases hc:k0+k2<ys.length
  ·left;have e1:decide ((k2:Int)<((ys.length-k0:Nat):Int))=true:=decide_eq_true (by omega);have ew:IntKind.wrap .i64 ((k2:Int)-1)=((k2-1:Nat):Int):=by rw[aH (by omega) (by omega)];omega
   have g1:l[0+k0+k2]?=some (ys[k0+k2]'hc):=by rw[Nat.zero_add,i5 _ (by omega)];exact List.getElem?_eq_getElem hc
   have g2:l[0+k0+(k2-1)]?=some (ys[k0+k2-1]'(by omega)):=by
    rw[show 0+k0+(k2-1)=k0+k2-1 by omega,i5 _ (by omega)];exact List.getElem?_eq_getElem (by omega)
   have g3:l[0+k]?=some (l[k]'(by omega)):=by rw[Nat.zero_add];exact List.getElem?_eq_getElem (by omega)
   have hddp:ddp ys (k0+k2+1)=if ys[k0+k2]'hc=ys[k0+k2-1]'(by omega) then ddp ys (k0+k2) else ddp ys (k0+k2)++[ys[k0+k2]'hc]:=by
    rw[ddp,List.getElem?_eq_getElem hc,List.getElem?_eq_getElem (show k0+k2-1<ys.length by omega)];by_cases e:ys[k0+k2]'hc=ys[k0+k2-1]'(by omega)
    ·rw[if_pos ⟨by omega,by rw[e]⟩,if_pos e]
    ·rw[if_neg (fun q=>e (Option.some.inj q.2)),if_neg e];rfl
   simp only[xT,Int.toNat_natCast,e1,cond_true,ew,g1,g2,g3];rw[aY (by omega),aY (by omega),aY (by omega)];simp only[Option.bind_some,bnd];rw[aH (n:=(k:Int)+1) (by omega) (by omega),aH (n:=(k2:Int)+1) (by omega) (by omega)];by_cases e:ys[k0+k2]'hc=ys[k0+k2-1]'(by omega)
   ·rw[if_pos e] at hddp;rw[show(ys[k0+k2]'hc !=ys[k0+k2-1]'(by omega))=false by simpa using e,cond_false];exact⟨_,rfl,⟨k,k2+1,l,by simp,by omega,by omega,i3,by omega,fun p hp=>i5 p (by omega),by rw[show k0+(k2+1)=k0+k2+1 by omega,hddp];exact i6⟩,by simp only[];omega⟩
   ·rw[if_neg e] at hddp;rw[show(ys[k0+k2]'hc !=ys[k0+k2-1]'(by omega))=true by simpa using e,cond_true];refine⟨_,rfl,⟨k+1,k2+1,l.set k (ys[k0+k2]'hc),by simp,by omega,by omega,by simpa using i3,by omega,fun p hp=>?_,?_⟩,by simp only[];omega⟩
    ·rw[List.getElem?_set_ne (by omega)];exact i5 p (by omega)
    ·rw[show k0+(k2+1)=k0+k2+1 by omega,hddp,BQ _ (by omega),i6]
  ·right;have e1:decide ((k2:Int)<((ys.length-k0:Nat):Int))=false:=decide_eq_false (by omega);refine⟨_,by simp only[xT,Int.toNat_natCast,e1,cond_false],k,l,rfl,i3,by omega,?_⟩;rw[i6,show k0+k2=ys.length by omega]) N0 ((k0:Int),((1:Nat):Int),ys) ⟨k0,1,ys,rfl,by omega,by omega,rfl,by omega,fun p _=>rfl,hd.symm⟩ (cB (by simp;omega))
 obtain⟨k,l,rfl,q1,q2,q3⟩:=o2;exact⟨k,l,o1,q1,q2,q3⟩
theorem DT(ys:List Int)(hl:ys.length<=1048576):∃k l,GQ 0 ys.length ys=some (0,k,l)/\dy l 0 k=ddp ys ys.length:=by
 unfold GQ;by_cases h:(ys.length:Int)<2
 ·rw[decide_eq_true h,cond_true];refine⟨_,_,rfl,?_⟩;rw[dL,pK ys _ (fun i h1 h2=>by omega),List.take_length]
 rw[decide_eq_false h,cond_false];obtain⟨o,o1,o2⟩:=bw (f:=EL 0 ys.length ys) (fun s=>∃i:Nat,s=i/\1<=i/\i<=ys.length/\ddp ys i=ys.take i) (fun s=>ys.length-s.toNat)
  (fun o=>(o=.inl ()/\ddp ys ys.length=ys)\/∃k l,o=.inr (0,k,l)/\dy l 0 k=ddp ys ys.length) (fun s hI=>by
  obtain⟨i,rfl,h1,h2,h3⟩:=hI;by_cases hi:i<ys.length
  ·have e1:decide ((i:Int)<(ys.length:Int))=true:=decide_eq_true (by omega);have ew:IntKind.wrap .i64 ((i:Int)-1)=((i-1:Nat):Int):=by rw[aH (by omega) (by omega)];omega
   have g1:ys[0+i]?=some (ys[i]'hi):=by rw[Nat.zero_add];exact List.getElem?_eq_getElem hi
   have g2:ys[0+(i-1)]?=some (ys[i-1]'(by omega)):=by rw[Nat.zero_add];exact List.getElem?_eq_getElem (by omega)
   simp only[EL,e1,cond_true,Int.toNat_natCast,g1,ew,g2];rw[aY (by omega),aY (by omega)];simp only[Option.bind_some];by_cases e:ys[i]'hi=ys[i-1]'(by omega)
   ·right;have hd:ddp ys (i+1)=ys.take i:=by
     rw[ddp,if_pos ⟨by omega,by rw[List.getElem?_eq_getElem hi,List.getElem?_eq_getElem (show i-1<ys.length by omega),e]⟩,h3]
    obtain⟨k,l,k1,k2,k3,k4⟩:=Lb ys hl i h1 hi hd;rw[show(ys[i]'hi==ys[i-1]'(by omega))=true by simpa using e,cond_true];simp only[Int.toNat_natCast,and_true,true_and];rw[aY (by omega)];simp only[Option.bind_some,k1,bnd,Int.toNat_natCast,and_true,true_and];rw[aY (by omega)];simp only[Option.bind_some];refine⟨_,rfl,.inr ⟨k,_,rfl,?_⟩⟩;rw[<-k4,fF,List.drop_zero];unfold dI;rw[if_pos (by simp;omega),Nat.zero_add];rw[List.append_assoc,List.take_append_of_le_length (by simp;omega),List.take_take,Nat.min_self]
   ·left;rw[show(ys[i]'hi==ys[i-1]'(by omega))=false by simpa using e,cond_false,aH (by omega) (by omega)];refine⟨_,rfl,⟨i+1,rfl,by omega,by omega,?_⟩,by omega⟩;rw[ddp,if_neg (fun q=>e (by
     have:=q.2;rw[List.getElem?_eq_getElem hi,List.getElem?_eq_getElem (show i-1<ys.length by omega)] at this;exact Option.some.inj this)),h3,List.take_add_one]
  ·right;have e1:decide ((i:Int)<(ys.length:Int))=false:=decide_eq_false (by omega);refine⟨_,by simp only[EL,e1,cond_false],.inl ⟨rfl,?_⟩⟩;rw[show ys.length=i by omega,h3,show i=ys.length by omega,List.take_length]) N0 ((1:Nat):Int) ⟨1,rfl,by omega,by omega,by
    rw[pK ys 1 (fun i h1 h2=>by omega)]⟩ (cB (by simp;omega))
 have e1:((1:Nat):Int)=1:=rfl;rw[e1] at o1;rw[o1];rcases o2 with⟨rfl,q⟩|⟨k,l,rfl,q⟩
 ·exact⟨_,_,rfl,by rw[dL,q]⟩
 ·exact⟨k,l,rfl,q⟩
theorem vG(a bX:List Int)(ha:a.length<=12)(hg:bX.length<=1048576):∃l,Df a bX=some l/\l.Pairwise (·<·)/\∀x,x∈l↔x∈a/\x∈bX:=by
 unfold Df;have hc:(PT a bX).length<=a.length:=List.length_filter_le ..;rw[UN a bX (by omega) hg];simp only[Option.bind_some];obtain⟨l,l1,l2,l3⟩:=Ph (PT a bX) (by omega);have hln:=l2.length_eq;obtain⟨k,l',k1,k2⟩:=DT l (by omega);rw[l1];simp only[Option.bind_some];rw[<-hln,k1];simp only[Option.bind_some,bnd,k2];obtain⟨s1,_,s3⟩:=og l3 l.length (Nat.le_refl _);refine⟨_,rfl,s1,fun x=>?_⟩;rw[s3,List.take_length,l2.mem_iff];simp[PT]
def qK(a bX:List Int):Bool:=!a.any fun x=>decide (x∈bX)
theorem Am{a bX l:List Int}(h:∀x,x∈l↔x∈a/\x∈bX):((l.length:Int)==0)=qK a bX:=by
 rw[Bool.eq_iff_iff];simp only[beq_iff_eq,qK,Bool.not_eq_true',List.any_eq_false,decide_eq_true_eq];constructor
 ·intro e x hx hg;have:=(h x).2 ⟨hx,hg⟩;have h0:l=[]:=List.length_eq_zero_iff.1 (by omega);rw[h0] at this;cases this
 ·intro hn;cases l with
  |nil=>rfl
  |cons x l=>exact(hn x ((h x).1 (by simp)).1 ((h x).1 (by simp)).2).elim
theorem Ts{a bX l:List Int}(h:∀x,x∈l↔x∈a/\x∈bX):decide ((0:Int)<(l.length:Int))=!qK a bX:=by
 rw[<-Am h,Bool.eq_iff_iff];simp only[decide_eq_true_eq,Bool.not_eq_true',beq_eq_false_iff_ne];omega
end Vs

namespace Vs
open Go
def iq(b:aM):Bool:=wi b.First 0 23&&wi b.Count 1 (24-b.First)
theorem Mu(b:aM):Dz b=some (iq b):=by
 unfold Dz iq;simp only[gw,Option.bind_some];rcases bt (wi b.First 0 23) with e|e
 ·have:=bT.1 e;rw[e,cond_true,aH (by omega) (by omega),Bool.true_and]
 ·rw[e];rfl
theorem pn(b:aM):BG b=some (iq b):=by
 unfold BG iq;simp only[dB,Option.bind_some];by_cases h1:0<=b.First
 ·rw[decide_eq_true h1,cond_true];rcases bt (wi b.Count 1 24) with e|e
  ·have:=bT.1 e;rw[e,cond_true,aH (by omega) (by omega)];congr 1;rw[Bool.eq_iff_iff];simp only[decide_eq_true_eq,Bool.and_eq_true,bT];omega
  ·rw[e,cond_false];congr 1;symm;rw[Bool.eq_false_iff];intro h;simp only[Bool.and_eq_true,bT] at h;have:=oo.1 e;omega
 ·rw[decide_eq_false h1,cond_false];congr 1;symm;rw[Bool.eq_false_iff];intro h;simp only[Bool.and_eq_true,bT] at h;omega
def fj(b:aM):Prop:=(0<=b.First/\b.First<=24)/\0<=b.Count/\b.Count<=24
theorem xG{b:aM}(h:iq b=true):fj b:=by
 unfold iq at h;simp only[Bool.and_eq_true,bT] at h;unfold fj;omega
def mZ(b:aM):Int:=IntKind.wrap .i64 ((IntKind.wrap .i64 ((IntKind.wrap .i64 (1*2^(min (Int.toNat b.Count) (IntKind.bits .i64))))-1))*2^(min (Int.toNat b.First) (IntKind.bits .i64)))
theorem vS{b:aM}(h:fj b):Ev b=some (mZ b):=by
 unfold Ev;rw[aY h.2.1];simp only[Option.bind_some];rw[aY h.1.1];rfl
theorem ut{b:aM}(h:fj b):Cc b=some (mZ b):=by
 unfold Cc;have h1:=h.1;have h2:=h.2;rw[AJ (n:=b.Count) (by omega) (by omega),AJ (n:=b.First) (by omega) (by omega),aY h2.1];simp only[Option.bind_some];rw[aY h1.1];rfl
theorem Rq{b:aM}(h:b.Count=0):mZ b=0:=by
 unfold mZ;have:IntKind.wrap .i64 (1*2^(min (Int.toNat b.Count) (IntKind.bits .i64)))=1:=by rw[h];rfl
 rw[this];have:IntKind.wrap .i64 (1-1:Int)=0:=rfl;rw[this,Int.zero_mul];rfl
theorem and0(y:Int):bits .and .i64 0 y=0:=by
 show IntKind.wrap .i64 ((BitVec.ofInt 64 0 &&& BitVec.ofInt 64 y).toNat:Int)=0;have:BitVec.ofInt 64 0=0#64:=rfl;rw[this,BitVec.zero_and];rfl
theorem pE(x y:Int):bits .and .i64 x y=bits .and .i64 y x:=by
 show IntKind.wrap .i64 ((BitVec.ofInt 64 x &&& BitVec.ofInt 64 y).toNat:Int)=IntKind.wrap .i64 ((BitVec.ofInt 64 y &&& BitVec.ofInt 64 x).toNat:Int);rw[BitVec.and_comm]
theorem LK(r:ah)(g:List Int)(hr:r.Fibers.length<=1048576)(hg:g.length<=1048576):Ju r g=some (!qK r.Fibers g):=by
 unfold Ju;rw[io (f:=Bj r g) r.Fibers (fun x=>decide (x∈g)) (.inr true) (.inl ()) (fun i y hy=>by
  have hlt:=(List.getElem?_eq_some_iff.1 hy).1;have h1:decide ((i:Int)<r.Fibers.length)=true:=by simp[hlt]
  simp only[Bj,h1,cond_true,ba,hy,Option.bind_some,kf g y hg,<-nT];rw[aH (by omega) (by omega)];cases decide (y∈g)<;>rfl) (by simp[Bj]) (by omega)]
 unfold qK;rw[Bool.not_not];cases(r.Fibers.any fun x=>decide (x∈g))<;>rfl
def db(a:ah)(x:aM)(b:ah)(y:aM):Bool:=(bits .and .i64 (mZ x) (mZ y) !=0)&&!qK a.Fibers b.Fibers
theorem Ed(a b:List Int):qK a b=qK b a:=by
 unfold qK;congr 1;rw[Bool.eq_iff_iff];simp only[List.any_eq_true,decide_eq_true_eq];exact⟨fun⟨x,h1,h2⟩=>⟨x,h2,h1⟩,fun⟨x,h1,h2⟩=>⟨x,h2,h1⟩⟩
theorem jg(a:ah)(x:aM)(b:ah)(y:aM):db a x b y=db b y a x:=by
 unfold db;rw[pE,Ed]
theorem ka(a:ah)(x:aM)(b:ah)(y:aM)(ha:a.Fibers.length<=12)(hb:b.Fibers.length<=1048576)(hx:fj x)(hy:fj y):uL a x b y=some (db a x b y):=by
 unfold uL Nn db;obtain⟨l,l1,_,l3⟩:=vG a.Fibers b.Fibers ha hb;simp only[vS hx,vS hy,Option.bind_some,l1,Ts l3];cases bits .and .i64 (mZ x) (mZ y) !=0<;>rfl
theorem eb(a:ah)(x:aM)(b:ah)(y:aM)(ha:a.Fibers.length<=1048576)(hb:b.Fibers.length<=1048576)(hx:fj x)(hy:fj y):ur a x b y=some (db a x b y):=by
 unfold ur db;simp only[LK a b.Fibers ha hb,ut hx,ut hy,Option.bind_some];have h1:=hx.2.1;have h2:=hy.2.1;rcases bt (qK a.Fibers b.Fibers) with e|e
 ·rw[e];simp
 ·rw[e];simp only[Bool.not_false,cond_true,Bool.and_true];by_cases c1:0<x.Count
  ·rw[decide_eq_true c1,cond_true];by_cases c2:0<y.Count
   ·rw[decide_eq_true c2,cond_true]
   ·rw[decide_eq_false c2,cond_false,Rq (b:=y) (by omega),pE,and0];rfl
  ·rw[decide_eq_false c1,cond_false,Rq (b:=x) (by omega),and0];rfl
theorem yE(xs:List (List Int))(f:List Int->Option Bool)(p:List Int->Bool)(hf:∀x∈xs,f x=some (p x))(hl:xs.length<=1048576):HR xs f=some (match cC (fun _ x=>p x) xs with|some q=>(q.1:Int)|none=>-1):=by
 unfold HR;rw[da (f:=DN xs f) xs (fun _ x=>p x) (fun i _=>(i:Int)) () (fun i x hx _=>by
  have hlt:=(List.getElem?_eq_some_iff.1 hx).1;have h1:decide ((i:Int)<xs.length)=true:=by simp[hlt]
  simp only[DN,h1,cond_true,ba,hx,Option.bind_some,hf x (List.mem_of_getElem? hx)];rw[aH (by omega) (by omega)];cases p x<;>rfl) (by simp[DN]) (by omega)]
 cases cC (fun _ x=>p x) xs<;>rfl
theorem CU(n:ae)(e:Int)(h:n.Fibers.length<=14):EW n e=some (mh n e):=by
 unfold EW mh;have hg:=yR h;have hK:=ul n h;rw[FB n h];simp only[Option.bind_some];rw[yE (dj n) (fun x0=>MI x0 e) (fun g=>decide (e∈g)) (fun x hx=>by
  unfold MI;rw[tI x e (by have:=(hg x hx).1;omega)];rfl) (by omega)]
 rfl
theorem rV(n:ae)(l:List Int)(h:n.Fibers.length<=14)(hl:l.length<=1048576):Ew n l=some (l.map (mh n)):=by
 unfold Ew;have:=de (f:=Em n l) l (fun i(a:List Int)=>((i:Int),a)) (fun _ x a=>.inl (a++[mh n x])) (fun a=>a) (fun i a=>a.length<=i) (fun i a x hx hI=>by
  have hlt:=(List.getElem?_eq_some_iff.1 hx).1;have h1:decide ((i:Int)<l.length)=true:=by simp[hlt]
  refine .inl ⟨_,rfl,by simp;omega,?_⟩;simp only[Em,h1,cond_true,ba,hx,Option.bind_some,CU n x h,bnd];rw[aY (by omega),aH (by omega) (by omega)];rfl) (fun a _=>by simp[Em]) [] (Nat.le_refl 0) (by omega)
 have e0:((0:Nat):Int)=0:=rfl;simp only[e0] at this;rw[this];have gen:∀(xs:List Int)(i:Nat)(a:List Int),bU (fun(_:Nat) x(a:List Int)=>(.inl (a++[mh n x]):List Int⊕List Int)) (fun a=>a) i xs a=a++xs.map (mh n):=by
  intro xs;induction xs with
  |nil=>intro i a;simp[bU]
  |cons x xs ih=>intro i a;simp only[bU];rw[ih];simp
 rw[gen];rfl
theorem lC(n:ae)(a b:List Int)(h:br n=true)(ha:a.length<=12)(hb:b.length<=1048576)(fa:∀x∈a,iw n x)(fb:∀x∈b,iw n x):wB n a b=some (apP n a b):=by
 have hn:=(gU h).2.2;unfold wB;obtain⟨l,l1,_,l3⟩:=vG (a.map (mh n)) (b.map (mh n)) (by simpa using ha) (by simpa using hb);simp only[rV n a hn (by omega),rV n b hn hb,Option.bind_some,l1,Am l3];rw[<-Dx h fa fb];rfl
theorem xt(n:ae)(e:Int)(h:n.Fibers.length<=14)(he:iw n e):xn n e=some (lN n e):=by
 obtain⟨f,f1,f2⟩:=tr he;have e0:e=(e.toNat:Int):=by have:=he.1;omega
 unfold lN;rw[f2];by_cases h0:f.Risk=0
 ·rw[if_pos h0];unfold xn;have hg:bH n.Fibers e=some f:=by rw[e0,ba];exact f1
  simp only[hg,Option.bind_some,bnd];rw[show(f.Risk==0)=true by simpa using h0,cond_true]
 ·rw[if_neg h0];have:=Bp n h e.toNat f f1 h0;rw[<-e0] at this;exact this
theorem ic(n:ae)(a b:ah)(h:n.Fibers.length<=14)(ha:a.Fibers.length<=1048576)(hb:b.Fibers.length<=1048576)(fa:∀x∈a.Fibers,iw n x):sI n a b=some (apP n a.Fibers b.Fibers):=by
 unfold sI;rw[io (f:=Ek n a b) a.Fibers (fun x=>b.Fibers.any fun y=>decide (y∈lN n x)) (.inr false) (.inl ()) (fun i x hx=>by
  have hlt:=(List.getElem?_eq_some_iff.1 hx).1;have h1:decide ((i:Int)<a.Fibers.length)=true:=by simp[hlt]
  have hgl:(lN n x).length<=1048576:=by
   unfold lN;split
   ·simp
   ·have:=mr (gP n x) n.Fibers 0;omega
  simp only[Ek,h1,cond_true,ba,hx,Option.bind_some,xt n x h (fa x (List.mem_of_getElem? hx))];rw[io (f:=Bq b (lN n x)) b.Fibers (fun y=>decide (y∈lN n x)) (.inr false) (.inl ()) (fun j y hy=>by
   have hlt:=(List.getElem?_eq_some_iff.1 hy).1;have h1:decide ((j:Int)<b.Fibers.length)=true:=by simp[hlt]
   simp only[Bq,h1,cond_true,ba,hy,Option.bind_some,kf (lN n x) y hgl,<-nT];rw[aH (by omega) (by omega)];cases decide (y∈lN n x)<;>rfl) (by simp[Bq]) (by omega),aH (by omega) (by omega)]
  cases(b.Fibers.any fun y=>decide (y∈lN n x))<;>rfl) (by simp[Ek]) (by omega)]
 unfold apP;cases(a.Fibers.any fun x=>b.Fibers.any fun y=>decide (y∈lN n x))<;>rfl
end Vs

namespace Vs
open Go
theorem AY{n:ae}:∀(xs:List Int)(i:Nat)(a:Int×List Int)(l:List Int),bU (lK n) (fun a=>some a.2) i xs a=some l->∃t,l=a.2++t
 |[],_,a,l,h=>by simp only[bU,Option.some.injEq] at h;subst h;exact⟨[],by simp⟩
 | x :: xs, i, a, l, h => by
   simp only[bU,lK] at h;rcases bt (nM n x a) with e|e
   ·rw[e] at h;cases h
   ·rw[e] at h;simp only[Bool.false_eq_true,if_false] at h;obtain⟨t,ht⟩:=AY xs (i+1) _ l h;exact⟨bW n x a.1::t,by rw[ht];simp⟩
theorem vT{n:ae}{r:ah}{l:List Int}(h:fP n r=some l):l[0]?=some r.Start:=by
 unfold fP at h;split at h
 ·cases h
 ·obtain⟨t,ht⟩:=AY _ _ _ _ h;rw[ht];rfl
def nK(n:ae)(r:ah):Int:=match fP n r with|some l=>gz l (l.length-1)|none=>0
structure Aj(n:ae)(r:ah):Prop where
 len:r.Fibers.length<=12
 fib:∀x∈r.Fibers,iw n x
 nod:r.Fibers.Nodup
theorem gE{n:ae}(h:br n=true){r:ah}{l:List Int}(hl:fP n r=some l):Aj n r/\l.length=r.Fibers.length+1:=by
 obtain⟨g1,g2,g3,g4,g5⟩:=BK (KM h) hl;have:=lY n.Nodes.length l g1 g2;have:=gU h;exact⟨⟨by omega,g4,g5⟩,g3⟩
theorem AX{n:ae}{r:ah}{l:List Int}(h:br n=true)(hr:r.Fibers.length<=1048576)(hl:fP n r=some l):Bl n r=some (nK n r):=by
 have hb:=gU h;obtain⟨o,o1,o2⟩:=vR n r (by omega) (by omega) hr;obtain rfl:=o2 l hl;obtain⟨hi,hlen⟩:=gE h hl;have:=hi.len;unfold Bl NG nK;rw[o1,hl];simp only[Option.bind_some];have e:IntKind.wrap .i64 ((o.length:Int)-1)=((o.length-1:Nat):Int):=by rw[aH (by omega) (by omega)];omega
 rw[e,aY (by omega)];simp only[Option.bind_some,Int.toNat_natCast];rw[vu (by omega)];rfl
def fd(n:ae)(s:aj):Bool:=
 (wi s.Id 1 999&&wi s.Class 0 2&&(fP n s.Work).isSome&&iq s.WorkBlock)&&
 (if s.Class=0 then decide (s.Spare.Start=0)&&decide (s.Spare.Fibers.length=0)&&(s.SpareBlock.First==0&&s.SpareBlock.Count==0)
  else(fP n s.Spare).isSome&&iq s.SpareBlock&&decide (s.Spare.Start=s.Work.Start)&&decide (nK n s.Spare=nK n s.Work)&&apP n s.Work.Fibers s.Spare.Fibers)
structure lz(n:ae)(s:aj):Prop where
 wr:Aj n s.Work
 sr:Aj n s.Spare
 wb:fj s.WorkBlock
 sb:fj s.SpareBlock
theorem iM{n:ae}{s:aj}(h:br n=true)(hs:fd n s=true):lz n s:=by
 unfold fd at hs;simp only[Bool.and_eq_true] at hs;obtain⟨⟨⟨_,h3⟩,h4⟩,h5⟩:=hs;obtain⟨l,hl⟩:=Option.isSome_iff_exists.1 h3;by_cases c:s.Class=0
 ·rw[if_pos c] at h5;simp only[Bool.and_eq_true,decide_eq_true_eq,beq_iff_eq] at h5;obtain⟨⟨k1,k2⟩,k3,k4⟩:=h5;have k2:s.Spare.Fibers=[]:=List.length_eq_zero_iff.1 k2;exact⟨(gE h hl).1,⟨by rw[k2];simp,by rw[k2];simp,by rw[k2];simp⟩,xG h4,by unfold fj;omega⟩
 ·rw[if_neg c] at h5;simp only[Bool.and_eq_true] at h5;obtain⟨⟨⟨⟨k1,k2⟩,_⟩,_⟩,_⟩:=h5;obtain⟨l2,hl2⟩:=Option.isSome_iff_exists.1 k1;exact⟨(gE h hl).1,(gE h hl2).1,xG h4,xG k2⟩
theorem c4(a b c d:Bool):(cond (!a) (some true) (cond (!b) (some true) (cond (!c) (some true) (some (!d)))):Option Bool)=some (!(a&&b&&c&&d)):=by
 cases a<;>cases b<;>cases c<;>cases d<;>rfl
theorem c3z(s:aj):(cond (s.Spare.Start==0) (cond ((s.Spare.Fibers.length:Int)==0) (some (s.SpareBlock.First==0&&s.SpareBlock.Count==0)) (some false)) (some false):Option Bool)=
 some (decide (s.Spare.Start=0)&&decide (s.Spare.Fibers.length=0)&&(s.SpareBlock.First==0&&s.SpareBlock.Count==0)):=by
 rw[SE,show(s.Spare.Start==0)=decide (s.Spare.Start=0) from rfl];cases decide (s.Spare.Start=0)<;>cases decide (s.Spare.Fibers.length=0)<;>rfl
theorem deqI(a b:Int):(a==b)=decide (a=b):=rfl
theorem jc(n:ae)(s:aj)(h:br n=true)(hz:bJ n<=1048576)(hw:s.Work.Fibers.length<=1048576)(hs:s.Spare.Fibers.length<=1048576):yP n s=some (fd n s):=by
 unfold yP fd;have hr:∀r:ah,r.Fibers.length<=1048576->yN n r=some (fP n r).isSome:=fun r hr=>by
  rw[Fb n r hz hr];unfold ir;rw[h,Bool.true_and]
 simp only[gw,Mu,hr s.Work hw,hr s.Spare hs,Option.bind_some,c4];rcases bt (wi s.Id 1 999&&wi s.Class 0 2&&(fP n s.Work).isSome&&iq s.WorkBlock) with e|e
 ·rw[e];simp only[Bool.not_true,cond_false,Bool.true_and];simp only[Bool.and_eq_true] at e;obtain⟨l,hl⟩:=Option.isSome_iff_exists.1 e.1.2;by_cases c:s.Class=0
  ·rw[if_pos c,show(s.Class==0)=true by simpa using c,cond_true,c3z];rfl
  ·rw[if_neg c,show(s.Class==0)=false by simpa using c,cond_false];cases hl2:fP n s.Spare with
   |none=>rfl
   | some l2 =>
     simp only[Option.isSome_some,cond_true,Bool.true_and,AX h hs hl2,AX h hw hl,Option.bind_some,ic n s.Work s.Spare (gU h).2.2 hw hs (gE h hl).1.fib,deqI];cases iq s.SpareBlock<;>cases decide (s.Spare.Start=s.Work.Start)<;>cases decide (nK n s.Spare=nK n s.Work)<;>rfl
 ·rw[e];rfl
theorem mW(n:ae)(s:aj)(h:br n=true)(hw:s.Work.Fibers.length<=1048576)(hs:s.Spare.Fibers.length<=1048576):Dk n s=some (fd n s):=by
 have hb:=gU h;unfold Dk fd;simp only[dB,pn,my n s.Work (by omega) (by omega) hw,my n s.Spare (by omega) (by omega) hs,Option.bind_some];cases hl:fP n s.Work with
 | none =>
   have:(wi s.Id 1 999&&wi s.Class 0 2&&(none:Option (List Int)).isSome&&iq s.WorkBlock)=false:=by simp
   rw[this];simp only[c4,Bool.false_and];cases wi s.Id 1 999<;>cases wi s.Class 0 2<;>rfl
 | some l =>
   simp only[c4,Option.isSome_some];rcases bt (wi s.Id 1 999&&wi s.Class 0 2&&true&&iq s.WorkBlock) with e|e
   ·rw[e];simp only[Bool.not_true,cond_false,Bool.true_and];by_cases c:s.Class=0
    ·rw[if_pos c,show(s.Class==0)=true by simpa using c,cond_true,c3z];rfl
    ·rw[if_neg c,show(s.Class==0)=false by simpa using c,cond_false];cases hl2:fP n s.Spare with
     |none=>rfl
     | some l2 =>
       obtain⟨i1,n1⟩:=gE h hl;obtain⟨i2,n2⟩:=gE h hl2;have q1:=i1.len;have q2:=i2.len;have e1:IntKind.wrap .i64 ((l.length:Int)-1)=((l.length-1:Nat):Int):=by rw[aH (by omega) (by omega)];omega
       have e2:IntKind.wrap .i64 ((l2.length:Int)-1)=((l2.length-1:Nat):Int):=by rw[aH (by omega) (by omega)];omega
       have d1:grd (0<=0/\0<(l.length:Int))=some ():=aY (by omega);have d2:grd (0<=0/\0<(l2.length:Int))=some ():=aY (by omega);have d3:grd (0<=((l.length-1:Nat):Int)/\((l.length-1:Nat):Int)<(l.length:Int))=some ():=aY (by omega);have d4:grd (0<=((l2.length-1:Nat):Int)/\((l2.length-1:Nat):Int)<(l2.length:Int))=some ():=aY (by omega);have g1:l[Int.toNat 0]?=some s.Work.Start:=vT hl;have g2:l2[Int.toNat 0]?=some s.Spare.Start:=vT hl2;have g3:l[l.length-1]?=some (nK n s.Work):=by unfold nK;rw[hl];exact vu (by omega)
       have g4:l2[l2.length-1]?=some (nK n s.Spare):=by unfold nK;rw[hl2];exact vu (by omega)
       simp only[Option.isSome_some,cond_true,Bool.true_and,e1,e2,d1,d2,d3,d4,g1,g2,Int.toNat_natCast,g3,g4,Option.bind_some,lC n s.Work.Fibers s.Spare.Fibers h i1.len (by omega) i1.fib i2.fib,deqI];cases iq s.SpareBlock<;>cases decide (s.Spare.Start=s.Work.Start)<;>cases decide (nK n s.Spare=nK n s.Work)<;>rfl
   ·rw[e];rfl
def gO(n:ae)(a b:aj):Bool:=
 !(db a.Work a.WorkBlock b.Work b.WorkBlock||db a.Work a.WorkBlock b.Spare b.SpareBlock||db a.Spare a.SpareBlock b.Work b.WorkBlock)&&
 ((a.Class==2&&b.Class==2&&apP n a.Work.Fibers b.Work.Fibers)||!db a.Spare a.SpareBlock b.Spare b.SpareBlock)
theorem tu(n:ae)(a b:aj)(h:br n=true)(ha:lz n a)(hb:lz n b):Li n a b=some (gO n a b):=by
 have a1:=ha.wr.len;have a2:=ha.sr.len;have b1:=hb.wr.len;have b2:=hb.sr.len;unfold Li gO;simp only[ka a.Work a.WorkBlock b.Work b.WorkBlock a1 (by omega) ha.wb hb.wb,ka a.Work a.WorkBlock b.Spare b.SpareBlock a1 (by omega) ha.wb hb.sb,ka a.Spare a.SpareBlock b.Work b.WorkBlock a2 (by omega) ha.sb hb.wb,
  ka a.Spare a.SpareBlock b.Spare b.SpareBlock a2 (by omega) ha.sb hb.sb,lC n a.Work.Fibers b.Work.Fibers h a1 (by omega) ha.wr.fib hb.wr.fib,Option.bind_some]
 cases db a.Work a.WorkBlock b.Work b.WorkBlock<;>cases db a.Work a.WorkBlock b.Spare b.SpareBlock<;>cases db a.Spare a.SpareBlock b.Work b.WorkBlock<;>try rfl
 cases a.Class==2<;>cases b.Class==2<;>cases apP n a.Work.Fibers b.Work.Fibers<;>rfl
theorem jh(n:ae)(a b:aj)(h:br n=true)(ha:lz n a)(hb:lz n b):tl n a b=some (gO n a b):=by
 have a1:=ha.wr.len;have a2:=ha.sr.len;have b1:=hb.wr.len;have b2:=hb.sr.len;unfold tl gO;simp only[eb a.Work a.WorkBlock b.Work b.WorkBlock (by omega) (by omega) ha.wb hb.wb,eb a.Work a.WorkBlock b.Spare b.SpareBlock (by omega) (by omega) ha.wb hb.sb,eb a.Spare a.SpareBlock b.Work b.WorkBlock (by omega) (by omega) ha.sb hb.wb,
  eb a.Spare a.SpareBlock b.Spare b.SpareBlock (by omega) (by omega) ha.sb hb.sb,ic n a.Work b.Work (gU h).2.2 (by omega) (by omega) ha.wr.fib,Option.bind_some]
 cases db a.Work a.WorkBlock b.Work b.WorkBlock<;>cases db a.Work a.WorkBlock b.Spare b.SpareBlock<;>cases db a.Spare a.SpareBlock b.Work b.WorkBlock<;>try rfl
 cases a.Class==2<;>cases b.Class==2<;>cases apP n a.Work.Fibers b.Work.Fibers<;>rfl
theorem We{list:List aj}(h:dX list<=1048576){s:aj}(hs:s∈list):s.Work.Fibers.length<=1048576/\s.Spare.Fibers.length<=1048576:=by
 obtain⟨i,hi⟩:=List.getElem?_of_mem hs;have h2:s.Work.Fibers.length+s.Spare.Fibers.length<=(list.map fun x=>ie x).sum:=xo (fun x=>ie x) hi;unfold dX at h;omega
theorem Sb{list:List aj}(h:dX list<=1048576):list.length<=1048576:=by unfold dX at h;omega
def kS(n:ae)(list:List aj)(i:Nat)(s:aj):Bool:=
 !fd n s||(decide (0<i)&&match list[i-1]? with|some g=>decide (s.Id<=g.Id)|none=>false)||(list.take i).any fun o=>!gO n o s
def tL(n:ae)(list:List aj):Bool:=br n&&decide (list.length<=8)&&!eN (kS n list) list
theorem Bz{n:ae}(h:br n=true){list:List aj}{i:Nat}(hprev:∀j y,j<i->list[j]?=some y->kS n list j y=false):∀o∈list.take i,lz n o:=by
 intro o ho;obtain⟨j,hj⟩:=List.getElem?_of_mem ho;rw[List.getElem?_take] at hj;split at hj
 ·rename_i hji;have:=hprev j o hji hj;unfold kS at this;simp only[Bool.or_eq_false_iff,Bool.not_eq_false'] at this;exact iM h this.1.1
 ·cases hj
theorem Ei(n:ae)(list:List aj)(hz:bJ n<=1048576)(hl:dX list<=1048576):Fz n list=some (tL n list):=by
 have hll:=Sb hl;unfold Fz tL;rw[jQ n hz];simp only[Option.bind_some];rcases bt (br n) with hn|hn
 ·rw[hn];simp only[Bool.not_true,cond_false,Option.bind_some,Bool.true_and];by_cases h8:list.length<=8
  ·have e8:decide ((8:Int)<(list.length:Int))=false:=decide_eq_false (by omega);rw[e8,cond_false,decide_eq_true h8,Bool.true_and];rw[el (f:=Dh n list) list (kS n list) (.inr false) (.inl ()) (fun i x hx hprev=>by
    have hlt:=(List.getElem?_eq_some_iff.1 hx).1;have h1:decide ((i:Int)<list.length)=true:=by simp[hlt]
    obtain⟨w1,w2⟩:=We hl (List.mem_of_getElem? hx);simp only[Dh,h1,cond_true,ba,hx,Option.bind_some,jc n x hn hz w1 w2];rw[aH (n:=(i:Int)+1) (by omega) (by omega)];unfold kS;rcases bt (fd n x) with e|e
    ·have hin:=iM hn e;have hcf:bz (M_s n list (i:Int)) N0 0=some (if(list.take i).any (fun o=>!gO n o x) then .inr false else .inl ()):=by
      refine io (f:=M_s n list (i:Int)) (list.take i) (fun o=>!gO n o x) (.inr false) (.inl ()) (fun k o ho=>?_) ?_ (by simp;omega)
      ·have hin2:=Bz hn hprev o (List.mem_of_getElem? ho);rw[List.getElem?_take] at ho;split at ho
       ·rename_i hki;have h1:decide ((k:Int)<(i:Int))=true:=decide_eq_true (by omega);simp only[M_s,h1,cond_true,ba,ho,hx,Option.bind_some,jh n o x hn hin2 hin];rw[aH (by omega) (by omega)];cases gO n o x<;>rfl
       ·cases ho
      ·have h1:decide ((((list.take i).length:Nat):Int)<(i:Int))=false:=decide_eq_false (by simp;omega);simp only[M_s,h1,cond_false]
     rw[e];simp only[Bool.not_true,cond_false,Bool.false_or,hcf,Option.bind_some];by_cases h0:0<i
     ·have e0:decide ((0:Int)<(i:Int))=true:=decide_eq_true (by omega);have ew:IntKind.wrap .i64 ((i:Int)-1)=((i-1:Nat):Int):=by rw[aH (by omega) (by omega)];omega
      have hg:list[i-1]?=some (list[i-1]'(by omega)):=List.getElem?_eq_getElem (by omega);rw[e0,cond_true,ew,ba,hg,decide_eq_true h0];simp only[Option.bind_some,Bool.true_and];cases decide (x.Id<=(list[i-1]'(by omega)).Id)<;>cases((list.take i).any fun o=>!gO n o x)<;>rfl
     ·have e0:decide ((0:Int)<(i:Int))=false:=decide_eq_false (by omega);rw[e0,cond_false,decide_eq_false h0];simp only[Option.bind_some,cond_false,Bool.false_and,Bool.false_or];cases((list.take i).any fun o=>!gO n o x)<;>rfl
    ·rw[e];rfl) (by simp[Dh]) (by omega)]
   cases eN (kS n list) list<;>rfl
  ·have e8:decide ((8:Int)<(list.length:Int))=true:=decide_eq_true (by omega);rw[e8,cond_true,decide_eq_false h8];rfl
 ·rw[hn];rfl
structure VY(n:ae)(list:List aj):Prop where
 net:br n=true
 len:list.length<=8
 svc:∀s∈list,lz n s
 ok:∀s∈list,fd n s=true
theorem Vw{n:ae}{list:List aj}(h:tL n list=true):VY n list:=by
 unfold tL at h;simp only[Bool.and_eq_true,decide_eq_true_eq,Bool.not_eq_true'] at h;obtain⟨⟨h1,h2⟩,h3⟩:=h;have key:∀s∈list,fd n s=true:=fun s hs=>by
  obtain⟨i,hi⟩:=List.getElem?_of_mem hs;have:=dr.1 h3 i s hi;unfold kS at this;simp only[Bool.or_eq_false_iff,Bool.not_eq_false'] at this;exact this.1.1
 exact⟨h1,h2,fun s hs=>iM h1 (key s hs),key⟩
end Vs

namespace Vs
open Go
theorem cI{n:ae}(h:br n=true):2<=n.Nodes.length/\n.Nodes.length<=8/\n.Fibers.length<=14:=by
 unfold br at h;simp only[Bool.and_eq_true,decide_eq_true_eq,bT] at h;omega
theorem kV{n:ae}(h:br n=true){i:Nat}{f:aA}(hf:n.Fibers[i]?=some f):wv n.Nodes.length f:=by
 unfold br at h;simp only[Bool.and_eq_true,Bool.not_eq_true'] at h;have:=dr.1 h.1.1.2 i f hf;unfold gY at this;simp only[Bool.or_eq_false_iff] at this;exact nQ this.1
end Vs

namespace Vs
open Go
def rd(n:ae)(y:Int):Int:=match n.Fibers[y.toNat]? with|some f=>f.Length|none=>0
def dl(n:ae)(r:ah):Int:=gS (fun _ y s=>IntKind.wrap .i64 (s+rd n y)) 0 r.Fibers 0
def RtB(n:ae)(r:ah):Prop:=r.Fibers.length<=20/\(∀e∈r.Fibers,0<=e/\e<n.Fibers.length)/\0<=r.Start/\r.Start<8
theorem dD{n:ae}{r:ah}(h:RtB n r):pi n r=some (dl n r):=by
 have h1:=h.1;unfold pi dl;have:=kR (f:=M_f n r) r.Fibers (fun i(s:Int)=>(s,(i:Int))) (fun _ y s=>IntKind.wrap .i64 (s+rd n y)) id (fun _ _=>True) (fun i s y hy _=>by
  have hlt:=(List.getElem?_eq_some_iff.1 hy).1;have e1:decide ((i:Int)<r.Fibers.length)=true:=by simp[hlt]
  obtain⟨g1,g2⟩:=h.2.1 y (List.mem_of_getElem? hy);have hf:bH n.Fibers y=n.Fibers[y.toNat]?:=by unfold bH;rw[if_pos g1]
  have hs:n.Fibers[y.toNat]?=some (n.Fibers[y.toNat]'(by omega)):=List.getElem?_eq_getElem _;refine⟨trivial,?_⟩;simp only[M_f,e1,cond_true,ba,hy,Option.bind_some,hf,rd];rw[hs];simp only[Option.bind_some];rw[aH (n:=(i:Int)+1) (by omega) (by omega)];rfl) (fun s _=>by simp[M_f]) 0 trivial (by omega)
 have e0:((0:Nat):Int)=0:=rfl;simp only[e0] at this;rw[this];rfl
theorem kO{n:ae}{r:ah}(h:RtB n r):EK n r=some (dl n r):=dD h
theorem sP{n:ae}(hn:br n=true){r:ah}(h:RtB n r):0<=dl n r/\dl n r<=100000:=by
 have gen:∀(ys:List Int)(i:Nat)(s:Int),(∀e∈ys,0<=e/\e<n.Fibers.length)->i+ys.length<=20->0<=s->s<=5000*i->0<=gS (fun _ y s=>IntKind.wrap .i64 (s+rd n y)) i ys s/\gS (fun _ y s=>IntKind.wrap .i64 (s+rd n y)) i ys s<=5000*(i+ys.length:Nat):=by
  intro ys;induction ys with
  |nil=>intro i s _ _ h1 h2;exact⟨h1,by simpa[gS] using h2⟩
  | cons y ys ih =>
    intro i s hy hi h1 h2;simp only[List.length_cons] at hi;obtain⟨g1,g2⟩:=hy y (by simp);have hs:n.Fibers[y.toNat]?=some (n.Fibers[y.toNat]'(by omega)):=List.getElem?_eq_getElem _;obtain⟨_,_,_,f4,f5,_⟩:=kV hn hs;have hf:rd n y=(n.Fibers[y.toNat]'(by omega)).Length:=by unfold rd;rw[hs]
    have hw:IntKind.wrap .i64 (s+rd n y)=s+rd n y:=aH (by omega) (by omega);simp only[gS];rw[hw];have:=ih (i+1) (s+rd n y) (fun e he=>hy e (by simp[he])) (by omega) (by omega) (by omega);refine⟨this.1,?_⟩;have h3:=this.2;simp only[List.length_cons];omega
 have h1:=h.1;have:=gen r.Fibers 0 0 h.2.1 (by omega) (by omega) (by omega);unfold dl;omega
theorem VQ(a b c d:Int):mB [a,b,c,d]=some (if a≠0 then a else if b≠0 then b else if c≠0 then c else d):=by
 unfold mB;have key:=da (f:=M_k [a,b,c,d]) [a,b,c,d] (fun _ x=>x !=0) (fun _ x=>x) () (fun i x hx _=>by
  have hlt:=(List.getElem?_eq_some_iff.1 hx).1;have h1:decide ((i:Int)<([a,b,c,d].length:Nat))=true:=decide_eq_true (by omega);simp only[List.length_cons,List.length_nil] at hlt;simp only[M_k,h1,cond_true,ba,hx,Option.bind_some];rw[aH (by omega) (by omega)];cases x !=0<;>rfl) (by simp[M_k]) (by simp)
 rw[key];unfold cC;simp only[List.zipIdx_cons,List.zipIdx_nil,List.find?_cons,List.find?_nil];by_cases h1:a=0
 ·by_cases h2:b=0
  ·by_cases h3:c=0
   ·by_cases h4:d=0
    ·simp[h1,h2,h3,h4]
    ·have:(d !=0)=true:=bne_iff_ne.2 h4;simp[h1,h2,h3,this]
   ·have:(c !=0)=true:=bne_iff_ne.2 h3;simp[h1,h2,h3,this]
  ·have:(b !=0)=true:=bne_iff_ne.2 h2;simp[h1,h2,this]
 ·have:(a !=0)=true:=bne_iff_ne.2 h1;simp[h1,this]
def oc(b:List Int)(i:Nat)(x:Int):Int:=match b[i]? with|some y=>cT x y|none=>1
def gI(a b:List Int):Int:=match cC (fun i x=>b[i]? !=some x) a with
 |some q=>oc b q.1 q.2
 |none=>if a.length<b.length then -1 else 0
theorem yt(a b:List Int)(hl:a.length<=1048576):MD a b=some (gI a b):=by
 unfold MD;rw[da (f:=M_u a b) a (fun i x=>b[i]? !=some x) (fun i x=>oc b i x) () (fun i x hx _=>by
  have hlt:=(List.getElem?_eq_some_iff.1 hx).1;have h3:decide ((i:Int)<a.length)=true:=by simp[hlt]
  simp only[M_u,h3,cond_true,ba,hx,Option.bind_some,oc];by_cases hb:b.length<=i
  ·have h4:decide ((b.length:Int)<=(i:Int))=true:=by simp;omega
   have h5:b[i]?=none:=List.getElem?_eq_none (by omega);rw[h4,h5];rfl
  ·have h4:decide ((b.length:Int)<=(i:Int))=false:=by simp;omega
   have h5:b[i]?=some (b[i]'(by omega)):=List.getElem?_eq_getElem _;simp only[h4,cond_false,h5,Option.bind_some,wg];rw[aH (by omega) (by omega)];by_cases e:x=b[i]'(by omega)
   ·have e1:(cT x (b[i]'(by omega)) !=0)=false:=by rw[ca.2 e];rfl
    have e2:(some (b[i]'(by omega)) !=some x)=false:=by rw[<-e];simp
    rw[e1,e2];rfl
   ·have e1:(cT x (b[i]'(by omega)) !=0)=true:=bne_iff_ne.2 fun e'=>e (ca.1 e');have e2:(some (b[i]'(by omega)) !=some x)=true:=bne_iff_ne.2 fun e'=>e (Option.some.inj e').symm;rw[e1,e2];rfl) (by simp[M_u]) (by omega)]
 unfold gI;cases hf:cC (fun i x=>b[i]? !=some x) a with
 | none =>
   simp only[Option.bind_some];by_cases h:a.length<b.length
   ·have e:decide ((a.length:Int)<(b.length:Int))=true:=by simp[h]
    simp[e,h]
   ·have e:decide ((a.length:Int)<(b.length:Int))=false:=by simp;omega
    rw[e,if_neg h];rfl
 |some q=>rfl
def dV(n:ae)(a b:ah):Int:=if dl n a≠dl n b then cT (dl n a) (dl n b) else if a.Fibers.length≠b.Fibers.length then cT a.Fibers.length b.Fibers.length else
 if gI a.Fibers b.Fibers≠0 then gI a.Fibers b.Fibers else cT a.Start b.Start
theorem fQ{n:ae}{a b:ah}(ha:RtB n a)(hb:RtB n b):tt n a b=some (dV n a b):=by
 have h1:=ha.1;unfold tt;rw[kO ha,Option.bind_some,kO hb,Option.bind_some];simp only[wg,Option.bind_some,yt a.Fibers b.Fibers (by omega),bnd,VQ];unfold dV;simp only[ne_eq,ca,Int.natCast_inj]
theorem uv(x:Int):vh x=some (cT x 0):=by
 unfold vh cT;by_cases h1:x<0
 ·simp[h1]
 ·by_cases h2:0<x<;>simp[h1,h2]
theorem mo(x y:Int):cT (x-y) 0=cT x y:=by
 unfold cT;by_cases h1:x<y
 ·rw[if_pos (by omega),if_pos h1]
 ·by_cases h2:y<x
  ·rw[if_neg (by omega),if_pos (by omega),if_neg h1,if_pos h2]
  ·rw[if_neg (by omega),if_neg (by omega),if_neg h1,if_neg h2]
theorem zC(x y:Int):(x-y !=0)=decide (x≠y):=by
 by_cases h:x=y
 ·subst h;simp
 ·have:(x-y !=0)=true:=bne_iff_ne.2 (by omega);rw[this,decide_eq_true h]
theorem nk{n:ae}(hn:br n=true){a b:ah}(ha:RtB n a)(hb:RtB n b):En n a b=some (dV n a b):=by
 obtain⟨b1,b2,b3⟩:=cI hn;have hla:=sP hn ha;have hlb:=sP hn hb;have h1:=ha.1;have h2:=hb.1;obtain⟨s1,s2⟩:=ha.2.2;obtain⟨s3,s4⟩:=hb.2.2;unfold En dV;rw[dD ha,Option.bind_some,dD hb,Option.bind_some];simp only[uv,Option.bind_some];rw[aH (n:=dl n a-dl n b) (by omega) (by omega),aH (n:=(a.Fibers.length:Int)-(b.Fibers.length:Int)) (by omega) (by omega),aH (n:=a.Start-b.Start) (by omega) (by omega),zC,zC,mo,mo,mo];by_cases e1:dl n a=dl n b
 ·rw[if_neg (by simpa using e1),decide_eq_false (by simpa using e1),cond_false];by_cases e2:a.Fibers.length=b.Fibers.length
  ·rw[if_neg (by simpa using e2),decide_eq_false (by simp[e2]),cond_false];rw[da (f:=Dc a b) a.Fibers (fun i x=>b.Fibers[i]? !=some x) (fun i x=>oc b.Fibers i x) () (fun i x hx _=>by
    have hlt:=(List.getElem?_eq_some_iff.1 hx).1;have h3:decide ((i:Int)<a.Fibers.length)=true:=by simp[hlt]
    have h5:b.Fibers[i]?=some (b.Fibers[i]'(by omega)):=List.getElem?_eq_getElem _;obtain⟨x1,x2⟩:=ha.2.1 x (List.mem_of_getElem? hx);obtain⟨y1,y2⟩:=hb.2.1 _ (List.mem_of_getElem? h5);simp only[Dc,h3,cond_true,ba,hx,Option.bind_some,oc,h5,uv];rw[aH (n:=(i:Int)+1) (by omega) (by omega),aH (n:=x-b.Fibers[i]'(by omega)) (by omega) (by omega),mo];by_cases e:x=b.Fibers[i]'(by omega)
    ·have e3:(x !=b.Fibers[i]'(by omega))=false:=by rw[<-e];simp
     have e4:(some (b.Fibers[i]'(by omega)) !=some x)=false:=by rw[<-e];simp
     rw[e3,e4];rfl
    ·have e3:(x !=b.Fibers[i]'(by omega))=true:=bne_iff_ne.2 e;have e4:(some (b.Fibers[i]'(by omega)) !=some x)=true:=bne_iff_ne.2 fun e'=>e (Option.some.inj e').symm;rw[e3,e4];rfl) (by simp[Dc]) (by omega)]
   unfold gI;cases hf:cC (fun i x=>b.Fibers[i]? !=some x) a.Fibers with
   | none =>
     simp only[Option.bind_some];rw[if_neg (show¬a.Fibers.length<b.Fibers.length by omega),if_neg (by simp)]
   | some q =>
     obtain⟨g1,g2,_⟩:=cL.1 (show cC (fun i x=>b.Fibers[i]? !=some x) a.Fibers=some (q.1,q.2) from hf);have hlt:=(List.getElem?_eq_some_iff.1 g1).1;have h5:b.Fibers[q.1]?=some (b.Fibers[q.1]'(by omega)):=List.getElem?_eq_getElem _;have hz:oc b.Fibers q.1 q.2≠0:=by
      unfold oc;rw[h5] at g2⊢;exact fun e=>bne_iff_ne.1 g2 (by rw[ca.1 e])
     simp only[Option.bind_some];rw[if_pos hz]
  ·rw[if_pos (by simpa using e2),decide_eq_true (by simp;omega),cond_true]
 ·rw[if_pos (by simpa using e1),decide_eq_true (by simpa using e1),cond_true]
theorem md(x y:Int):cT y x=- cT x y:=by
 unfold cT;by_cases h1:x<y
 ·rw[if_neg (show¬y<x by omega),if_pos h1,if_pos h1];rfl
 ·by_cases h2:y<x
  ·rw[if_pos h2,if_neg h1,if_pos h2]
  ·rw[if_neg h2,if_neg h1,if_neg h1,if_neg h2];rfl
theorem JL{a b:List Int}(h:a.length=b.length):gI b a=- gI a b:=by
 have key:∀{a b:List Int}{i:Nat}{x:Int},a.length=b.length->cC (fun i x=>b[i]? !=some x) a=some (i,x)->∃y,cC (fun i x=>a[i]? !=some x) b=some (i,y)/\a[i]?=some x/\b[i]?=some y:=by
  intro a b i x h hf;obtain⟨g1,g2,g3⟩:=cL.1 hf;have hlt:=(List.getElem?_eq_some_iff.1 g1).1;have h5:b[i]?=some (b[i]'(by omega)):=List.getElem?_eq_getElem _;refine⟨b[i]'(by omega),cL.2 ⟨h5,?_,fun j y hj hy=>?_⟩,g1,h5⟩
  ·rw[g1];rw[h5] at g2;exact bne_iff_ne.2 fun e=>bne_iff_ne.1 g2 e.symm
  ·have hlj:a[j]?=some (a[j]'(by omega)):=List.getElem?_eq_getElem _;have:=g3 j _ hj hlj;rw[hlj];rw[hy] at this;simp only[bne_eq_false_iff_eq] at this⊢;exact this.symm
 unfold gI;cases hf:cC (fun i x=>b[i]? !=some x) a with
 | some q =>
   obtain⟨y,h1,h2,h3⟩:=key h (show cC (fun i x=>b[i]? !=some x) a=some (q.1,q.2) from hf);rw[h1];simp only[oc,h2,h3];exact md _ _
 | none =>
   cases hg:cC (fun i x=>a[i]? !=some x) b with
   | some q =>
     obtain⟨y,h1,_⟩:=key h.symm (show cC (fun i x=>a[i]? !=some x) b=some (q.1,q.2) from hg);rw[hf] at h1;cases h1
   | none =>
     simp only;rw[if_neg (by omega),if_neg (by omega)];rfl
theorem gD(n:ae)(a b:ah):dV n b a=- dV n a b:=by
 unfold dV;by_cases e1:dl n a=dl n b
 ·rw[if_neg (show¬dl n b≠dl n a from fun h=>h e1.symm),if_neg (show¬dl n a≠dl n b from fun h=>h e1)];by_cases e2:a.Fibers.length=b.Fibers.length
  ·rw[if_neg (show¬b.Fibers.length≠a.Fibers.length from fun h=>h e2.symm),if_neg (show¬a.Fibers.length≠b.Fibers.length from fun h=>h e2),JL e2];by_cases e3:gI a.Fibers b.Fibers=0
   ·rw[if_neg (show¬ -gI a.Fibers b.Fibers≠0 by omega),if_neg (show¬gI a.Fibers b.Fibers≠0 from fun h=>h e3)];exact md _ _
   ·rw[if_pos (show -gI a.Fibers b.Fibers≠0 by omega),if_pos e3]
  ·rw[if_pos (show b.Fibers.length≠a.Fibers.length from fun e=>e2 e.symm),if_pos e2];exact md _ _
 ·rw[if_pos (show dl n b≠dl n a from fun e=>e1 e.symm),if_pos e1];exact md _ _
theorem rP{n:ae}{a b:ah}(h:dV n a b=0):a=b:=by
 unfold dV at h;by_cases e1:dl n a=dl n b
 ·rw[if_neg (by simp[e1])] at h;by_cases e2:a.Fibers.length=b.Fibers.length
  ·rw[if_neg (by simp[e2])] at h;by_cases e3:gI a.Fibers b.Fibers=0
   ·rw[if_neg (by simp[e3])] at h;have hs:=ca.1 h;have hf:a.Fibers=b.Fibers:=by
     unfold gI at e3;cases hf:cC (fun i x=>b.Fibers[i]? !=some x) a.Fibers with
     | none =>
       have:=ed.1 hf;apply List.ext_getElem?;intro i;rcases Nat.lt_or_ge i a.Fibers.length with hi|hi
       ·have:=this i _ (List.getElem?_eq_getElem hi);simp only[bne_eq_false_iff_eq] at this;rw[this,List.getElem?_eq_getElem hi]
       ·rw[List.getElem?_eq_none hi,List.getElem?_eq_none (by omega)]
     | some q =>
       rw[hf] at e3;obtain⟨g1,g2,_⟩:=cL.1 (show cC (fun i x=>b.Fibers[i]? !=some x) a.Fibers=some (q.1,q.2) from hf);have hlt:=(List.getElem?_eq_some_iff.1 g1).1;have h5:b.Fibers[q.1]?=some (b.Fibers[q.1]'(by omega)):=List.getElem?_eq_getElem _;exfalso;simp only[oc,h5] at e3;rw[h5] at g2;exact bne_iff_ne.1 g2 (by rw[ca.1 e3])
    cases a;cases b;simp only at hs hf;rw[hs,hf]
   ·rw[if_pos e3] at h;exact absurd h e3
  ·rw[if_pos e2] at h;have:=ca.1 h;omega
 ·rw[if_pos e1] at h;exact absurd (ca.1 h) e1
end Vs

namespace Vs
open Go
theorem ff{α:Type}(xs:List α)(k:Nat)(h:k<=xs.length):dy xs 0 k=xs.take k:=by rw[fF,List.drop_zero]
theorem lQ{α:Type}(xs:List α)(k:Nat)(h:k<=xs.length):dy xs k (xs.length-k)=xs.drop k:=by
 rw[fF,List.take_of_length_le (by simp)]
theorem KE{f:Int->Option (Int⊕Int)}{L:List ah}(hl:L.length<=1000)(g:ah->Int)
 (h1:∀(i:Nat)(y:ah),L[i]?=some y->f ((i+1:Nat):Int)=some (if decide (g y<0) then .inl (i:Int) else .inr ((i+1:Nat):Int))) (h2:f 0=some (.inr 0)):∃k:Nat,bz f N0 (L.length:Int)=some (k:Int)/\k<=L.length:=by
 obtain⟨b,b1,b2⟩:=bw (f:=f) (fun s=>∃i:Nat,s=(i:Int)/\i<=L.length) (fun s=>s.toNat) (fun b=>∃k:Nat,b=(k:Int)/\k<=L.length) (fun s⟨i,e,hi⟩=>by
  subst e;cases i with
  |zero=>exact .inr ⟨0,h2,0,rfl,Nat.zero_le _⟩
  | succ i =>
    have hs:=h1 i _ (List.getElem?_eq_getElem (show i<L.length by omega));rw[hs];split
    ·exact .inl ⟨_,rfl,⟨i,rfl,by omega⟩,by simp⟩
    ·exact .inr ⟨_,rfl,i+1,rfl,hi⟩) N0 (L.length:Int) ⟨L.length,rfl,Nat.le_refl _⟩ (cB (by omega))
 obtain⟨k,e,hk⟩:=b2;exact⟨k,by rw[b1,e],hk⟩
theorem Vo{n:ae}(hn:br n=true){s d:Int}{L:List ah}{fs:List Int}(hr:RtB n ⟨s,fs⟩)(hL:∀r∈L,RtB n r)(hl:L.length<=500):
 ∃L',yX ⟨s,fs⟩ n.Nodes n.Fibers d L=some (n.Nodes,n.Fibers,d,L',L)/\L'.length=L.length+1/\∀r∈L',RtB n r:=by
 obtain⟨k,k1,k2⟩:=KE (f:=M_r ⟨s,fs⟩ n.Nodes n.Fibers L) (L:=L) (by omega) (dV n ⟨s,fs⟩) (fun i y hy=>by
  have hlt:=(List.getElem?_eq_some_iff.1 hy).1;have e1:decide (0<((i+1:Nat):Int))=true:=by simp only[decide_eq_true_eq];omega
  have e2:IntKind.wrap .i64 (((i+1:Nat):Int)-1)=(i:Int):=by rw[aH (by omega) (by omega)];omega
  unfold M_r;rw[e1,cond_true,e2,aY ⟨by omega,by omega⟩,Option.bind_some,Int.toNat_natCast,hy,Option.bind_some,nk hn hr (hL y (List.mem_of_getElem? hy)),Option.bind_some];cases decide (dV n ⟨s,fs⟩ y<0)<;>rfl) (by simp[M_r])
 unfold yX;rw[k1,Option.bind_some,aY ⟨trivial,by omega,trivial,by simpa using k2⟩];simp only[Option.bind_some,bnd,Int.toNat_natCast];rw[aY (by rw[ff _ _ k2];simp;omega),Option.bind_some,aY (by rw[ff _ _ k2];simp;omega),Option.bind_some,aY ⟨by omega,trivial,k2,trivial⟩,Option.bind_some,aY (by rw[ff _ _ k2,lQ _ _ k2];simp;omega),Option.bind_some,ff _ _ k2,lQ _ _ k2];refine⟨_,rfl,by simp;omega,fun r hr'=>?_⟩;simp only[List.append_assoc,List.mem_append,List.mem_singleton] at hr';rcases hr' with h|rfl|h
 ·exact hL r (List.mem_of_mem_take h)
 ·exact hr
 ·exact hL r (List.mem_of_mem_drop h)
structure ro(n:ae)(s:Int)(p q:List Int):Prop where
 len:q.length=p.length+1
 nd:q.Nodup
 rg:∀x∈q,0<=x/\x<(n.Nodes.length:Int)
 pr:∀e∈p,0<=e/\e<(n.Fibers.length:Int)
 st:0<=s/\s<8
theorem ro.le{n:ae}{s:Int}{p q:List Int}(h:ro n s p q):q.length<=n.Nodes.length:=lY _ q h.nd h.rg
theorem ro.rt{n:ae}(hn:br n=true){s:Int}{p q:List Int}(h:ro n s p q):RtB n ⟨s,p⟩:=by
 obtain⟨b1,b2,b3⟩:=cI hn;have h1:=h.le;have h2:=h.len;exact⟨by show p.length<=20;omega,h.pr,h.st⟩
def OkL(n:ae)(L:List ah):Prop:=L.length<=201/\∀r∈L,RtB n r
theorem oV{n:ae}(hn:br n=true){s d:Int}{k:Nat}{rc:Int->List ByteArray->List aA->Int->List ah->List Int->List Int->Option (List ByteArray×List aA×Int×List ah×List Int)}
 (L:List ah) (p q:List Int) (hrc:∀(L:List ah)(p1 q1:List Int),ro n s p1 q1->q1.length+k=n.Nodes.length->q1.length=q.length+1->OkL n L->L.length<=200->∃L',rc s n.Nodes n.Fibers d L p1 q1=some (n.Nodes,n.Fibers,d,L',q1)/\OkL n L') (hp:ro n s p q) (hq:q.length+k+1=n.Nodes.length\/k=0/\q.length=n.Nodes.length) (hL:OkL n L) (hl:L.length<=200):
 ∃L',tD rc s n.Nodes n.Fibers d L p q=some (n.Nodes,n.Fibers,d,L',q)/\OkL n L':=by
 obtain⟨b1,b2,b3⟩:=cI hn;have h1:=hp.le;have h2:=hp.len;have hix:IntKind.wrap .i64 ((q.length:Int)-1)=((q.length-1:Nat):Int):=by rw[aH (by omega) (by omega)];omega
 have hat:q[q.length-1]?=some (q[q.length-1]'(by omega)):=List.getElem?_eq_getElem _;generalize hv:q[q.length-1]'(by omega)=v at hat;unfold tD;rw[hix,aY ⟨by omega,by omega⟩,Option.bind_some,Int.toNat_natCast,hat,Option.bind_some];cases v==d with
 | true =>
   obtain⟨L',e1,e2,e3⟩:=Vo hn (d:=d) (hp.rt hn) hL.2 (by have:=hL.1;omega);rw[cond_true,e1,Option.bind_some];exact⟨L',rfl,by omega,e3⟩
 | false =>
   rw[cond_false];obtain⟨b,o1,o2⟩:=bw (f:=M_t s p q rc v) (fun t=>∃(i:Nat)(L':List ah),t=((i:Int),n.Nodes,n.Fibers,d,L')/\i<=n.Fibers.length/\OkL n L') (fun t=>n.Fibers.length-t.1.toNat) (fun b=>∃L',b=(n.Nodes,n.Fibers,d,L')/\OkL n L') (fun t⟨i,L',e,hi,hL'⟩=>by
    subst e;unfold M_t;by_cases h3:i<n.Fibers.length/\L'.length<=200
    ·left;have e1:decide ((i:Int)<(n.Fibers.length:Int))=true:=by simp[h3.1]
     have e2:decide ((L'.length:Int)<=200)=true:=by simp only[decide_eq_true_eq];omega
     have hwi:wi (i:Int) 0 ((n.Fibers.length:Int)-1)=true:=bT.2 (by omega);simp only[e1,e2,cond_true,Option.bind_some,iv n (i:Int) v hwi,kf q _ (show q.length<=1048576 by omega)];by_cases h4:0<=bW n (i:Int) v/\(q.any fun y=>y==bW n (i:Int) v)=false
     ·have e3:decide (0<=bW n (i:Int) v)=true:=by simp[h4.1]
      obtain⟨f,f1,f2⟩:=mi hwi;have hfo:=kV hn f2;obtain⟨fa,fb,fc,_⟩:=hfo;have hlt:bW n (i:Int) v<(n.Nodes.length:Int):=by
       have h0:=h4.1;unfold bW at h0⊢;rw[f2] at h0⊢;simp only[hM] at h0⊢;by_cases c1:v=f.A
       ·rw[if_pos c1];omega
       ·rw[if_neg c1];by_cases c2:v=f.B
        ·rw[if_pos c2];omega
        ·rw[if_neg c2];omega
      have hP:ro n s (p++[(i:Int)]) (q++[bW n (i:Int) v]):=by
       refine⟨by simp;omega,?_,fun x hx=>?_,fun x hx=>?_,hp.st⟩
       ·rw[List.nodup_append];refine⟨hp.nd,by simp,fun x hx y hy e=>?_⟩;simp only[List.mem_singleton] at hy;have:=List.any_eq_false.1 h4.2 x hx;simp only[beq_iff_eq] at this;exact this (e.trans hy)
       ·rcases List.mem_append.1 hx with h|h
        ·exact hp.rg x h
        ·simp only[List.mem_singleton] at h;rw[h];exact⟨h4.1,hlt⟩
       ·rcases List.mem_append.1 hx with h|h
        ·exact hp.pr x h
        ·simp only[List.mem_singleton] at h;rw[h];omega
      have hle:=hP.le;simp only[List.length_append,List.length_singleton] at hle;obtain⟨L2,c1,c2⟩:=hrc L' (p++[(i:Int)]) (q++[bW n (i:Int) v]) hP (by simp only[List.length_append,List.length_singleton];omega) (by simp) hL' h3.2;have ep:M_p p=some p:=by unfold M_p;rw[aY (by omega)];rfl
      have eq:M_p q=some q:=by unfold M_p;rw[aY (by omega)];rfl
      simp only[e3,h4.2,cond_true,Bool.not_false,Option.bind_some,ep,eq,bnd];rw[aY (by omega),Option.bind_some,aY (by omega),Option.bind_some,c1,Option.bind_some];refine⟨_,rfl,⟨i+1,L2,by rw[aH (by omega) (by omega)];rfl,by omega,c2⟩,?_⟩;simp only;rw[aH (by omega) (by omega)];omega
     ·have e3:(cond (decide (0<=bW n (i:Int) v)) (some (!(q.any fun y=>y==bW n (i:Int) v))) (some false):Option Bool)=some false:=by
       by_cases h5:0<=bW n (i:Int) v
       ·have:(q.any fun y=>y==bW n (i:Int) v)=true:=by
         cases h6:(q.any fun y=>y==bW n (i:Int) v) with
         |true=>rfl
         |false=>exact absurd ⟨h5,h6⟩ h4
        simp[h5,this]
       ·simp[h5]
      rw[e3];simp only[Option.bind_some,cond_false];refine⟨_,rfl,⟨i+1,L',by rw[aH (by omega) (by omega)];rfl,by omega,hL'⟩,?_⟩;simp only;rw[aH (by omega) (by omega)];omega
    ·right;have e1:(cond (decide ((i:Int)<(n.Fibers.length:Int))) (some (decide ((L'.length:Int)<=200))) (some false):Option Bool)=some false:=by
      by_cases h5:i<n.Fibers.length
      ·have:¬L'.length<=200:=fun h=>h3 ⟨h5,h⟩;have e6:decide ((L'.length:Int)<=200)=false:=by simp only[decide_eq_false_iff_not];omega
       simp[h5,e6]
      ·simp[h5]
     simp only[e1,Option.bind_some,cond_false];exact⟨_,rfl,L',rfl,hL'⟩) N0 (0,n.Nodes,n.Fibers,d,L) ⟨0,L,rfl,Nat.zero_le _,hL⟩ (cB (by simp only;omega))
   obtain⟨L',e,hL'⟩:=o2;rw[o1,e];exact⟨L',rfl,hL'⟩
theorem Fy{n:ae}(hn:br n=true){s d:Int}:∀(k m:Nat),k<m->∀(L:List ah)(p q:List Int),ro n s p q->q.length+k=n.Nodes.length->OkL n L->L.length<=200->
 ∃L',qZ m s n.Nodes n.Fibers d L p q=some (n.Nodes,n.Fibers,d,L',q)/\OkL n L'
 |0,0,h=>by omega
 | 0, m + 1, _ => fun L p q hp hq hL hl => by
   exact oV hn (k:=0) L p q (fun L1 p1 q1 hp1 hq1 e _ _=>by omega) hp (.inr ⟨rfl,by omega⟩) hL hl
 | k + 1, m, hm => fun L p q hp hq hL hl => by
   obtain⟨m,rfl⟩:∃m',m=m'+1:=⟨m-1,by omega⟩;exact oV hn (k:=k) L p q (fun L1 p1 q1 hp1 hq1 _ hL1 hl1=>Fy hn k m (by omega) L1 p1 q1 hp1 hq1 hL1 hl1) hp (.inl (by omega)) hL hl
theorem Tt{n:ae}(hn:br n=true){a b:Int}(ha:0<=a/\a<(n.Nodes.length:Int)):∃ok L,uI n a b=some (ok,L)/\L.length<=200/\∀r∈L,RtB n r:=by
 obtain⟨b1,b2,b3⟩:=cI hn;have hP:ro n a [] [a]:=⟨rfl,by simp,fun x hx=>by simp only[List.mem_singleton] at hx;rw[hx];exact ha,fun e he=>(by cases he),⟨ha.1,by omega⟩⟩;have e:Mb a n.Nodes n.Fibers b [a]=tD (qZ N0) a n.Nodes n.Fibers b [] [] [a]:=rfl;obtain⟨L',e1,e2,e3⟩:=oV hn (d:=b) (k:=n.Nodes.length-2) (rc:=qZ N0) [] [] [a] (fun L1 p1 q1 hp1 hq1 _ hL1 hl1=>Fy hn (n.Nodes.length-2) N0 (cB (by omega)) L1 p1 q1 hp1 hq1 hL1 hl1) hP (.inl (by simp only[List.length_singleton];omega)) ⟨by simp,fun r hr=>by cases hr⟩ (by simp);unfold uI;simp only[bnd];rw[e,e1,Option.bind_some];by_cases h:200<L'.length
 ·have e4:decide ((200:Int)<(L'.length:Int))=true:=by simp only[decide_eq_true_eq];omega
  rw[e4];exact⟨false,[],rfl,by simp,fun r hr=>by cases hr⟩
 ·have e4:decide ((200:Int)<(L'.length:Int))=false:=by simp only[decide_eq_false_iff_not];omega
  rw[e4,cond_false,aY (by simp only;omega),Option.bind_some];exact⟨true,L',rfl,by omega,e3⟩
def F2:List az:=[⟨3000,10⟩,⟨900,20⟩]
theorem Uh(len:Int):∃r,xz F2 len=some r/\-1<=r/\r<2:=by
 unfold xz;obtain⟨b,b1,b2⟩:=bw (f:=xk F2 len) (fun s=>∃i:Nat,s.2=(i:Int)/\i<=2/\-1<=s.1/\s.1<(2:Int)) (fun s=>2-s.2.toNat) (fun b=>-1<=b/\b<(2:Int)) (fun s⟨i,e,hi,h1,h2⟩=>by
  obtain⟨x,y⟩:=s;simp only at e h1 h2;subst e;unfold xk;by_cases h:i<2
  ·left;obtain⟨f,hf⟩:∃f,F2[i]?=some f:=⟨_,List.getElem?_eq_getElem (show i<F2.length from h)⟩;have e1:decide ((i:Int)<(F2.length:Int))=true:=by simp only[decide_eq_true_eq];show(i:Int)<2;omega
   simp only[e1,cond_true,ba,hf,Option.bind_some];rw[aH (by omega) (by omega)];cases decide (len<=f.Reach) with
   |true=>exact⟨_,rfl,⟨i+1,rfl,by omega,by simp only;omega,by simp only;omega⟩,by simp only;omega⟩
   |false=>exact⟨_,rfl,⟨i+1,rfl,by omega,h1,h2⟩,by simp only;omega⟩
  ·right;have e1:decide ((i:Int)<(F2.length:Int))=false:=by simp only[decide_eq_false_iff_not];show¬(i:Int)<2;omega
   simp only[e1,cond_false];exact⟨_,rfl,h1,h2⟩) N0 (-1,0) ⟨0,rfl,by omega,by simp,by simp⟩ (cB (by simp))
 exact⟨b,by rw[b1];rfl,b2.1,b2.2⟩
theorem zU(len rate:Int)(hr:1<=rate/\rate<=1000):∃x,oD F2 len rate=some x/\0<=x/\x<=24:=by
 obtain⟨r,r1,r2,r3⟩:=Uh len;unfold oD;rw[r1,Option.bind_some];by_cases h0:r<0
 ·exact⟨0,by rw[decide_eq_true h0];rfl,by omega,by omega⟩
 ·rw[decide_eq_false h0,cond_false];have key:∀q:Int,(q=10\/q=20)->∃x,((grd (q≠0)).bind fun _=>cond (decide (24<(IntKind.wrap .i64 (Int.tdiv (IntKind.wrap .i64 ((IntKind.wrap .i64 (rate+q))-1)) q)))) (some 0) (some (IntKind.wrap .i64 (Int.tdiv (IntKind.wrap .i64 ((IntKind.wrap .i64 (rate+q))-1)) q))))=some x/\0<=x/\x<=24:=fun q hq=>by
   have hq0:q≠0:=by omega
   rw[aY hq0,Option.bind_some,aH (n:=rate+q) (by omega) (by omega),aH (n:=rate+q-1) (by omega) (by omega)];have hd:0<=Int.tdiv (rate+q-1) q:=Int.tdiv_nonneg (by omega) (by omega);have hd2:Int.tdiv (rate+q-1) q<=rate+q-1:=by
    rw[Int.tdiv_eq_ediv_of_nonneg (by omega)];exact Int.ediv_le_self _ (by omega)
   rw[aH (by omega) (by omega)];by_cases h:24<Int.tdiv (rate+q-1) q
   ·rw[decide_eq_true h];exact⟨0,rfl,by omega,by omega⟩
   ·rw[decide_eq_false h];exact⟨_,rfl,hd,by omega⟩
  have hr01:r=0\/r=1:=by omega
  rcases hr01 with rfl|rfl
  ·exact key 10 (.inl rfl)
  ·exact key 20 (.inr rfl)
structure UsO(n:ae)(Rs:List ah)(Ss:List Int):Prop where
 len:Ss.length=Rs.length
 le:Rs.length<=200
 rt:∀r∈Rs,RtB n r
 sl:∀s∈Ss,0<=s/\s<=24
theorem LX{n:ae}(hn:br n=true){d:aK}(hd:0<=d.From/\d.From<(n.Nodes.length:Int))(hr:1<=d.Rate/\d.Rate<=1000):∃ok Rs Ss,BS n 0 2 d F2=some (ok,Rs,Ss,F2)/\UsO n Rs Ss:=by
 obtain⟨ok,L,e1,e2,e3⟩:=Tt hn (b:=d.To) hd;unfold BS;rw[e1,Option.bind_some];cases ok with
 |false=>exact⟨false,[],[],rfl,rfl,by simp,fun r hr=>(by cases hr),fun r hr=>by cases hr⟩
 | true =>
   simp only[Bool.not_true,cond_false];obtain⟨b,b1,b2⟩:=bw (f:=M_q n 0 2 d F2 (true,L)) (fun s=>∃i:Nat,s.1=(i:Int)/\i<=L.length/\s.2.1.length<=i/\UsO n s.2.1 s.2.2) (fun s=>L.length-s.1.toNat) (fun b=>UsO n b.1 b.2) (fun s⟨i,e,hi,hl,hU⟩=>by
    obtain⟨x,Rs,Ss⟩:=s;simp only at e hl hU;subst e;unfold M_q;by_cases h:i<L.length
    ·left;have hx:L[i]?=some L[i]:=List.getElem?_eq_getElem h;have hR:=e3 L[i] (List.getElem_mem h);obtain⟨z,z1,z2,z3⟩:=zU (dl n L[i]) d.Rate hr;have e4:decide ((i:Int)<(L.length:Int))=true:=by simp[h]
     have e5:dy F2 0 2=F2:=rfl;simp only[e4,cond_true];rw[aY ⟨by omega,by omega⟩,Option.bind_some,Int.toNat_natCast,hx,Option.bind_some,dD hR,Option.bind_some];simp only[bnd,e5,z1,Option.bind_some];rw[aH (by omega) (by omega)];have hll:=hU.len;cases decide (0<z) with
     | true =>
       rw[cond_true,aY (by omega),Option.bind_some,aY (by omega),Option.bind_some];refine⟨_,rfl,⟨i+1,rfl,by omega,by simp;omega,by simp;omega,by simp;omega,fun r hr=>?_,fun q hq=>?_⟩,by simp only;omega⟩
       ·rcases List.mem_append.1 hr with h1|h1
        ·exact hU.rt r h1
        ·simp only[List.mem_singleton] at h1;rw[h1];exact hR
       ·rcases List.mem_append.1 hq with h1|h1
        ·exact hU.sl q h1
        ·simp only[List.mem_singleton] at h1;rw[h1];exact⟨z2,z3⟩
     |false=>exact⟨_,rfl,⟨i+1,rfl,by omega,by simp only;omega,hU⟩,by simp only;omega⟩
    ·right;have e4:decide ((i:Int)<(L.length:Int))=false:=by simp only[decide_eq_false_iff_not];omega
     simp only[e4,cond_false];exact⟨_,rfl,hU⟩) N0 (0,[],[]) ⟨0,rfl,by omega,by simp,rfl,by simp,fun r hr=>(by cases hr),fun r hr=>by cases hr⟩ (cB (by simp only;omega))
   rw[b1,Option.bind_some];exact⟨true,b.1,b.2,rfl,b2⟩
theorem Jd{n:ae}{Rs:List ah}{Ss:List Int}(h:UsO n Rs Ss):∃r:Int,KV Rs Ss=some r/\-1<=r/\r<(Rs.length:Int):=by
 have hle:=h.le;have hlen:=h.len;unfold KV;obtain⟨b,b1,b2⟩:=bw (f:=HV Rs Ss) (fun s=>∃i:Nat,s.2=(i:Int)/\i<=Rs.length/\-1<=s.1/\s.1<(i:Int)) (fun s=>Rs.length-s.2.toNat) (fun b=>-1<=b/\b<(Rs.length:Int)) (fun s⟨i,e,hi,h1,h2⟩=>by
  obtain⟨x,y⟩:=s;simp only at e h1 h2;subst e;unfold HV;by_cases hl:i<Rs.length
  ·left;have e1:decide ((i:Int)<(Rs.length:Int))=true:=by simp[hl]
   have hc:∃c:Bool,(cond (decide (x<0)) (some true) ((bH Ss (i:Int)).bind fun yZ4=>(bH Rs (i:Int)).bind fun yZ5=>(bH Ss x).bind fun yZ6=>(bH Rs x).bind fun yZ7=>some (decide ((IntKind.wrap .i64 (yZ4*(yZ5.Fibers.length:Int)))<(IntKind.wrap .i64 (yZ6*(yZ7.Fibers.length:Int)))))):Option Bool)=some c:=by
    by_cases hx:x<0
    ·exact⟨true,by rw[decide_eq_true hx];rfl⟩
    ·rw[decide_eq_false hx,cond_false,ba,ba,List.getElem?_eq_getElem (show i<Ss.length by omega),List.getElem?_eq_getElem hl];have hg1:bH Ss x=some (Ss[x.toNat]'(by omega)):=by unfold bH;rw[if_pos (by omega)];exact List.getElem?_eq_getElem _
     have hg2:bH Rs x=some (Rs[x.toNat]'(by omega)):=by unfold bH;rw[if_pos (by omega)];exact List.getElem?_eq_getElem _
     rw[hg1,hg2];exact⟨_,rfl⟩
   obtain⟨c,hc⟩:=hc;simp only[e1,cond_true,hc,Option.bind_some];rw[aH (by omega) (by omega)];cases c with
   |true=>exact⟨_,rfl,⟨i+1,rfl,by omega,by simp only;omega,by simp only;omega⟩,by simp only;omega⟩
   |false=>exact⟨_,rfl,⟨i+1,rfl,by omega,h1,by simp only;omega⟩,by simp only;omega⟩
  ·right;have e1:decide ((i:Int)<(Rs.length:Int))=false:=by simp only[decide_eq_false_iff_not];omega
   simp only[e1,cond_false];exact⟨_,rfl,h1,by omega⟩) N0 (-1,0) ⟨0,rfl,by omega,by simp,by simp⟩ (cB (by simp only;omega))
 exact⟨b,by rw[b1];rfl,b2.1,b2.2⟩
theorem apT{n:ae}(hn:br n=true){a b:ah}(ha:RtB n a)(hb:RtB n b):sI n a b=some (apP n a.Fibers b.Fibers):=by
 have h1:=ha.1;have h2:=hb.1;exact ic n a b (cI hn).2.2 (by omega) (by omega) ha.2.1
def PrI(m:Nat)(s:Int×Int×Int×Int):Prop:=(-1<=s.1/\s.1<(m:Int))/\(0<=s.1->0<=s.2.1/\s.2.1<(m:Int))
theorem QC{n:ae}(hn:br n=true){Rs:List ah}{Ss:List Int}(h:UsO n Rs Ss)(s1:Int×Int×Int×Int){i:Nat}(hi:s1.2.2.2=(i:Int))(hil:i<Rs.length)(x y w:Int)(h0:PrI Rs.length (x,y,w,0)):
 ∃b:Int×Int×Int,bz (M_n n Rs Ss s1) N0 (x,y,w,0)=some b/\PrI Rs.length (b.1,b.2.1,b.2.2,0):=by
 have hle:=h.le;have hlen:=h.len;obtain⟨b,b1,b2⟩:=bw (f:=M_n n Rs Ss s1) (fun s=>∃j:Nat,s.2.2.2=(j:Int)/\j<=Rs.length/\PrI Rs.length (s.1,s.2.1,s.2.2.1,0)) (fun s=>Rs.length-s.2.2.2.toNat) (fun b=>PrI Rs.length (b.1,b.2.1,b.2.2,0)) (fun s⟨j,e,hj,hP⟩=>by
  obtain⟨x,y,w,z⟩:=s;simp only at e hP;subst e;by_cases hl:j<Rs.length
  ·left;have e1:decide ((j:Int)<(Rs.length:Int))=true:=by simp[hl]
   have g1:Ss[i]?=some (Ss[i]'(by omega)):=List.getElem?_eq_getElem _;have g2:Rs[i]?=some (Rs[i]'hil):=List.getElem?_eq_getElem _;have g3:Ss[j]?=some (Ss[j]'(by omega)):=List.getElem?_eq_getElem _;have g4:Rs[j]?=some (Rs[j]'hl):=List.getElem?_eq_getElem _;have ha:=apT hn (h.rt _ (List.getElem_mem hil)) (h.rt _ (List.getElem_mem hl));have hw:IntKind.wrap .i64 ((j:Int)+1)=((j+1:Nat):Int):=by rw[aH (by omega) (by omega)];rfl
   have stay:∃s',(some (.inl (x,y,w,IntKind.wrap .i64 ((j:Int)+1))):Option ((Int×Int×Int×Int)⊕(Int×Int×Int)))=some (.inl s')/\(∃j:Nat,s'.2.2.2=(j:Int)/\j<=Rs.length/\PrI Rs.length (s'.1,s'.2.1,s'.2.2.1,0))/\Rs.length-s'.2.2.2.toNat<Rs.length-((j:Int)).toNat:=
    ⟨_,rfl,⟨j+1,hw,by omega,hP⟩,by simp only[hw];omega⟩
   have go:∀q:Int,∃s',(some (.inl ((i:Int),(j:Int),q,IntKind.wrap .i64 ((j:Int)+1))):Option ((Int×Int×Int×Int)⊕(Int×Int×Int)))=some (.inl s')/\(∃j:Nat,s'.2.2.2=(j:Int)/\j<=Rs.length/\PrI Rs.length (s'.1,s'.2.1,s'.2.2.1,0))/\Rs.length-s'.2.2.2.toNat<Rs.length-((j:Int)).toNat:=fun q=>
    ⟨_,rfl,⟨j+1,hw,by omega,⟨by simp only;omega,fun _=>by simp only;omega⟩⟩,by simp only[hw];omega⟩
   unfold M_n;simp only[e1,cond_true,hi,ba,g1,g2,g3,g4,Option.bind_some,ha];generalize IntKind.wrap .i64 (Ss[j]*(Rs[j].Fibers.length:Int))=u;generalize IntKind.wrap .i64 (Ss[i]*(Rs[i].Fibers.length:Int))=v;generalize apP n Rs[i].Fibers Rs[j].Fibers=c;cases((i:Int)==(j:Int))<;>cases decide (u<v)<;>cases(v==u)<;>cases decide ((j:Int)<(i:Int))<;>cases c<;>simp only[cond_true,cond_false,Option.bind_some,Bool.not_true,Bool.not_false]<;>first|exact stay|(split<;>first|exact stay|exact go _)|(cases decide (x<0)<;>simp only[cond_true,cond_false,Option.bind_some]<;>first|exact go _|(cases decide (IntKind.wrap .i64 (v+u)<w)<;>simp only[cond_true,cond_false]<;>first|exact stay|exact go _))
  ·right;have e1:decide ((j:Int)<(Rs.length:Int))=false:=by simp only[decide_eq_false_iff_not];omega
   unfold M_n;simp only[e1,cond_false];exact⟨_,rfl,hP⟩) N0 (x,y,w,0) ⟨0,rfl,by omega,h0⟩ (cB (by simp only;omega))
 exact⟨b,b1,b2⟩
theorem NO{n:ae}(hn:br n=true){Rs:List ah}{Ss:List Int}(h:UsO n Rs Ss):∃a b:Int,wV n Rs Ss=some (a,b)/\(-1<=a/\a<(Rs.length:Int))/\(0<=a->0<=b/\b<(Rs.length:Int)):=by
 have hle:=h.le;unfold wV;obtain⟨b,b1,b2⟩:=bw (f:=ye n Rs Ss) (fun s=>∃j:Nat,s.2.2.2=(j:Int)/\j<=Rs.length/\PrI Rs.length (s.1,s.2.1,s.2.2.1,0)) (fun s=>Rs.length-s.2.2.2.toNat) (fun b=>PrI Rs.length (b.1,b.2,0,0)) (fun s⟨j,e,hj,hP⟩=>by
  obtain⟨x,y,w,z⟩:=s;simp only at e hP;subst e;unfold ye;by_cases hl:j<Rs.length
  ·left;have e1:decide ((j:Int)<(Rs.length:Int))=true:=by simp[hl]
   have hw:IntKind.wrap .i64 ((j:Int)+1)=((j+1:Nat):Int):=by rw[aH (by omega) (by omega)];rfl
   obtain⟨c,c1,c2⟩:=QC hn h (x,y,w,(j:Int)) rfl hl x y w hP;simp only[e1,cond_true,c1,Option.bind_some];exact⟨_,rfl,⟨j+1,hw,by omega,c2⟩,by simp only[hw];omega⟩
  ·right;have e1:decide ((j:Int)<(Rs.length:Int))=false:=by simp only[decide_eq_false_iff_not];omega
   simp only[e1,cond_false];exact⟨_,rfl,hP⟩) N0 (-1,-1,0,0) ⟨0,rfl,by omega,⟨by simp only;omega,fun h=>by simp only at h;omega⟩⟩ (cB (by simp only;omega))
 exact⟨b.1,b.2,by rw[b1];rfl,b2.1,b2.2⟩
theorem wL{S B:Type}{f:S->Option (S⊕B)}(st:Nat->S)(k:Nat)(r:B)(h1:∀j,j<k->f (st j)=some (.inl (st (j+1))))(h2:f (st k)=some (.inr r))(hk:k<1000000):bz f N0 (st 0)=some r:=by
 have:=de (f:=f) (List.range k) (fun i(_:Unit)=>st i) (fun _ _ _=>.inl ()) (fun _=>r) (fun _ _=>True) (fun i a x hx _=>by
  have hlt:=(List.getElem?_eq_some_iff.1 hx).1;rw[List.length_range] at hlt;exact .inl ⟨(),rfl,trivial,h1 i hlt⟩) (fun a _=>by rw[List.length_range];exact h2) () trivial (by rw[List.length_range];omega)
 rw[this];have gen:∀(ys:List Nat)(i:Nat),bU (fun _(_:Nat)(_:Unit)=>(.inl ():Unit⊕B)) (fun _=>r) i ys ()=r:=by
  intro ys;induction ys with
  |nil=>intro i;rfl
  |cons y ys ih=>intro i;exact ih (i+1)
 rw[gen]
theorem DY:xO F2=some true:=by
 have h:bz (M_i F2) N0 0=some (.inl ()):=by
  have:=wL (f:=M_i F2) (fun j=>(j:Int)) 2 (.inl ()) (fun j hj=>by
   match j,hj with
   |0,_=>rfl
   |1,_=>rfl) rfl (by omega)
  exact this
 unfold xO;rw[h];rfl
def DmO(n:ae)(d:aK):Prop:=(0<=d.From/\d.From<(n.Nodes.length:Int))/\(1<=d.Rate/\d.Rate<=1000)
theorem Cx{n:ae}(hn:br n=true)(d:aK):∃b,xr n d=some b/\(b=true->DmO n d):=by
 obtain⟨b1,b2,b3⟩:=gU hn;unfold xr;simp only[gw,Option.bind_some];rw[aH (n:=(n.Nodes.length:Int)-1) (by omega) (by omega)];cases h1:wi d.From 0 ((n.Nodes.length:Int)-1) with
 |false=>exact⟨false,rfl,fun h=>by cases h⟩
 | true =>
   cases h2:wi d.To 0 ((n.Nodes.length:Int)-1) with
   |false=>exact⟨false,rfl,fun h=>by cases h⟩
   | true =>
     cases d.From !=d.To with
     |false=>exact⟨false,rfl,fun h=>by cases h⟩
     | true =>
       cases h3:wi d.Rate 1 1000 with
       |false=>exact⟨false,rfl,fun h=>by cases h⟩
       | true =>
         have:=bT.1 h1;have:=bT.1 h3;exact⟨_,rfl,fun _=>⟨by omega,by omega⟩⟩
theorem FZ(n:ae)(d:aK)(hz:bJ n<=1048576):∃ok Rs Ss,uJ n 0 2 d F2=some (ok,Rs,Ss,F2)/\UsO n Rs Ss/\(Rs≠[]\/ok=true->br n=true/\DmO n d):=by
 have e5:dy F2 0 2=F2:=rfl;unfold uJ;simp only[jQ n hz,Option.bind_some,bnd,e5,DY];cases hn:br n with
 |false=>exact⟨false,[],[],rfl,⟨rfl,by simp,fun r hr=>(by cases hr),fun r hr=>(by cases hr)⟩,fun h=>by rcases h with h|h;exact absurd rfl h;cases h⟩
 | true =>
   obtain⟨b,b1,b2⟩:=Cx hn d;simp only[Bool.not_true,cond_false,b1,Option.bind_some];cases b with
   |false=>exact⟨false,[],[],rfl,⟨rfl,by simp,fun r hr=>(by cases hr),fun r hr=>(by cases hr)⟩,fun h=>by rcases h with h|h;exact absurd rfl h;cases h⟩
   | true =>
     obtain⟨ok,Rs,Ss,u1,u2⟩:=LX hn (b2 rfl).1 (b2 rfl).2;simp only[Bool.not_true,cond_false,u1,Option.bind_some];exact⟨ok,Rs,Ss,rfl,u2,fun _=>⟨trivial,b2 rfl⟩⟩
theorem rt0(n:ae):RtB n ⟨0,[]⟩:=⟨by simp,fun e he=>(by cases he),by simp,by simp⟩
theorem EV(n:ae)(d:aK)(hz:bJ n<=1048576):∃r q f,Gl n 0 2 d F2=some (r,q,f,F2)/\RtB n r/\(f=true->br n=true/\DmO n d):=by
 obtain⟨ok,Rs,Ss,u1,u2,u3⟩:=FZ n d hz;obtain⟨k,k1,k2,k3⟩:=Jd u2;have hlen:=u2.len;unfold Gl;rw[u1,Option.bind_some];simp only[k1,Option.bind_some];cases ok with
 |false=>exact⟨_,_,_,rfl,rt0 n,fun h=>by cases h⟩
 | true =>
   by_cases h0:k<0
   ·simp only[Bool.not_true,cond_false,decide_eq_true h0,Option.bind_some,cond_true];exact⟨_,_,_,rfl,rt0 n,fun h=>by cases h⟩
   ·simp only[Bool.not_true,cond_false,decide_eq_false h0,Option.bind_some];have hk:k.toNat<Rs.length:=by omega
    rw[aY ⟨by omega,k3⟩,Option.bind_some,List.getElem?_eq_getElem hk,Option.bind_some,aY ⟨by omega,by omega⟩,Option.bind_some,List.getElem?_eq_getElem (show k.toNat<Ss.length by omega),Option.bind_some];exact⟨_,_,_,rfl,u2.rt _ (List.getElem_mem hk),fun _=>u3 (.inr rfl)⟩
theorem MB(n:ae)(d:aK)(hz:bJ n<=1048576):∃r q f,tf n 0 2 d F2=some (r,q,f,F2)/\RtB n r/\RtB n q/\(f=true->br n=true/\DmO n d):=by
 obtain⟨ok,Rs,Ss,u1,u2,u3⟩:=FZ n d hz;unfold tf;rw[u1,Option.bind_some];cases ok with
 |false=>exact⟨_,_,_,rfl,rt0 n,rt0 n,fun h=>by cases h⟩
 | true =>
   obtain⟨hn,hd⟩:=u3 (.inr rfl);obtain⟨a,b,k1,k2,k3⟩:=NO hn u2;simp only[Bool.not_true,cond_false,k1,Option.bind_some];by_cases h0:a<0
   ·simp only[decide_eq_true h0,cond_true];exact⟨_,_,_,rfl,rt0 n,rt0 n,fun h=>by cases h⟩
   ·obtain⟨k4,k5⟩:=k3 (by omega);have ha:a.toNat<Rs.length:=by omega
    have hb:b.toNat<Rs.length:=by omega
    simp only[decide_eq_false h0,cond_false];rw[aY ⟨by omega,k2.2⟩,Option.bind_some,List.getElem?_eq_getElem ha,Option.bind_some,aY ⟨k4,k5⟩,Option.bind_some,List.getElem?_eq_getElem hb,Option.bind_some];exact⟨_,_,_,rfl,u2.rt _ (List.getElem_mem ha),u2.rt _ (List.getElem_mem hb),fun _=>⟨hn,hd⟩⟩
def RtF(n:ae)(r:ah):Prop:=r.Fibers.length<=20/\∀e∈r.Fibers,0<=e/\e<(n.Fibers.length:Int)
structure SvR(n:ae)(s:aj):Prop where
 wr:RtF n s.Work
 sr:RtF n s.Spare
 wb:fj s.WorkBlock
 sb:fj s.SpareBlock
theorem RtB.f{n:ae}{r:ah}(h:RtB n r):RtF n r:=⟨h.1,h.2.1⟩
theorem lz.r{n:ae}{s:aj}(h:lz n s):SvR n s:=
 ⟨⟨by have:=h.wr.len;omega,h.wr.fib⟩,⟨by have:=h.sr.len;omega,h.sr.fib⟩,h.wb,h.sb⟩
theorem Pr{n:ae}(hn:br n=true){a b:aj}(ha:SvR n a)(hb:SvR n b):∃c,tl n a b=some c:=by
 have a1:=ha.wr.1;have a2:=ha.sr.1;have b1:=hb.wr.1;have b2:=hb.sr.1;have hF:=(gU hn).2.2;unfold tl;simp only[eb a.Work a.WorkBlock b.Work b.WorkBlock (by omega) (by omega) ha.wb hb.wb,eb a.Work a.WorkBlock b.Spare b.SpareBlock (by omega) (by omega) ha.wb hb.sb,eb a.Spare a.SpareBlock b.Work b.WorkBlock (by omega) (by omega) ha.sb hb.wb,eb a.Spare a.SpareBlock b.Spare b.SpareBlock (by omega) (by omega) ha.sb hb.sb,ic n a.Work b.Work hF (by omega) (by omega) ha.wr.2,Option.bind_some];cases db a.Work a.WorkBlock b.Work b.WorkBlock<;>cases db a.Work a.WorkBlock b.Spare b.SpareBlock<;>cases db a.Spare a.SpareBlock b.Work b.WorkBlock<;>cases a.Class==2<;>cases b.Class==2<;>cases apP n a.Work.Fibers b.Work.Fibers<;>exact⟨_,rfl⟩
theorem AW{n:ae}(hn:br n=true){list:List aj}(hl:list.length<=1000)(hs:∀x∈list,SvR n x){s:aj}(h:SvR n s):∃c,BL n list s=some c:=by
 unfold BL;obtain⟨b,b1,_⟩:=bw (f:=KR n list s) (fun t=>∃i:Nat,t=(i:Int)/\i<=list.length) (fun t=>list.length-t.toNat) (fun _=>True) (fun t⟨i,e,hi⟩=>by
  subst e;unfold KR;by_cases h3:i<list.length
  ·have e1:decide ((i:Int)<(list.length:Int))=true:=by simp[h3]
   obtain⟨c,hc⟩:=Pr hn (hs _ (List.getElem_mem h3)) h;simp only[e1,cond_true,ba,List.getElem?_eq_getElem h3,Option.bind_some,hc];rw[aH (by omega) (by omega)];cases c with
   |false=>exact .inr ⟨_,rfl,trivial⟩
   |true=>exact .inl ⟨_,rfl,⟨i+1,rfl,by omega⟩,by(try simp only);omega⟩
  ·have e1:decide ((i:Int)<(list.length:Int))=false:=by simp only[decide_eq_false_iff_not];omega
   simp only[e1,cond_false];exact .inr ⟨_,rfl,trivial⟩) N0 0 ⟨0,rfl,by omega⟩ (cB (by(try simp only);omega))
 rw[b1];cases b<;>exact⟨_,rfl⟩
theorem Fm{n:ae}(hn:br n=true){list:List aj}(hl:list.length<=1000)(hs:∀x∈list,SvR n x)(s:aj)(hw:RtF n s.Work)(hp:RtF n s.Spare)(a b:Int)(ha:0<=a/\a<=24)(hb:0<=b/\b<=24):
 ∃s' c,GT n 0 list.length s a b list=some (s',c,list)/\s'.Work=s.Work/\(s'.Spare=s.Spare):=by
 have b00:fj ⟨0,0⟩:=⟨⟨by simp,by simp⟩,by simp,by simp⟩;have r0:RtF n ⟨0,[]⟩:=⟨by simp,fun e he=>(by cases he)⟩;unfold GT;obtain⟨o,o1,o2⟩:=bw (f:=KU n 0 list.length s a list) (fun t=>∃i:Nat,t.1=(i:Int)/\i<=25/\t.2.Work=s.Work/\t.2.Spare=⟨0,[]⟩/\fj t.2.SpareBlock) (fun t=>26-t.1.toNat) (fun o=>match o with| .inl v=>v.Work=s.Work/\fj v.WorkBlock| .inr x=>x=(s,false,list)) (fun t⟨i,e,hi,t1,t2,t3⟩=>by
  obtain⟨x,v⟩:=t;simp only at e t1 t2 t3;subst e;unfold KU;simp only[bnd,dL];rw[aH (n:=(i:Int)+a) (by omega) (by omega)];by_cases h:24<(i:Int)+a
  ·right;rw[decide_eq_true h];exact⟨_,rfl,rfl⟩
  ·rw[decide_eq_false h,cond_false];have hblk:fj ⟨(i:Int),a⟩:=⟨⟨by simp only;omega,by simp only;omega⟩,by simp only;omega,by simp only;omega⟩;obtain⟨c,hc⟩:=AW hn hl hs (s:=⟨v.Id,v.Class,⟨v.Work.Start,v.Work.Fibers⟩,⟨(i:Int),a⟩,⟨v.Spare.Start,v.Spare.Fibers⟩,⟨v.SpareBlock.First,v.SpareBlock.Count⟩⟩) ⟨by show RtF n v.Work;rw[t1];exact hw,by show RtF n v.Spare;rw[t2];exact r0,hblk,t3⟩;rw[hc,Option.bind_some];cases c with
   |true=>right;exact⟨_,rfl,t1,hblk⟩
   | false =>
     left;refine⟨_,rfl,⟨i+1,?_,by omega,t1,t2,t3⟩,?_⟩
     ·simp only;rw[aH (by omega) (by omega)];rfl
     ·simp only;rw[aH (by omega) (by omega)];omega) N0 (0,⟨0,0,⟨s.Work.Start,s.Work.Fibers⟩,⟨0,0⟩,⟨0,[]⟩,⟨0,0⟩⟩) ⟨0,rfl,by omega,rfl,rfl,b00⟩ (cB (by simp only;omega))
 rw[o1,Option.bind_some];cases o with
 | inr x =>
   simp only at o2⊢;rw[o2];exact⟨s,false,rfl,rfl,rfl⟩
 | inl v =>
   simp only at o2⊢;cases s.Class==0 with
   |true=>exact⟨_,true,rfl,rfl,rfl⟩
   | false =>
     rw[cond_false];obtain⟨q,q1,q2⟩:=bw (f:=Gm n 0 list.length b list) (fun t=>∃i:Nat,t.1=(i:Int)/\i<=25/\t.2.Work=s.Work/\t.2.Spare=s.Spare/\fj t.2.WorkBlock) (fun t=>26-t.1.toNat) (fun o=>match o with| .inl v=>v.Work=s.Work/\v.Spare=s.Spare| .inr x=>x.1.Work=s.Work/\x.1.Spare=s.Spare/\x.2.2=list) (fun t⟨i,e,hi,t1,t2,t3⟩=>by
      obtain⟨x,v⟩:=t;simp only at e t1 t2 t3;subst e;unfold Gm;simp only[bnd,dL];rw[aH (n:=(i:Int)+b) (by omega) (by omega)];by_cases h:(i:Int)+b<=24
      ·rw[decide_eq_true h,cond_true];have hblk:fj ⟨(i:Int),b⟩:=⟨⟨by simp only;omega,by simp only;omega⟩,by simp only;omega,by simp only;omega⟩;obtain⟨c,hc⟩:=AW hn hl hs (s:=⟨v.Id,v.Class,⟨v.Work.Start,v.Work.Fibers⟩,⟨v.WorkBlock.First,v.WorkBlock.Count⟩,⟨v.Spare.Start,v.Spare.Fibers⟩,⟨(i:Int),b⟩⟩) ⟨by show RtF n v.Work;rw[t1];exact hw,by show RtF n v.Spare;rw[t2];exact hp,t3,hblk⟩;rw[hc,Option.bind_some];cases c with
       |true=>right;exact⟨_,rfl,t1,t2,rfl⟩
       | false =>
         left;refine⟨_,rfl,⟨i+1,?_,by omega,t1,t2,t3⟩,?_⟩
         ·simp only;rw[aH (by omega) (by omega)];rfl
         ·simp only;rw[aH (by omega) (by omega)];omega
      ·right;rw[decide_eq_false h,cond_false];exact⟨_,rfl,t1,t2⟩) N0 (0,⟨s.Id,s.Class,⟨s.Work.Start,s.Work.Fibers⟩,⟨v.WorkBlock.First,v.WorkBlock.Count⟩,⟨s.Spare.Start,s.Spare.Fibers⟩,⟨s.SpareBlock.First,s.SpareBlock.Count⟩⟩) ⟨0,rfl,by omega,rfl,rfl,o2.2⟩ (cB (by simp only;omega))
     rw[q1,Option.bind_some];cases q with
     |inl u=>exact⟨u,false,rfl,q2.1,q2.2⟩
     | inr x =>
       obtain⟨u,c,l⟩:=x;simp only at q2⊢;rw[q2.2.2];exact⟨u,c,rfl,q2.1,q2.2.1⟩
theorem JV(s:aj)(h1:s.Work.Fibers.length<=1000)(h2:s.Spare.Fibers.length<=1000):xE s=some s:=by
 unfold xE Ho M_p;rw[aY (by omega)];simp only[Option.bind_some];rw[aY (by omega)];rfl
def SvL(s:aj):Prop:=s.Work.Fibers.length<=1000/\s.Spare.Fibers.length<=1000
theorem SM{list:List aj}(hl:list.length<=1000)(hs:∀x∈list,SvL x)(s:aj)(h:SvL s):∃L,KT list s=some L/\L.length=list.length+1/\∀x∈L,x∈list\/x=s:=by
 unfold KT;obtain⟨o,o1,k,o2,o3,o4,o5⟩:=bw (f:=KJ list s) (fun t=>∃i:Nat,t.1=(i:Int)/\i<=list.length/\t.2.length=i/\∀x∈t.2,x∈list) (fun t=>list.length-t.1.toNat) (fun o=>∃i:Nat,o.1=(i:Int)/\i<=list.length/\o.2.length=i/\∀x∈o.2,x∈list) (fun t⟨i,e,hi,t1,t2⟩=>by
  obtain⟨x,acc⟩:=t;simp only at e t1 t2;subst e;unfold KJ;by_cases h3:i<list.length
  ·have e1:decide ((i:Int)<(list.length:Int))=true:=by simp[h3]
   have g:=List.getElem?_eq_getElem h3;have hm:=List.getElem_mem h3;have ho:=JV list[i] (hs _ hm).1 (hs _ hm).2;simp only[e1,cond_true,ba,g,Option.bind_some,ho,bnd];cases decide (list[i].Id<s.Id) with
   |false=>exact .inr ⟨_,rfl,i,rfl,hi,t1,t2⟩
   | true =>
     rw[cond_true,aY (by omega),Option.bind_some,aH (by omega) (by omega)];exact .inl ⟨_,rfl,⟨i+1,rfl,by omega,by simp[t1],fun y hy=>by
      rcases List.mem_append.1 hy with h4|h4
      ·exact t2 y h4
      ·simp only[List.mem_singleton] at h4;rw[h4];exact hm⟩,by simp only;omega⟩
  ·have e1:decide ((i:Int)<(list.length:Int))=false:=by simp only[decide_eq_false_iff_not];omega
   simp only[e1,cond_false,Option.bind_some];exact .inr ⟨_,rfl,i,rfl,hi,t1,t2⟩) N0 (0,[]) ⟨0,rfl,by omega,rfl,fun x hx=>(by cases hx)⟩ (cB (by simp only;omega))
 rw[o1,Option.bind_some,JV s h.1 h.2,Option.bind_some];simp only[bnd];rw[aY (by omega),Option.bind_some];obtain⟨q,q1,q2,q3⟩:=bw (f:=GD list) (fun t=>∃i:Nat,t.1=(i:Int)/\i<=list.length/\t.2.length=i+1/\∀x∈t.2,x∈list\/x=s) (fun t=>list.length-t.1.toNat) (fun o=>o.length=list.length+1/\∀x∈o,x∈list\/x=s) (fun t⟨i,e,hi,t1,t2⟩=>by
  obtain⟨x,acc⟩:=t;simp only at e t1 t2;subst e;unfold GD;by_cases h3:i<list.length
  ·have e1:decide ((i:Int)<(list.length:Int))=true:=by simp[h3]
   have g:=List.getElem?_eq_getElem h3;have hm:=List.getElem_mem h3;have ho:=JV list[i] (hs _ hm).1 (hs _ hm).2;simp only[e1,cond_true,ba,g,Option.bind_some,ho,bnd];rw[aY (by omega),Option.bind_some,aH (by omega) (by omega)];exact .inl ⟨_,rfl,⟨i+1,rfl,by omega,by simp[t1],fun y hy=>by
    rcases List.mem_append.1 hy with h4|h4
    ·exact t2 y h4
    ·simp only[List.mem_singleton] at h4;rw[h4];exact .inl hm⟩,by simp only;omega⟩
  ·have e1:decide ((i:Int)<(list.length:Int))=false:=by simp only[decide_eq_false_iff_not];omega
   simp only[e1,cond_false];exact .inr ⟨_,rfl,by omega,t2⟩) N0 (o.1,o.2++[s]) ⟨k,o2,o3,by simp[o4],fun y hy=>by
    rcases List.mem_append.1 hy with h4|h4
    ·exact .inl (o5 y h4)
    ·simp only[List.mem_singleton] at h4;exact .inr h4⟩ (cB (by simp only;omega))
 have es:(⟨s.Id,s.Class,⟨s.Work.Start,s.Work.Fibers⟩,⟨s.WorkBlock.First,s.WorkBlock.Count⟩,⟨s.Spare.Start,s.Spare.Fibers⟩,⟨s.SpareBlock.First,s.SpareBlock.Count⟩⟩:aj)=s:=rfl;rw[es,q1,Option.bind_some];exact⟨q,rfl,q2,q3⟩
theorem wn{n:ae}{r:ah}(h:RtB n r){d:aK}(hd:DmO n d):∃x,((pi n r).bind fun l=>oD F2 l d.Rate)=some x/\0<=x/\x<=24:=by
 obtain⟨x,x1,x2⟩:=zU (dl n r) d.Rate hd.2;exact⟨x,by rw[dD h,Option.bind_some,x1],x2⟩
theorem Sz(n:ae)(d:aK)(list:List aj)(hz:bJ n<=1048576)(hl:dX list<=1048576)(hL:∀x∈list,SvL x):
 ∃id ok L,KW n 0 2 0 list.length d F2 list=some (id,ok,L,F2,list)/\(ok=true->L.length<=9/\∀x∈L,SvL x):=by
 have hll:=Sb hl;have no:∀p:Prop,((false:Bool)=true->p):=fun p h=>by cases h
 unfold KW;simp only[bnd,dL,Ei n list hz hl,Option.bind_some];cases hg:tL n list with
 |false=>exact⟨_,_,_,rfl,no _⟩
 | true =>
   have hI:=Vw hg;have hn:=hI.net;have h8:=hI.len;have hR:∀x∈list,SvR n x:=fun x hx=>(hI.svc x hx).r;simp only[Bool.not_true,cond_false,Option.bind_some];cases h88:((list.length:Int)==8) with
   |true=>exact⟨_,_,_,rfl,no _⟩
   | false =>
     rw[cond_false];obtain⟨o,o1,o2,o3⟩:=bw (f:=LP 0 list.length list) (fun t=>∃i:Nat,t.1=(i:Int)/\i<=list.length/\t.2.Work=⟨0,[]⟩/\t.2.Spare=⟨0,[]⟩) (fun t=>list.length-t.1.toNat) (fun o=>o.Work=⟨0,[]⟩/\o.Spare=⟨0,[]⟩) (fun t⟨i,e,hi,t1,t2⟩=>by
      obtain⟨x,v⟩:=t;simp only at e t1 t2;subst e;unfold LP;by_cases h3:i<list.length
      ·have e1:decide ((i:Int)<(list.length:Int))=true:=by simp[h3]
       simp only[e1,cond_true];rw[aY ⟨by omega,by omega⟩,Option.bind_some,Int.toNat_natCast,Nat.zero_add,List.getElem?_eq_getElem h3,Option.bind_some,Option.bind_some];cases list[i].Id==v.Id with
       |false=>exact .inr ⟨_,rfl,t1,t2⟩
       | true =>
         rw[cond_true,aH (n:=(i:Int)+1) (by omega) (by omega)];exact .inl ⟨_,rfl,⟨i+1,rfl,by omega,t1,t2⟩,by simp only;omega⟩
      ·have e1:decide ((i:Int)<(list.length:Int))=false:=by simp only[decide_eq_false_iff_not];omega
       simp only[e1,cond_false,Option.bind_some];exact .inr ⟨_,rfl,t1,t2⟩) N0 (0,⟨1,d.Class,⟨0,[]⟩,⟨0,0⟩,⟨0,[]⟩,⟨0,0⟩⟩) ⟨0,rfl,by omega,rfl,rfl⟩ (cB (by simp only;omega))
     rw[o1,Option.bind_some];obtain⟨r,q,f,c1,c2,c3⟩:=EV n d hz;simp only[c1,Option.bind_some]
     -- the routes
     have hmid:∃(g:Bool)(v:aj)(w:ah),((cond (d.Class !=0) ((tf n 0 2 d F2).bind fun rZ16=>some (rZ16.2.2.1,(⟨o.Id,o.Class,⟨o.Work.Start,o.Work.Fibers⟩,⟨o.WorkBlock.First,o.WorkBlock.Count⟩,⟨rZ16.2.1.Start,rZ16.2.1.Fibers⟩,⟨o.SpareBlock.First,o.SpareBlock.Count⟩⟩:aj),rZ16.1,rZ16.2.2.2)) (some (f,o,r,F2)):Option (Bool×aj×ah×List az)))=some (g,v,w,F2)/\RtB n w/\RtB n v.Spare/\(g=true->DmO n d):=by
      cases d.Class !=0 with
      |false=>exact⟨f,o,r,rfl,c2,by rw[o3];exact rt0 n,fun h=>(c3 h).2⟩
      | true =>
        obtain⟨x,y,g,k1,k2,k3,k4⟩:=MB n d hz;exact⟨g,_,x,by rw[k1];rfl,k2,k3,fun h=>(k4 h).2⟩
     obtain⟨g,v,w,m1,m2,m3,m4⟩:=hmid;rw[m1,Option.bind_some];simp only;cases g with
     |false=>exact⟨_,_,_,rfl,no _⟩
     | true =>
       have hd:=m4 rfl;obtain⟨x1,y1,y2⟩:=wn m3 hd;obtain⟨x2,y3,y4⟩:=wn m2 hd;have e5:dy F2 0 2=F2:=rfl;have hsp:∃b,(cond (d.Class !=0) ((pi n v.Spare).bind fun rZ20=>(oD F2 rZ20 d.Rate).bind fun rZ23=>some rZ23) (some 0):Option Int)=some b/\0<=b/\b<=24:=by
        cases d.Class !=0 with
        |false=>exact⟨0,rfl,by omega,by omega⟩
        | true =>
          refine⟨x1,?_,y2⟩;rw[cond_true];simpa using y1
       obtain⟨b,hb1,hb2⟩:=hsp;simp only[Bool.not_true,cond_false,e5,hb1,Option.bind_some];have y3':=y3;rw[dD m2,Option.bind_some] at y3';rw[dD m2,Option.bind_some,y3',Option.bind_some];obtain⟨s',c,p1,p2,p3⟩:=Fm hn (list:=list) (by omega) hR (⟨v.Id,v.Class,⟨w.Start,w.Fibers⟩,⟨v.WorkBlock.First,v.WorkBlock.Count⟩,⟨v.Spare.Start,v.Spare.Fibers⟩,⟨v.SpareBlock.First,v.SpareBlock.Count⟩⟩:aj) m2.f m3.f x2 b y4 hb2;rw[p1,Option.bind_some];cases c with
       |false=>exact⟨_,_,_,rfl,no _⟩
       | true =>
         have hsl:SvL s':=by
          have h1:=m2.1;have h2:=m3.1;unfold SvL;rw[p2,p3];exact⟨by simp only;omega,by simp only;omega⟩
         obtain⟨L,l1,l2,l3⟩:=SM (list:=list) (by omega) hL s' hsl;simp only[Bool.not_true,cond_false,dL,l1,Option.bind_some];refine⟨_,true,L,rfl,fun _=>⟨by omega,fun x hx=>?_⟩⟩;rcases l3 x hx with h|h
         ·exact hL x h
         ·rw[h];exact hsl
end Vs

namespace Vs
open Go
structure bB(c:ax)(m:Nat):Prop where
 by8:∀x∈c.code,0<=x/\x<=255
 len:c.code.length<=65536
 at0:0<=c.atF
 atm:c.atF<=(m:Int)
theorem Uf(x:Int):0<=bits .and .u64 x 255/\bits .and .u64 x 255<=255:=by
 have h:(BitVec.ofInt (IntKind.bits .u64) x &&& BitVec.ofInt (IntKind.bits .u64) 255).toNat<=255:=by
  rw[BitVec.toNat_and];exact Nat.le_trans Nat.and_le_right (by decide)
 unfold bits;simp only;generalize (BitVec.ofInt (IntKind.bits .u64) x &&& BitVec.ofInt (IntKind.bits .u64) 255).toNat=k at h;have:IntKind.wrap .u64 (k:Int)=(k:Int):=by
  unfold IntKind.wrap;simp[IntKind.bits,IntKind.signed];omega
 rw[this];omega
theorem Mp{c:ax}{m:Nat}(h:bB c m)(hm:m<=1000000000000):∃b c',Eh c=some (b,c')/\0<=b/\b<=255/\bB c' (m+1):=by
 obtain⟨h1,h2,h3,h4⟩:=h;have hb:∃b,(cond (decide (c.atF<(c.code.length:Int))) ((bH c.code c.atF).bind fun yZ2=>some (IntKind.wrap .i64 yZ2)) (some 0):Option Int)=some b/\0<=b/\b<=255:=by
  by_cases e:c.atF<(c.code.length:Int)
  ·rw[decide_eq_true e,cond_true];have hlt:c.atF.toNat<c.code.length:=by omega
   have hg:bH c.code c.atF=some c.code[c.atF.toNat]:=by
    unfold bH;rw[if_pos h3];exact List.getElem?_eq_getElem hlt
   have:=h1 _ (List.getElem_mem hlt);rw[hg];refine⟨c.code[c.atF.toNat],?_,this.1,this.2⟩;simp only[Option.bind_some];rw[aH (by omega) (by omega)]
  ·rw[decide_eq_false e,cond_false];exact⟨0,rfl,by omega,by omega⟩
 obtain⟨b,b1,b2,b3⟩:=hb;unfold Eh;rw[b1];simp only[Option.bind_some];rw[aH (n:=c.atF+1) (by omega) (by omega)];by_cases e:c.atF+1<=(c.code.length:Int)
 ·rw[decide_eq_true e,cond_true];exact⟨_,_,rfl,b2,b3,⟨h1,h2,by simp only;omega,by simp only;omega⟩⟩
 ·rw[decide_eq_false e,cond_false];have h5:=Uf (Int.fdiv (IntKind.wrap .u64 ((IntKind.wrap .u64 ((IntKind.wrap .u64 (c.seed*6364136223846793005))+(IntKind.wrap .u64 b)))+897897)) (2^(min (Int.toNat 40) (IntKind.bits .u64))));refine⟨_,_,rfl,?_,?_,⟨h1,h2,by simp only;omega,by simp only;omega⟩⟩
  ·rw[aH (by omega) (by omega)];exact h5.1
  ·rw[aH (by omega) (by omega)];exact h5.2
theorem bG{c:ax}{m:Nat}(n:Int)(h:bB c m)(hm:m<=100000000000):∃x c',M_a n c=some (x,c')/\0<=x/\(x<n\/x=0)/\bB c' (m+2):=by
 unfold M_a;by_cases e:n<=1
 ·rw[decide_eq_true e,cond_true];exact⟨0,c,rfl,by omega,.inr rfl,⟨h.by8,h.len,h.at0,by have:=h.atm;omega⟩⟩
 ·rw[decide_eq_false e,cond_false];obtain⟨b,c1,g1,g2,g3,g4⟩:=Mp h (by omega);rw[g1];simp only[Option.bind_some];by_cases e2:200<n
  ·rw[decide_eq_true e2,cond_true];obtain⟨b',c2,k1,k2,k3,k4⟩:=Mp g4 (by omega);rw[k1];simp only[Option.bind_some];rw[aY (by omega)];simp only[Option.bind_some];refine⟨_,_,rfl,?_,.inl ?_,k4⟩
   ·rw[aH (n:=b*256) (by omega) (by omega),aH (by omega) (by omega)];exact Int.tmod_nonneg _ (by omega)
   ·exact Int.tmod_lt_of_pos _ (by omega)
  ·rw[decide_eq_false e2,cond_false,aY (by omega)];simp only[Option.bind_some];exact⟨_,_,rfl,Int.tmod_nonneg _ g2,.inl (Int.tmod_lt_of_pos _ (by omega)),⟨g4.by8,g4.len,g4.at0,by have:=g4.atm;omega⟩⟩
theorem bB.up{c:ax}{m k:Nat}(h:bB c m)(hk:m<=k):bB c k:=⟨h.by8,h.len,h.at0,by have:=h.atm;omega⟩
theorem AZ{c:ax}{m:Nat}(n:Int)(h:bB c m)(hm:m<=100000000000):∃b c',tk n c=some (b,c')/\bB c' (m+2):=by
 obtain⟨x,c1,g1,g2,g3,g4⟩:=bG n h hm;unfold tk;rw[g1];exact⟨_,_,rfl,g4⟩
theorem dx{c:ax}{m:Nat}(l:List Int)(h:bB c m)(hm:m<=100000000000)(hl:0<l.length):∃x c',M_e c l=some (x,c',l)/\x∈l/\bB c' (m+2):=by
 obtain⟨i,c1,g1,g2,g3,g4⟩:=bG (l.length:Int) h hm;unfold M_e;rw[g1];simp only[Option.bind_some];have hi:i.toNat<l.length:=by omega
 rw[aY (by omega)];simp only[Option.bind_some,List.getElem?_eq_getElem hi];exact⟨_,_,rfl,List.getElem_mem hi,g4⟩
theorem Wg{c:ax}{m:Nat}(l:List ByteArray)(h:bB c m)(hm:m<=100000000000)(hl:0<l.length):∃x c',HB c l=some (x,c',l)/\x∈l/\bB c' (m+2):=by
 obtain⟨i,c1,g1,g2,g3,g4⟩:=bG (l.length:Int) h hm;unfold HB;rw[g1];simp only[Option.bind_some];have hi:i.toNat<l.length:=by omega
 rw[aY (by omega)];simp only[Option.bind_some,List.getElem?_eq_getElem hi];exact⟨_,_,rfl,List.getElem_mem hi,g4⟩
end Vs

namespace Vs
open Go
theorem Eo(f g:aA):∃r,ux f g=some r:=by
 unfold ux;cases(f.A !=g.A)
 ·cases(f.B !=g.B)
  ·cases(f.Length !=g.Length)<;>exact⟨_,rfl⟩
  ·exact⟨_,rfl⟩
 ·exact⟨_,rfl⟩
theorem Aa(a b:Int):∃r,Di a b=some r:=by
 unfold Di;cases decide (a<b)<;>exact⟨_,rfl⟩
theorem LG(a b:Int):∃r,Ey a b=some r/\a<=r/\b<=r/\(r=a\/r=b):=by
 unfold Ey;by_cases h:b<a
 ·rw[decide_eq_true h,cond_true];exact⟨a,rfl,by omega,by omega,.inl rfl⟩
 ·rw[decide_eq_false h,cond_false];exact⟨b,rfl,by omega,by omega,.inr rfl⟩
theorem Ah(l:List aA)(f:aA)(hl:l.length<=1048576):∃l',CM l f=some l'/\l'.length=l.length+1:=by
 obtain⟨o,o1,i,rfl,o3⟩:=bw (f:=Ck l f) (fun s=>∃i:Nat,s=i/\i<=l.length) (fun s=>l.length-s.toNat) (fun o=>∃i:Nat,o=(i:Int)/\i<=l.length) (fun s hI=>by
  obtain⟨i,rfl,hi⟩:=hI;by_cases h:i<l.length
  ·obtain⟨r,hr⟩:=Eo l[i] f;simp only[Ck,decide_eq_true (show(i:Int)<(l.length:Int) by omega),cond_true,ba,List.getElem?_eq_getElem h,Option.bind_some,hr];by_cases h2:r<=0
   ·left;rw[decide_eq_true h2,cond_true,aH (n:=(i:Int)+1) (by omega) (by omega)];exact⟨_,rfl,⟨i+1,by simp,by omega⟩,by omega⟩
   ·right;rw[decide_eq_false h2,cond_false];exact⟨_,rfl,i,rfl,hi⟩
  ·right;simp only[Ck,decide_eq_false (show¬(i:Int)<(l.length:Int) by omega),cond_false];exact⟨_,rfl,i,rfl,hi⟩) N0 0 ⟨0,rfl,by omega⟩ (cB (by omega))
 unfold CM;rw[o1];simp only[Option.bind_some,slT,slF,Int.toNat_natCast,bnd];rw[if_pos ⟨by omega,o3⟩,if_pos ⟨by omega,o3⟩];simp only[Option.bind_some];rw[aY (by simp;omega),];simp only[Option.bind_some];rw[aY (by simp;omega)];simp only[Option.bind_some];rw[aY (by simp;omega)];exact⟨_,rfl,by simp;omega⟩
theorem Dy{c:ax}{m:Nat}(x:Int)(c0:ax)(hx:0<=x/\x<5)(i:Int)(hi:0<=i/\i<2+x)(fs:List aA)(hf:fs.length<=1000)(h:bB c m)(hm:m<=10000000000):
 ∃fs' c',M_y (x,c0) (i,fs,c)=some (.inl (i+1,fs',c'))/\fs'.length<=fs.length+1/\bB c' (m+6):=by
 obtain⟨b,c1,hb,hc⟩:∃b c1,(cond (i==Int.tmod (i+1) (2+x)) (some (true,c)) ((tk 10 c).bind fun rZ10=>some (rZ10.1,rZ10.2)):Option (Bool×ax))=some (b,c1)/\bB c1 (m+2):=by
  cases(i==Int.tmod (i+1) (2+x))
  ·obtain⟨b,c1,g1,g2⟩:=AZ 10 h (by omega);exact⟨b,c1,by rw[cond_false,g1];rfl,g2⟩
  ·exact⟨true,c,rfl,h.up (by omega)⟩
 simp only[M_y,aH (n:=2+x) (by omega) (by omega),aH (n:=i+1) (by omega) (by omega),decide_eq_true hi.2,cond_true,aY (show(2+x)≠0 by omega),Option.bind_some,hb];cases b with
 |true=>exact⟨fs,c1,rfl,by omega,hc.up (by omega)⟩
 | false =>
   obtain⟨a1,ha1⟩:=Aa i (Int.tmod (i+1) (2+x));obtain⟨a2,ha2,_⟩:=LG i (Int.tmod (i+1) (2+x));obtain⟨x8,c2,g1,g2,g3,g4⟩:=bG 8 hc (by omega);obtain⟨rk,c3,k1,k2,k3⟩:=dx [0,0,0,1,2] g4 (by omega) (by simp);obtain⟨l',l1,l2⟩:=Ah fs ⟨a1,a2,IntKind.wrap .i64 (100*(IntKind.wrap .i64 (1+x8))),rk⟩ (by omega);simp only[cond_false,ha1,ha2,g1,bnd,k1,l1,Option.bind_some];exact⟨l',c3,rfl,by omega,k3.up (by omega)⟩
theorem DW{c:ax}{m:Nat}(x:Int)(c0:ax)(hx:0<=x/\x<5)(i:Int)(hi:0<i/\i<=10)(fs:List aA)(hf:fs.length<=1000)(h:bB c m)(hm:m<=10000000000):
 ∃fs' c',M_z (x,c0) (i,fs,c)=some (.inl (i-1,fs',c'))/\fs'.length<=fs.length+1/\bB c' (m+8):=by
 obtain⟨p,c1,p1,p2,p3,p4⟩:=bG (2+x) h (by omega);obtain⟨q,c2,q1,q2,q3,q4⟩:=bG (2+x) p4 (by omega);simp only[M_z,aH (n:=2+x) (by omega) (by omega),aH (n:=i-1) (by omega) (by omega),decide_eq_true hi.1,cond_true,Option.bind_some,p1,q1];cases(p !=q) with
 |false=>exact⟨fs,c2,rfl,by omega,q4.up (by omega)⟩
 | true =>
   obtain⟨a1,ha1⟩:=Aa p q;obtain⟨a2,ha2,_⟩:=LG p q;obtain⟨x8,c2',g1,g2,g3,g4⟩:=bG 8 q4 (by omega);obtain⟨rk,c3,k1,k2,k3⟩:=dx [0,0,0,1,2] g4 (by omega) (by simp);obtain⟨l',l1,l2⟩:=Ah fs ⟨a1,a2,IntKind.wrap .i64 (100*(IntKind.wrap .i64 (1+x8))),rk⟩ (by omega);simp only[cond_true,ha1,ha2,g1,bnd,k1,l1,Option.bind_some];exact⟨l',c3,rfl,by omega,k3.up (by omega)⟩
theorem sj{c:ax}{m:Nat}(h:bB c m)(hm:m<=1000000000):∃(K:Nat)(nodes:List ByteArray)(fs:List aA)(c':ax),Dj c=some (0,K,nodes,fs,c')/\2<=K/\K<=6/\nodes.length=6/\(∀s∈nodes,s.size<=9)/\fs.length<=9/\bB c' (m+100):=by
 obtain⟨x,c1,x1,x2,x3,x4⟩:=bG 5 h (by omega);have hx:0<=x/\x<5:=by omega
 obtain⟨⟨f1,c2⟩,o1,o2,o3⟩:=bw (f:=M_y (x,c1)) (fun s=>0<=s.1/\s.1<=2+x/\(s.2.1.length:Int)<=s.1/\bB s.2.2 (m+2+6*s.1.toNat)) (fun s=>(2+x-s.1).toNat) (fun o=>o.1.length<=6/\bB o.2 (m+38)) (fun s hI=>by
  obtain⟨j,l,cc⟩:=s;obtain⟨i1,i2,i3,i4⟩:=hI;simp only at i1 i2 i3 i4;by_cases hj:j<2+x
  ·left;obtain⟨fs',c',g1,g2,g3⟩:=Dy x c1 hx j ⟨i1,hj⟩ l (by omega) i4 (by omega);exact⟨_,g1,⟨by simp only;omega,by simp only;omega,by simp only;omega,g3.up (by simp only;omega)⟩,by simp only;omega⟩
  ·right;refine⟨(l,cc),?_,by simp only;omega,i4.up (by omega)⟩;simp only[M_y,aH (n:=2+x) (by omega) (by omega),decide_eq_false hj,cond_false]) N0 (0,[],c1) ⟨by simp,by simp only;omega,by simp,x4.up (by simp)⟩ (cB (by simp only;omega))
 simp only at o2 o3;obtain⟨y,c3,y1,y2,y3,y4⟩:=bG 4 o3 (by omega);have hy:0<=y/\y<4:=by omega
 obtain⟨⟨f2,c4⟩,q1,q2,q3⟩:=bw (f:=M_z (x,c1)) (fun s=>0<=s.1/\s.1<=3/\(s.2.1.length:Int)<=9-s.1/\bB s.2.2 (m+40+8*(3-s.1.toNat))) (fun s=>s.1.toNat) (fun o=>o.1.length<=9/\bB o.2 (m+64)) (fun s hI=>by
  obtain⟨j,l,cc⟩:=s;obtain⟨i1,i2,i3,i4⟩:=hI;simp only at i1 i2 i3 i4;by_cases hj:0<j
  ·left;obtain⟨fs',c',g1,g2,g3⟩:=DW x c1 hx j ⟨hj,by omega⟩ l (by omega) i4 (by omega);exact⟨_,g1,⟨by simp only;omega,by simp only;omega,by simp only;omega,g3.up (by simp only;omega)⟩,by simp only;omega⟩
  ·right;refine⟨(l,cc),?_,by simp only;omega,i4.up (by omega)⟩;simp only[M_z,decide_eq_false hj,cond_false]) N0 (y,f1,c3) ⟨by simp only;omega,by simp only;omega,by simp only;omega,y4.up (by simp only;omega)⟩ (cB (by simp only;omega))
 simp only at q2 q3;unfold Dj;simp only[x1,Option.bind_some,bnd,aH (n:=2+x) (by omega) (by omega)];rw[aY ⟨trivial,by omega,trivial,by omega⟩];simp only[Option.bind_some,o1,y1,q1];exact⟨_,_,_,_,rfl,by omega,by omega,rfl,by decide,q2,q3.up (by omega)⟩
structure Pj(K:Nat)(nodes:List ByteArray)(fs:List aA):Prop where
 k1:1<=K
 k:K<=nodes.length
 n:nodes.length<=10
 z:∀s∈nodes,s.size<=9
 f:fs.length<=15
theorem FG{c:ax}{m:Nat}(fs:List aA)(h0:0<fs.length)(h9:fs.length<=9)(h:bB c m)(hm:m<=10000000000):∃fs' c',bz Bm N0 (fs,c)=some (fs',c')/\fs'.length<=15/\bB c' (m+100):=by
 obtain⟨⟨f2,c4⟩,q1,q2,q3⟩:=bw (f:=Bm) (fun s=>0<s.1.length/\s.1.length<=15/\bB s.2 (m+2*s.1.length)) (fun s=>16-s.1.length) (fun o=>o.1.length<=15/\bB o.2 (m+100)) (fun s hI=>by
  obtain⟨l,cc⟩:=s;obtain⟨i1,i2,i3⟩:=hI;simp only at i1 i2 i3;obtain⟨x,c1,x1,x2,x3,x4⟩:=bG 2 i3 (by omega);simp only[Bm,x1,Option.bind_some,aH (n:=14+x) (by omega) (by omega),aH (n:=(l.length:Int)-1) (by omega) (by omega)];by_cases hj:(l.length:Int)<14+x
  ·left;have e:((l.length:Int)-1).toNat<l.length:=by omega
   rw[decide_eq_true hj,cond_true,aY (by omega)];simp only[Option.bind_some,List.getElem?_eq_getElem e,bnd];rw[aY (by omega)];exact⟨_,rfl,⟨by simp,by simp only[List.length_append,List.length_cons,List.length_nil];omega,x4.up (by simp only[List.length_append,List.length_cons,List.length_nil];omega)⟩,by simp only[List.length_append,List.length_cons,List.length_nil];omega⟩
  ·right;rw[decide_eq_false hj,cond_false];exact⟨_,rfl,by simp only;omega,x4.up (by omega)⟩) N0 (fs,c) ⟨by simp only;omega,by simp only;omega,h.up (by omega)⟩ (cB (by simp only;omega))
 exact⟨f2,c4,q1,q2,q3⟩
theorem LD{α:Type}(xs:List α)(k:Nat)(h:k<=xs.length):dy xs 0 k=xs.take k:=by
 rw[fF];simp
theorem lj{c:ax}{m:Nat}(h:bB c m)(hm:m<=1000000000):∃(K:Nat)(nodes:List ByteArray)(fs:List aA)(c':ax),CV c=some (0,K,nodes,fs,c')/\Pj K nodes fs/\bB c' (m+300):=by
 obtain⟨K,nodes,fs,c1,n1,n2,n3,n4,n5,n6,n7⟩:=sj h (by omega);have hD:Pj K nodes fs:=⟨by omega,by omega,by omega,n5,by omega⟩;unfold CV;simp only[n1,Option.bind_some];by_cases h0:fs.length=0
 ·rw[show((fs.length:Int)==0)=true by simp[h0],cond_true];exact⟨_,_,_,_,rfl,hD,n7.up (by omega)⟩
 rw[show((fs.length:Int)==0)=false by simp;exact fun e=>h0 (by simp[e]),cond_false];obtain⟨i,c2,i1,i2,i3,i4⟩:=bG (fs.length:Int) n7 (by omega);have hi:i.toNat<fs.length:=by omega
 obtain⟨r,c3,r1,r2,r3,r4⟩:=bG 24 i4 (by omega);simp only[i1,Option.bind_some];rw[aY (by omega)];simp only[Option.bind_some,List.getElem?_eq_getElem hi,r1];have fin:∀(K':Nat)(f:aA)(nodes':List ByteArray)(fs':List aA)(c':ax),Pj K' nodes' fs'->i.toNat<fs'.length->bB c' (m+300)->
  ∃(K'':Nat)(nodes'':List ByteArray)(fs'':List aA)(c'':ax),((grd (0<=i/\i<(fs'.length:Int))).bind fun _=>(fs'[(Int.toNat i)]?).bind fun _=>bnd (fs'.set (Int.toNat i) f) fun l=>some ((0:Nat),K',nodes',l,c'))=some (0,K'',nodes'',fs'',c'')/\Pj K'' nodes'' fs''/\bB c'' (m+300):=by
  intro K' f nodes' fs' c' hD' hi' hc';rw[aY (by omega)];simp only[Option.bind_some,List.getElem?_eq_getElem hi',bnd];exact⟨_,_,_,_,rfl,⟨hD'.k1,hD'.k,hD'.n,hD'.z,by rw[List.length_set];exact hD'.f⟩,hc'⟩
 rcases bt (r==0) with e|e
 ·obtain⟨x,c4,k1,k2,k3⟩:=Wg [(⟨#[98]⟩:ByteArray),(⟨#[]⟩:ByteArray),(⟨#[65]⟩:ByteArray),(⟨#[97,98,99,100,101,102,103,104]⟩:ByteArray),(⟨#[97,98,99,100,101,102,103,104,105]⟩:ByteArray),(⟨#[120,49]⟩:ByteArray)] r4 (by omega) (by simp);have hx:x.size<=9:=(show∀s∈[(⟨#[98]⟩:ByteArray),(⟨#[]⟩:ByteArray),(⟨#[65]⟩:ByteArray),(⟨#[97,98,99,100,101,102,103,104]⟩:ByteArray),(⟨#[97,98,99,100,101,102,103,104,105]⟩:ByteArray),(⟨#[120,49]⟩:ByteArray)],s.size<=9 by decide) x k2;have h00:0+Int.toNat 0<nodes.length:=by simp;omega
  simp only[e,cond_true,bnd,k1,Option.bind_some];rw[aY (by omega)];simp only[Option.bind_some,List.getElem?_eq_getElem h00];refine fin _ _ _ _ _ ⟨by omega,by rw[List.length_set];omega,by rw[List.length_set];omega,fun s hs=>?_,by omega⟩ hi (k3.up (by omega));rcases List.mem_or_eq_of_mem_set hs with h1|h1
  ·exact n5 s h1
  ·rw[h1];exact hx
 rw[e,cond_false];rcases bt (r==1) with e|e
 ·obtain⟨x,c4,k1,k2,k3,k4⟩:=bG 8 r4 (by omega);simp only[e,cond_true,k1,Option.bind_some];exact fin _ _ _ _ _ hD hi (k4.up (by omega))
 rw[e,cond_false];rcases bt (r==2) with e|e
 ·obtain⟨x,c4,k1,k2,k3,k4⟩:=bG 10 r4 (by omega);simp only[e,cond_true,k1,Option.bind_some];exact fin _ _ _ _ _ hD hi (k4.up (by omega))
 rw[e,cond_false];rcases bt (r==3) with e|e
 ·obtain⟨x,c4,k1,k2,k3⟩:=dx [0,1,5000,5001] r4 (by omega) (by simp);simp only[e,cond_true,bnd,k1,Option.bind_some];exact fin _ _ _ _ _ hD hi (k3.up (by omega))
 rw[e,cond_false];rcases bt (r==4) with e|e
 ·obtain⟨x,c4,k1,k2,k3⟩:=dx [(-1),9,10] r4 (by omega) (by simp);simp only[e,cond_true,bnd,k1,Option.bind_some];exact fin _ _ _ _ _ hD hi (k3.up (by omega))
 rw[e,cond_false];rcases bt (r==5) with e|e
 ·have h00:Int.toNat 0<fs.length:=by simp;omega
  simp only[e,cond_true];rw[aY (by omega)];simp only[Option.bind_some,List.getElem?_eq_getElem h00,bnd];rw[aY (by omega)];exact fin K _ nodes (fs++[fs[Int.toNat 0]]) _ ⟨hD.k1,hD.k,hD.n,hD.z,by simp;omega⟩ (by simp;omega) (r4.up (by omega))
 rw[e,cond_false];rcases bt (r==6) with e|e
 ·obtain⟨fs',c4,k1,k2,k3⟩:=FG fs (by omega) n6 r4 (by omega);simp only[e,cond_true,k1,Option.bind_some];exact⟨_,_,_,_,rfl,⟨by omega,by omega,by omega,n5,k2⟩,k3.up (by omega)⟩
 rw[e,cond_false];rcases bt (r==7) with e|e
 ·simp only[e,cond_true,bnd,LD nodes K hD.k];rw[aY (by omega)];simp only[Option.bind_some];refine fin _ _ _ _ _ ⟨by simp,(by simp only[List.length_append,List.length_take,List.length_cons,List.length_nil];have:=hD.k;omega),by simp;omega,fun s hs=>?_,by omega⟩ hi (r4.up (by omega));rcases List.mem_append.1 hs with h1|h1
  ·exact n5 s (List.mem_of_mem_take h1)
  ·exact(show∀s∈[(⟨#[112]⟩:ByteArray),(⟨#[113]⟩:ByteArray),(⟨#[114]⟩:ByteArray),(⟨#[115]⟩:ByteArray)],s.size<=9 by decide) s h1
 rw[e,cond_false];exact fin _ _ _ _ _ hD hi (r4.up (by omega))
end Vs

namespace Vs
open Go
theorem mE{α:Type}(xs:List α)(k:Nat)(h:k<=xs.length):dy xs 0 k=xs.take k:=ff xs k h
theorem qt{K:Nat}{nodes:List ByteArray}{fs:List aA}(hK:K<=10)(h:∀s∈nodes,s.size<=9)(hf:fs.length<=20):bJ ⟨nodes.take K,fs⟩<=1048576:=by
 have hs:∀(l:List ByteArray),(∀s∈l,s.size<=9)->(l.map fun x=>x.size).sum<=9*l.length:=by
  intro l;induction l with
  |nil=>intro _;simp
  | cons a l ih =>
    intro hl;have h1:=hl a (by simp);have h2:=ih fun s hs=>hl s (by simp[hs]);simp only[List.map_cons,List.sum_cons,List.length_cons];omega
 have h1:=hs (nodes.take K) fun s hs=>h s (List.mem_of_mem_take hs);have h2:(nodes.take K).length<=10:=by rw[List.length_take];omega
 unfold bJ mt pQ;simp only;omega
theorem Og{L:List aj}(h1:L.length<=20)(h2:∀x∈L,SvL x):dX L<=1048576:=by
 have hs:∀(l:List aj),(∀s∈l,SvL s)->(l.map fun x=>ie x).sum<=2000*l.length:=by
  intro l;induction l with
  |nil=>intro _;simp
  | cons a l ih =>
    intro hl;obtain⟨w1,w2⟩:=hl a (by simp);have w3:=ih fun s hs=>hl s (by simp[hs]);simp only[List.map_cons,List.sum_cons,List.length_cons];have e:ie a=a.Work.Fibers.length+a.Spare.Fibers.length:=rfl;omega
 have:=hs L h2;unfold dX;omega
theorem JJ{c:ax}{m:Nat}(h:bB c m)(hm:m<=1000000000):∃(K:Nat)(nodes:List ByteArray)(fs:List aA)(c':ax),Hr c=some (0,K,nodes,fs,c')/\2<=K/\K<=6/\nodes.length=6/\(∀s∈nodes,s.size<=9)/\fs.length<=10/\bB c' (m+100):=by
 obtain⟨K,nodes,fs,c1,n1,n2,n3,n4,n5,n6,n7⟩:=sj h hm;unfold Hr;rw[n1,Option.bind_some];simp only[bnd];cases((fs.length:Int)==0) with
 |false=>exact⟨K,nodes,fs,c1,rfl,n2,n3,n4,n5,by omega,n7⟩
 | true =>
   rw[cond_true,aY (by omega),Option.bind_some];exact⟨K,nodes,_,c1,rfl,n2,n3,n4,n5,by simp;omega,n7⟩
theorem Cz{n:ae}(hn:2<=n.Nodes.length)(hn2:n.Nodes.length<=20){c:ax}{m:Nat}(h:bB c m)(hm:m<=1000000000):∃d c',Gs n c=some (d,c')/\bB c' (m+20):=by
 unfold Gs;obtain⟨x1,c1,a1,a2,a3,a4⟩:=bG (n.Nodes.length:Int) h (by omega);rw[a1,Option.bind_some];obtain⟨x2,c2,b1,b2,b3,b4⟩:=bG (IntKind.wrap .i64 ((n.Nodes.length:Int)-1)) a4 (by omega);simp only[b1,Option.bind_some,bnd];rw[aY (by omega),Option.bind_some];obtain⟨x3,c3,d1,d2,d3⟩:=dx [10,20,40,50,90,120] b4 (by omega) (by simp);simp only[d1,Option.bind_some];obtain⟨x4,c4,e1,e2,e3,e4⟩:=bG 3 d3 (by omega);simp only[e1,Option.bind_some];obtain⟨x5,c5,f1,f2,f3,f4⟩:=bG 48 e4 (by omega);simp only[f1,Option.bind_some];cases x5==0 with
 | true =>
   obtain⟨x6,c6,g1,g2,g3,g4⟩:=bG 10 f4 (by omega);simp only[cond_true,g1,Option.bind_some];exact⟨_,_,rfl,g4.up (by omega)⟩
 | false =>
   rw[cond_false];cases x5==1 with
   | true =>
     obtain⟨x6,c6,g1,g2,g3⟩:=dx [0,1,1000,1001] f4 (by omega) (by simp);simp only[cond_true,g1,Option.bind_some];exact⟨_,_,rfl,g3.up (by omega)⟩
   | false =>
     rw[cond_false];cases x5==2 with
     | true =>
       obtain⟨x6,c6,g1,g2,g3⟩:=dx [-1,3] f4 (by omega) (by simp);simp only[cond_true,g1,Option.bind_some];exact⟨_,_,rfl,g3.up (by omega)⟩
     |false=>exact⟨_,_,rfl,f4.up (by omega)⟩
theorem ww{c:ax}{m:Nat}(h:bB c m)(hm:m<=10000000):∃(n:ae)(L:List aj)(c':ax),Lh c=some (n,0,L.length,L,c')/\bJ n<=1048576/\2<=n.Nodes.length/\n.Nodes.length<=10/\n.Fibers.length<=10/\L.length<=9/\(∀x∈L,SvL x)/\bB c' (m+500):=by
 obtain⟨K,nodes,fs,c1,n1,n2,n3,n4,n5,n6,n7⟩:=JJ h (by omega);have hz:=qt (K:=K) (by omega) n5 (show fs.length<=20 by omega);have hk:(nodes.take K).length=K:=by rw[List.length_take];omega
 unfold Lh;rw[n1,Option.bind_some];simp only[bnd];obtain⟨x,c2,x1,x2,x3,x4⟩:=bG 6 n7 (by omega);rw[mE _ _ (by omega),x1,Option.bind_some];obtain⟨o,o1,o2,o3,o4,o5⟩:=bw (f:=JF (0,K,nodes,fs,c1) (nodes.take K)) (fun t=>t.2.1=2/\t.1=t.2.2.2.1.length/\t.2.2.2.2.1=F2/\0<=t.2.2.1/\t.2.2.1<=6/\t.2.2.2.1.length<=9/\(∀s∈t.2.2.2.1,SvL s)/\bB t.2.2.2.2.2 (m+102+20*(6-t.2.2.1.toNat))) (fun t=>t.2.2.1.toNat) (fun o=>o.1=o.2.1.length/\o.2.1.length<=9/\(∀s∈o.2.1,SvL s)/\bB o.2.2 (m+500)) (fun t hI=>by
  obtain⟨k,two,j,L,F,cc⟩:=t;obtain⟨i1,i2,i3,i4,i5,i6,i7,i8⟩:=hI;simp only at i1 i2 i3 i4 i5 i6 i7 i8;subst i1 i2 i3;unfold JF;by_cases hj:0<j
  ·left;obtain⟨d,c3,d1,d2⟩:=Cz (n:=⟨nodes.take K,fs⟩) (by rw[hk];exact n2) (by rw[hk];omega) i8 (by omega);obtain⟨id,ok,L',a1,a2⟩:=Sz ⟨nodes.take K,fs⟩ d L hz (Og (by omega) i7) i7;simp only[decide_eq_true hj,cond_true,d1,Option.bind_some,a1];rw[aH (by omega) (by omega)];cases ok with
   | true =>
     obtain⟨a3,a4⟩:=a2 rfl;exact⟨_,rfl,⟨rfl,rfl,rfl,by simp only;omega,by simp only;omega,a3,a4,d2.up (by simp only;omega)⟩,by simp only;omega⟩
   |false=>exact⟨_,rfl,⟨rfl,rfl,rfl,by simp only;omega,by simp only;omega,i6,i7,d2.up (by simp only;omega)⟩,by simp only;omega⟩
  ·right;simp only[decide_eq_false hj,cond_false];exact⟨_,rfl,rfl,i6,i7,i8.up (by omega)⟩) N0 (0,2,x,[],F2,c2) ⟨rfl,rfl,rfl,x2,by simp only;omega,by simp,fun s hs=>(by cases hs),x4.up (by simp only;omega)⟩ (cB (by simp only;omega))
 have ef:([(⟨3000,10⟩:az),(⟨900,20⟩:az)])=F2:=rfl;rw[ef,o1,Option.bind_some,o2];exact⟨_,_,_,rfl,hz,by rw[hk];exact n2,by rw[hk];omega,n6,o3,o4,o5⟩
theorem UO{n:ae}(hF:n.Fibers.length<=20)(s:Int×List Int×List Int×ax)(hq:0<s.2.1.length)(hq2:s.2.1.length<=100):∃l,bz (Er n s) N0 (0,[])=some l/\l.length<=20/\∀e∈l,0<=e/\e<(n.Fibers.length:Int):=by
 obtain⟨o,o1,o2,o3⟩:=bw (f:=Er n s) (fun t=>∃i:Nat,t.1=(i:Int)/\i<=n.Fibers.length/\t.2.length<=i/\∀e∈t.2,0<=e/\e<(n.Fibers.length:Int)) (fun t=>n.Fibers.length-t.1.toNat) (fun o=>o.length<=20/\∀e∈o,0<=e/\e<(n.Fibers.length:Int)) (fun t⟨i,e,hi,t1,t2⟩=>by
  obtain⟨x,acc⟩:=t;simp only at e t1 t2;subst e;unfold Er;by_cases h3:i<n.Fibers.length
  ·left;have e1:decide ((i:Int)<(n.Fibers.length:Int))=true:=by simp[h3]
   have hix:IntKind.wrap .i64 ((s.2.1.length:Int)-1)=((s.2.1.length-1:Nat):Int):=by rw[aH (by omega) (by omega)];omega
   simp only[e1,cond_true,hix];rw[aY ⟨by omega,by omega⟩,Option.bind_some,Int.toNat_natCast,List.getElem?_eq_getElem (show s.2.1.length-1<s.2.1.length by omega),Option.bind_some,iv n (i:Int) _ (bT.2 (by omega)),Option.bind_some];generalize bW n (i:Int) (s.2.1[s.2.1.length-1]'(by omega))=v;have hc:∃c,(cond (decide (0<=v)) ((pR s.2.1 v).bind fun rZ14=>some (!rZ14)) (some false):Option Bool)=some c:=by
    rw[kf _ _ (show s.2.1.length<=1048576 by omega)];cases decide (0<=v)<;>exact⟨_,rfl⟩
   obtain⟨c,hc⟩:=hc;rw[hc,Option.bind_some,aH (by omega) (by omega)];cases c with
   |false=>exact⟨_,rfl,⟨i+1,rfl,by omega,by simp only;omega,t2⟩,by simp only;omega⟩
   | true =>
     simp only[cond_true,bnd];rw[aY (by omega),Option.bind_some];exact⟨_,rfl,⟨i+1,rfl,by omega,by simp;omega,fun y hy=>by
      rcases List.mem_append.1 hy with h4|h4
      ·exact t2 y h4
      ·simp only[List.mem_singleton] at h4;rw[h4];omega⟩,by simp only;omega⟩
  ·right;have e1:decide ((i:Int)<(n.Fibers.length:Int))=false:=by simp only[decide_eq_false_iff_not];omega
   simp only[e1,cond_false];exact⟨_,rfl,by omega,t2⟩) N0 (0,[]) ⟨0,rfl,by omega,by simp,fun e he=>(by cases he)⟩ (cB (by simp only;omega))
 exact⟨o,o1,o2,o3⟩
theorem Gv{n:ae}(hF:n.Fibers.length<=20){c:ax}{m:Nat}(h:bB c m)(hm:m<=1000000000):∃s p c',Lx n c=some (s,p,c')/\p.length<=5/\bB c' (m+20):=by
 unfold Lx;obtain⟨x,c1,a1,a2,a3,a4⟩:=bG (n.Nodes.length:Int) h (by omega);obtain⟨y,c2,b1,b2,b3,b4⟩:=bG 4 a4 (by omega);simp only[a1,Option.bind_some,bnd,b1];rw[aH (n:=1+y) (by omega) (by omega)];obtain⟨o,o1,o2,o3⟩:=bw (f:=Ix n) (fun t=>0<=t.1/\t.1<=4/\0<t.2.1.length/\(t.2.1.length:Int)<=5-t.1/\(t.2.2.1.length:Int)<=4-t.1/\bB t.2.2.2 (m+4+2*(4-t.1.toNat))) (fun t=>t.1.toNat) (fun o=>o.1.length<=5/\bB o.2 (m+20)) (fun t hI=>by
  obtain⟨k,q,p,cc⟩:=t;obtain⟨i1,i2,i3,i4,i5,i6⟩:=hI;simp only at i1 i2 i3 i4 i5 i6;unfold Ix;by_cases hk:0<k
  ·obtain⟨l,l1,l2,l3⟩:=UO hF (k,q,p,cc) i3 (by simp only;omega);simp only[decide_eq_true hk,cond_true,l1,Option.bind_some];by_cases h0:l.length=0
   ·rw[show((l.length:Int)==0)=true by simp[h0],cond_true];exact .inr ⟨_,rfl,by simp only;omega,i6.up (by omega)⟩
   ·have e0:((l.length:Int)==0)=false:=by rw[beq_eq_false_iff_ne];omega
    obtain⟨z,c3,d1,d2,d3,d4⟩:=bG (l.length:Int) i6 (by omega);have hz:z.toNat<l.length:=by omega
    have hix:IntKind.wrap .i64 ((q.length:Int)-1)=((q.length-1:Nat):Int):=by rw[aH (by omega) (by omega)];omega
    obtain⟨g1,g2⟩:=l3 _ (List.getElem_mem hz);rw[e0,cond_false,d1,Option.bind_some];simp only;rw[aY ⟨d2,by omega⟩,Option.bind_some,List.getElem?_eq_getElem hz,Option.bind_some];simp only[bnd,hix];rw[aY (by omega),Option.bind_some,aY ⟨by omega,by omega⟩,Option.bind_some,Int.toNat_natCast,List.getElem?_eq_getElem (show q.length-1<q.length by omega),Option.bind_some,iv n _ _ (bT.2 (by omega)),Option.bind_some,aY (by omega),Option.bind_some,aH (by omega) (by omega)];exact .inl ⟨_,rfl,⟨by simp only;omega,by simp only;omega,by simp,by simp;omega,by simp;omega,d4.up (by simp only;omega)⟩,by simp only;omega⟩
  ·simp only[decide_eq_false hk,cond_false];exact .inr ⟨_,rfl,by simp only;omega,i6.up (by omega)⟩) N0 (1+y,[x],[],c2) ⟨by simp only;omega,by simp only;omega,by simp,by simp only[List.length_singleton];omega,by simp only[List.length_nil];omega,b4.up (by simp only;omega)⟩ (cB (by simp only;omega))
 rw[o1,Option.bind_some];exact⟨_,_,_,rfl,o2,o3⟩
theorem nc{n:ae}(hF:n.Fibers.length<=20){c:ax}{m:Nat}(h:bB c m)(hm:m<=1000000000):∃s p c',BA n c=some (s,p,c')/\p.length<=6/\bB c' (m+30):=by
 unfold BA;obtain⟨s,p,c1,a1,a2,a3⟩:=Gv hF h hm;obtain⟨x,c2,b1,b2,b3,b4⟩:=bG 16 a3 (by omega);simp only[a1,Option.bind_some,b1];obtain⟨y,c3,d1,d2,d3,d4⟩:=bG 8 b4 (by omega);cases x==0 with
 |true=>simp only[cond_true,d1,Option.bind_some];exact⟨_,_,_,rfl,by omega,d4.up (by omega)⟩
 | false =>
   rw[cond_false];cases x==1 with
   | true =>
     simp only[cond_true,d1,Option.bind_some,bnd];rw[aY (by omega),Option.bind_some];exact⟨_,_,_,rfl,by simp;omega,d4.up (by omega)⟩
   | false =>
     rw[cond_false];cases x==2 with
     |true=>exact⟨_,_,_,rfl,by simp,b4.up (by omega)⟩
     | false =>
       rw[cond_false];cases x==3 with
       |false=>exact⟨_,_,_,rfl,by omega,b4.up (by omega)⟩
       | true =>
         rw[cond_true];by_cases h1:1<p.length
         ·have e1:decide ((1:Int)<(p.length:Int))=true:=by simp only[decide_eq_true_eq];omega
          have hix:IntKind.wrap .i64 ((p.length:Int)-1)=((p.length-1:Nat):Int):=by rw[aH (by omega) (by omega)];omega
          simp only[e1,cond_true,hix,bnd];rw[aY ⟨by omega,by omega⟩,Option.bind_some,Int.toNat_natCast,List.getElem?_eq_getElem (show p.length-1<p.length by omega),Option.bind_some,aY (by omega),Option.bind_some];exact⟨_,_,_,rfl,by simp;omega,b4.up (by omega)⟩
         ·have e1:decide ((1:Int)<(p.length:Int))=false:=by simp only[decide_eq_false_iff_not];omega
          rw[e1];exact⟨_,_,_,rfl,by omega,b4.up (by omega)⟩
theorem vA{c:ax}{m:Nat}(h:bB c m)(hm:m<=1000000000):∃b c',Eu c=some (b,c')/\bB c' (m+10):=by
 unfold Eu;obtain⟨b,c1,a1,a2⟩:=AZ 12 h (by omega);rw[a1,Option.bind_some];cases b with
 | true =>
   obtain⟨x,c2,b1,b2,b3,b4⟩:=bG 26 a2 (by omega);obtain⟨y,c3,d1,d2,d3,d4⟩:=bG 27 b4 (by omega);simp only[cond_true,b1,Option.bind_some,d1];exact⟨_,_,rfl,d4.up (by omega)⟩
 | false =>
   obtain⟨x,c2,b1,b2,b3,b4⟩:=bG 6 a2 (by omega);obtain⟨y,c3,d1,d2,d3,d4⟩:=bG (IntKind.wrap .i64 ((IntKind.wrap .i64 (24-(IntKind.wrap .i64 (1+x))))+1)) b4 (by omega);simp only[cond_false,b1,Option.bind_some,d1];exact⟨_,_,rfl,d4.up (by omega)⟩
def DH(n:ae)(L:List aj):Prop:=bJ n<=1048576/\n.Fibers.length<=20/\L.length<=10/\∀x∈L,SvL x
theorem fZ{x:Int}{L:List aj}{n:ae}{s:aj}{c:ax}{m:Nat}(hx:0<=x/\x<(L.length:Int))(h:DH n L)(hs:SvL s)(hc:bB c m):∃(n':ae)(L':List aj)(c':ax),((grd (0<=x/\x<((L.length:Nat):Int))).bind fun _=>(L[(0+(Int.toNat x))]?).bind fun _=>bnd (L.set (0+(Int.toNat x)) s) fun lZ38=>some (n,0,L.length,lZ38,c))=some (n',0,L'.length,L',c')/\DH n' L'/\bB c' m:=by
 rw[aY hx,Option.bind_some,List.getElem?_eq_getElem (show 0+x.toNat<L.length by omega),Option.bind_some];refine⟨n,L.set (0+x.toNat) s,c,by rw[List.length_set];rfl,⟨h.1,h.2.1,by rw[List.length_set];exact h.2.2.1,fun y hy=>?_⟩,hc⟩;rcases List.mem_or_eq_of_mem_set hy with h1|h1
 ·exact h.2.2.2 y h1
 ·rw[h1];exact hs
theorem jN{c:ax}{m:Nat}(h:bB c m)(hm:m<=1000000):∃(n:ae)(L:List aj)(c':ax),DA c=some (n,0,L.length,L,c')/\DH n L/\bB c' (m+2000):=by
 obtain⟨n,L,c1,s1,s2,s3,s4,s5,s6,s7,s8⟩:=ww h (by omega);have hD:DH n L:=⟨s2,by omega,by omega,s7⟩;unfold DA;rw[s1,Option.bind_some];simp only;by_cases h0:L.length=0
 ·rw[show(((L.length:Nat):Int)==0)=true by simp[h0],cond_true];exact⟨n,L,c1,rfl,hD,s8.up (by omega)⟩
 have e0:(((L.length:Nat):Int)==0)=false:=by rw[beq_eq_false_iff_ne];omega
 obtain⟨x,c2,x1,x2,x3,x4⟩:=bG (L.length:Int) s8 (by omega);have hx:0<=x/\x<(L.length:Int):=by omega
 have hxl:0+x.toNat<L.length:=by omega
 obtain⟨y,c3,y1,y2,y3,y4⟩:=bG 24 x4 (by omega);rw[e0,cond_false,x1,Option.bind_some];simp only;rw[aY hx,Option.bind_some,List.getElem?_eq_getElem hxl,Option.bind_some,y1,Option.bind_some];have hy:=s7 _ (List.getElem_mem hxl);generalize L[0+x.toNat]=s at hy;have up:∀{k:Nat}{c:ax},bB c k->k<=m+2000->bB c (m+2000):=fun h hk=>h.up hk;simp only[bnd];cases y==0 with
 | true =>
   obtain⟨z,c4,z1,z2,z3⟩:=dx [0,999,1000,500,1] y4 (by omega) (by simp);simp only[cond_true,z1,Option.bind_some];exact fZ hx hD (by exact hy) (up z3 (by omega))
 | false =>
   rw[cond_false];cases y==1 with
   | true =>
     obtain⟨z,c4,z1,z2,z3,z4⟩:=bG 5 y4 (by omega);simp only[cond_true,z1,Option.bind_some];exact fZ hx hD (by exact hy) (up z4 (by omega))
   | false =>
     rw[cond_false];cases y==2 with
     | true =>
       obtain⟨a,p,c4,z1,z2,z3⟩:=nc hD.2.1 y4 (by omega);simp only[cond_true,z1,Option.bind_some];exact fZ hx hD ⟨by simp only;omega,hy.2⟩ (up z3 (by omega))
     | false =>
       rw[cond_false];cases y==3 with
       | true =>
         obtain⟨b,c4,z1,z2⟩:=vA y4 (by omega);simp only[cond_true,z1,Option.bind_some];exact fZ hx hD (by exact hy) (up z2 (by omega))
       | false =>
         rw[cond_false];cases y==4 with
         | true =>
           obtain⟨a,p,c4,z1,z2,z3⟩:=nc hD.2.1 y4 (by omega);simp only[cond_true,z1,Option.bind_some];exact fZ hx hD ⟨hy.1,by simp only;omega⟩ (up z3 (by omega))
         | false =>
           rw[cond_false];cases y==5 with
           | true =>
             obtain⟨b,c4,z1,z2⟩:=vA y4 (by omega);simp only[cond_true,z1,Option.bind_some];exact fZ hx hD (by exact hy) (up z2 (by omega))
           | false =>
             rw[cond_false];cases y==6 with
             | true =>
               simp only[cond_true,dL];rw[aY (by omega)];simp only[Option.bind_some];have hl:(L.length+1)=(L++[s]).length:=by simp
               rw[hl];exact fZ (by rw[<-hl];omega) ⟨hD.1,hD.2.1,by rw[<-hl];omega,fun z hz=>by
                rcases List.mem_append.1 hz with h4|h4
                ·exact s7 z h4
                ·simp only[List.mem_singleton] at h4;rw[h4];exact hy⟩ hy (up y4 (by omega))
             | false =>
               rw[cond_false];cases y==7 with
               | true =>
                 obtain⟨K,nodes,fs,c4,z1,z2,z3⟩:=lj y4 (by omega);simp only[cond_true,z1,Option.bind_some];rw[mE _ _ z2.k];have hz:=qt (K:=K) (by have:=z2.k;have:=z2.n;omega) z2.z (show fs.length<=20 by have:=z2.f;omega);exact fZ hx ⟨hz,by have:=z2.f;simp only;omega,hD.2.2.1,s7⟩ hy (up z3 (by omega))
               | false =>
                 simp only[cond_false,Option.bind_some];exact fZ hx hD hy (up y4 (by omega))
end Vs

namespace Vs
open Go
theorem Ba{α:Type}(p:Nat->α->Bool):∀(xs:List α)(k:Nat),((xs.zipIdx (k+1)).find? fun q=>p q.2 q.1)=((xs.zipIdx k).find? fun q=>p (q.2+1) q.1).map fun q=>(q.1,q.2+1)
 |[],k=>rfl
 | x :: xs, k => by
   rw[List.zipIdx_cons,List.zipIdx_cons,List.find?_cons,List.find?_cons];simp only;cases p (k+1) x with
   |true=>rfl
   |false=>exact Ba p xs (k+1)
theorem Gc{α:Type}(p:Nat->α->Bool)(x:α)(xs:List α):
 cC p (x::xs)=if p 0 x then some (0,x) else(cC (fun i=>p (i+1)) xs).map fun q=>(q.1+1,q.2):=by
 unfold cC;rw[List.zipIdx_cons,List.find?_cons];by_cases h:p 0 x=true
 ·simp[h]
 ·simp only[Bool.not_eq_true] at h;simp only[h,Bool.false_eq_true,if_false];rw[Ba p xs 0,Option.map_map,Option.map_map];rfl
theorem fH{x y:Int}:cT x y<0↔x<y:=by
 unfold cT;by_cases h1:x<y
 ·simp[h1]
 ·by_cases h2:y<x<;>simp[h1,h2]
theorem BM(x y:Int)(a b:List Int):gI (x::a) (y::b)=if x=y then gI a b else cT x y:=by
 unfold gI;rw[Gc];by_cases h:x=y
 ·subst h;simp only[List.getElem?_cons_zero,bne_self_eq_false,Bool.false_eq_true,if_false,List.getElem?_cons_succ,if_true];cases cC (fun i x=>b[i]? !=some x) a with
  |none=>simp
  |some q=>simp[oc]
 ·have:((some y:Option Int) !=some x)=true:=bne_iff_ne.2 fun e=>h (Option.some.inj e).symm;simp only[List.getElem?_cons_zero,this,if_true,if_neg h];simp[oc]
theorem zW:∀a b c:List Int,a.length=b.length->b.length=c.length->gI a b<0->gI b c<0->gI a c<0
 |[],[],[],_,_,h,_=>h
 | x :: a, y :: b, z :: c, h1, h2, h3, h4 => by
   rw[BM] at h3 h4⊢;by_cases e1:x=y
   ·rw[if_pos e1] at h3;by_cases e2:y=z
    ·rw[if_pos e2] at h4;rw[if_pos (e1.trans e2)];exact zW a b c (by simpa using h1) (by simpa using h2) h3 h4
    ·rw[if_neg e2,fH] at h4;rw[if_neg (by omega),fH];omega
   ·rw[if_neg e1,fH] at h3;by_cases e2:y=z
    ·rw[if_neg (by omega),fH];omega
    ·rw[if_neg e2,fH] at h4;rw[if_neg (by omega),fH];omega
theorem sY{n:ae}{a b:ah}(hs:a.Start=b.Start):dV n a b<0↔dl n a<dl n b\/(dl n a=dl n b/\(a.Fibers.length<b.Fibers.length\/(a.Fibers.length=b.Fibers.length/\gI a.Fibers b.Fibers<0))):=by
 unfold dV;by_cases e1:dl n a=dl n b
 ·rw[if_neg (fun h=>h e1)];by_cases e2:a.Fibers.length=b.Fibers.length
  ·rw[if_neg (fun h=>h e2)];by_cases e3:gI a.Fibers b.Fibers=0
   ·rw[if_neg (fun h=>h e3),fH];omega
   ·rw[if_pos e3];omega
  ·rw[if_pos e2,fH];omega
 ·rw[if_pos e1,fH];omega
theorem KX(n:ae)(a:ah):¬dV n a a<0:=by
 have:=gD n a a;omega
theorem AL{n:ae}{a b c:ah}(h1:a.Start=b.Start)(h2:b.Start=c.Start)(h3:dV n a b<0)(h4:dV n b c<0):dV n a c<0:=by
 rw[sY h1] at h3;rw[sY h2] at h4;rw[sY (h1.trans h2)];rcases h3 with h3|⟨h3,h3'|⟨h3',h3''⟩⟩<;>rcases h4 with h4|⟨h4,h4'|⟨h4',h4''⟩⟩
 ·omega
 ·omega
 ·omega
 ·omega
 ·omega
 ·omega
 ·omega
 ·omega
 ·exact .inr ⟨by omega,.inr ⟨by omega,zW _ _ _ h3' h4' h3'' h4''⟩⟩
theorem qo{n:ae}{a b:ah}(h:¬dV n a b<0):dV n b a<0\/a=b:=by
 by_cases e:dV n a b=0
 ·exact .inr (rP e)
 ·left;rw[gD];omega
theorem uX{n:ae}{a b c:ah}(h1:a.Start=b.Start)(h2:b.Start=c.Start)(h3:¬dV n a b<0)(h4:¬dV n b c<0):¬dV n a c<0:=by
 rcases qo h3 with h3|rfl
 ·rcases qo h4 with h4|rfl
  ·have:=AL h2.symm h1.symm h4 h3;rw[gD] at this;omega
  ·rw[gD] at h3;omega
 ·exact h4
def lc(n:ae)(l:List ah):Prop:=l.Pairwise fun a b=>¬dV n b a<0
theorem zl{n:ae}:∀(xs ys:List ah),xs.Perm ys->lc n xs->lc n ys->xs=ys
 |[],ys,h,_,_=>(List.nil_perm.1 h).symm
 |x::xs,[],h,_,_=>by have:=h.length_eq;simp at this
 | x :: xs, y :: ys, h, h1, h2 => by
   unfold lc at h1 h2;rw[List.pairwise_cons] at h1 h2;have e:x=y:=by
    have m1:x∈y::ys:=h.mem_iff.1 List.mem_cons_self;have m2:y∈x::xs:=h.mem_iff.2 List.mem_cons_self;rw[List.mem_cons] at m1 m2;rcases m1 with e|m1
    ·exact e
    ·rcases m2 with e|m2
     ·exact e.symm
     ·have a1:=h2.1 x m1;have a2:=h1.1 y m2;have:=gD n x y;exact rP (n:=n) (by omega)
   subst e;rw[zl xs ys (List.Perm.cons_inv h) h1.2 h2.2]
def RD(s:Int)(L:List ah):Prop:=∀r∈L,r.Start=s
theorem Qi{n:ae}{s:Int}{L:List ah}{r:ah}{k:Nat}(hs:RD s L)(hr:r.Start=s)(hk:k<=L.length)(h:lc n L)(h1:∀j y,k<=j->L[j]?=some y->dV n r y<0)
 (h2:∀y,0<k->L[k-1]?=some y->¬dV n r y<0):lc n (L.take k++[r]++L.drop k):=by
 have hkL:L.take k++L.drop k=L:=List.take_append_drop k L;have hpw:lc n (L.take k++L.drop k):=by rw[hkL];exact h
 unfold lc at hpw⊢;rw[List.pairwise_append] at hpw;obtain⟨p1,p2,p3⟩:=hpw;have before:∀y∈L.take k,¬dV n r y<0:=fun y hy=>by
  obtain⟨j,hj⟩:=List.getElem?_of_mem hy;rw[List.getElem?_take] at hj;split at hj
  ·rename_i hjk;have hz:L[k-1]?=some (L[k-1]'(by omega)):=List.getElem?_eq_getElem _;have q:=h2 _ (by omega) hz;by_cases e:j=k-1
   ·subst e;rw[hz] at hj;cases hj;exact q
   ·have hyz:¬dV n (L[k-1]'(by omega)) y<0:=by
     have:=List.pairwise_iff_getElem.1 h j (k-1) (by omega) (by omega) (by omega);rw[(List.getElem?_eq_some_iff.1 hj).2] at this;exact this
    exact uX (hr.trans (hs _ (List.getElem_mem _)).symm) ((hs _ (List.getElem_mem _)).trans (hs _ (List.mem_of_mem_take hy)).symm) q hyz
  ·cases hj
 have after:∀y∈L.drop k,dV n r y<0:=fun y hy=>by
  obtain⟨j,hj⟩:=List.getElem?_of_mem hy;rw[List.getElem?_drop] at hj;exact h1 _ y (by omega) hj
 rw[List.append_assoc,List.pairwise_append,List.singleton_append,List.pairwise_cons];refine⟨p1,⟨fun y hy=>?_,p2⟩,fun x hx y hy=>?_⟩
 ·have:=after y hy;rw[gD];omega
 ·rw[List.mem_cons] at hy;rcases hy with rfl|hy
  ·exact before x hx
  ·exact p3 x hx y hy
theorem DZ{f:Int->Option (Int⊕Int)}{L:List ah}(hl:L.length<=1000)(g:ah->Int)
 (h1:∀(i:Nat)(y:ah),L[i]?=some y->f ((i+1:Nat):Int)=some (if decide (g y<0) then .inl (i:Int) else .inr ((i+1:Nat):Int))) (h2:f 0=some (.inr 0)):
 ∃k:Nat,bz f N0 (L.length:Int)=some (k:Int)/\k<=L.length/\(∀j y,k<=j->L[j]?=some y->g y<0)/\∀y,0<k->L[k-1]?=some y->¬g y<0:=by
 obtain⟨b,b1,b2⟩:=bw (f:=f) (fun s=>∃i:Nat,s=(i:Int)/\i<=L.length/\∀j y,i<=j->L[j]?=some y->g y<0) (fun s=>s.toNat) (fun b=>∃k:Nat,b=(k:Int)/\k<=L.length/\(∀j y,k<=j->L[j]?=some y->g y<0)/\∀y,0<k->L[k-1]?=some y->¬g y<0) (fun s⟨i,e,hi,hj⟩=>by
  subst e;cases i with
  |zero=>exact .inr ⟨0,h2,0,rfl,Nat.zero_le _,hj,fun y h=>by omega⟩
  | succ i =>
    have hat:=List.getElem?_eq_getElem (show i<L.length by omega);have hs:=h1 i _ hat;rw[hs];by_cases c:g L[i]<0
    ·rw[if_pos (by simpa using c)];refine .inl ⟨_,rfl,⟨i,rfl,by omega,fun j y hij hy=>?_⟩,by simp⟩;by_cases e:j=i
     ·subst e;rw[hat] at hy;cases hy;exact c
     ·exact hj j y (by omega) hy
    ·rw[if_neg (by simpa using c)];refine .inr ⟨_,rfl,i+1,rfl,hi,hj,fun y _ hy=>?_⟩;rw[show i+1-1=i by omega,hat] at hy;cases hy;exact c) N0 (L.length:Int) ⟨L.length,rfl,Nat.le_refl _,fun j y hj hy=>by have:=(List.getElem?_eq_some_iff.1 hy).1;omega⟩ (cB (by omega))
 obtain⟨k,e,hk⟩:=b2;exact⟨k,by rw[b1,e],hk⟩
theorem Tg{n:ae}(hn:br n=true){d:Int}{L:List ah}{r:ah}(hr:RtB n r)(hL:∀r∈L,RtB n r)(hl:L.length<=500)(hsm:RD r.Start L)(hsr:lc n L):
 ∃L',yX r n.Nodes n.Fibers d L=some (n.Nodes,n.Fibers,d,L',L)/\L'.Perm (r::L)/\lc n L':=by
 obtain⟨k,k1,k2,k3,k4⟩:=DZ (f:=M_r r n.Nodes n.Fibers L) (L:=L) (by omega) (dV n r) (fun i y hy=>by
  have hlt:=(List.getElem?_eq_some_iff.1 hy).1;have e1:decide (0<((i+1:Nat):Int))=true:=by simp only[decide_eq_true_eq];omega
  have e2:IntKind.wrap .i64 (((i+1:Nat):Int)-1)=(i:Int):=by rw[aH (by omega) (by omega)];omega
  unfold M_r;rw[e1,cond_true,e2,aY ⟨by omega,by omega⟩,Option.bind_some,Int.toNat_natCast,hy,Option.bind_some,nk hn hr (hL y (List.mem_of_getElem? hy)),Option.bind_some];cases decide (dV n r y<0)<;>rfl) (by simp[M_r])
 unfold yX;rw[k1,Option.bind_some,aY ⟨trivial,by omega,trivial,by simpa using k2⟩];simp only[Option.bind_some,bnd,Int.toNat_natCast];rw[aY (by rw[ff _ _ k2];simp;omega),Option.bind_some,aY (by rw[ff _ _ k2];simp;omega),Option.bind_some,aY ⟨by omega,trivial,k2,trivial⟩,Option.bind_some,aY (by rw[ff _ _ k2,lQ _ _ k2];simp;omega),Option.bind_some,ff _ _ k2,lQ _ _ k2];refine⟨_,rfl,?_,Qi hsm rfl k2 hsr k3 k4⟩;have hp:(L.take k++r::L.drop k).Perm (r::(L.take k++L.drop k)):=List.perm_middle;rw[List.take_append_drop] at hp;rw[List.append_assoc];exact hp
end Vs

namespace Vs
open Go
def dh(q:List Int):Int:=(q[q.length-1]?).getD 0
def eG(n:ae)(D:List Int->List Int->List ah)(v:Int)(p q:List Int)(i:Nat):List ah:=
 if 0<=bW n (i:Int) v/\bW n (i:Int) v∉q then D (p++[(i:Int)]) (q++[bW n (i:Int) v]) else []
def flS(n:ae)(D:List Int->List Int->List ah)(v:Int)(p q:List Int)(k:Nat):List ah:=(List.range k).flatMap (eG n D v p q)
def fu(n:ae)(s d:Int)(D:List Int->List Int->List ah)(p q:List Int):List ah:=
 if dh q=d then [⟨s,p⟩] else flS n D (dh q) p q n.Fibers.length
def kw(n:ae)(s d:Int):Nat->List Int->List Int->List ah
 |0,p,q=>fu n s d (fun _ _=>[]) p q
 |k+1,p,q=>fu n s d (kw n s d k) p q
structure kr(n:ae)(s:Int)(p q:List Int):Prop where
 S:ro n s p q
 V:∀ext,bU (lK n) (fun a=>some a.2) 0 (p++ext) (s,[s])=bU (lK n) (fun a=>some a.2) p.length ext (dh q,q)
theorem py(q:List Int)(w:Int):dh (q++[w])=w:=by unfold dh;simp
theorem GF{q:List Int}(h:0<q.length):q[q.length-1]?=some (dh q):=by
 unfold dh;rw[List.getElem?_eq_getElem (show q.length-1<q.length by omega)];rfl
theorem FJ{n:ae}(hn:br n=true){i:Nat}(hi:i<n.Fibers.length){v:Int}(h0:0<=bW n (i:Int) v):bW n (i:Int) v<(n.Nodes.length:Int):=by
 have hwi:wi (i:Int) 0 ((n.Fibers.length:Int)-1)=true:=bT.2 (by omega);obtain⟨f,f1,f2⟩:=mi hwi;obtain⟨fa,fb,fc,_⟩:=kV hn f2;unfold bW at h0⊢;rw[f2] at h0⊢;simp only[hM] at h0⊢;by_cases c1:v=f.A
 ·rw[if_pos c1];omega
 ·rw[if_neg c1];by_cases c2:v=f.B
  ·rw[if_pos c2];omega
  ·rw[if_neg c2];omega
theorem kr.ext{n:ae}(hn:br n=true){s:Int}{p q:List Int}(h:kr n s p q){i:Nat}(hi:i<n.Fibers.length)(h1:0<=bW n (i:Int) (dh q))(h2:bW n (i:Int) (dh q)∉q):
 kr n s (p++[(i:Int)]) (q++[bW n (i:Int) (dh q)]):=by
 have hp:=h.S;have hlt:=FJ hn hi h1;refine⟨⟨by have:=hp.len;simp;omega,?_,fun x hx=>?_,fun x hx=>?_,hp.st⟩,fun ext=>?_⟩
 ·rw[List.nodup_append];refine⟨hp.nd,by simp,fun x hx y hy e=>?_⟩;simp only[List.mem_singleton] at hy;exact h2 (by rw[<-hy,<-e];exact hx)
 ·rcases List.mem_append.1 hx with h|h
  ·exact hp.rg x h
  ·simp only[List.mem_singleton] at h;rw[h];exact⟨h1,hlt⟩
 ·rcases List.mem_append.1 hx with h|h
  ·exact hp.pr x h
  ·simp only[List.mem_singleton] at h;rw[h];omega
 ·rw[List.append_assoc,h.V,List.singleton_append,py,List.length_append,List.length_singleton];rw[bU];have hb:nM n (i:Int) (dh q,q)=false:=by
   unfold nM;have e1:wi (i:Int) 0 ((n.Fibers.length:Int)-1)=true:=bT.2 (by omega);simp only[e1,decide_eq_false h2,decide_eq_false (show¬bW n (i:Int) (dh q)<0 by omega)];rfl
  unfold lK;rw[hb];rfl
structure RtV(n:ae)(s:Int)(r:ah):Prop where
 st:r.Start=s
 b:RtB n r
 v:(fP n r).isSome=true
theorem AA{n:ae}(hn:br n=true){s d:Int}(hsd:s≠d)(hs:0<=s/\s<(n.Nodes.length:Int)){D:List Int->List Int->List ah}{p q:List Int}(hD:∀p1 q1,kr n s p1 q1->q1.length=q.length+1->∀r∈D p1 q1,RtV n s r)(h:kr n s p q):∀r∈fu n s d D p q,RtV n s r:=by
 intro r hr;unfold fu at hr;split at hr
 ·rename_i e;rw[List.mem_singleton] at hr;subst hr;refine⟨rfl,h.S.rt hn,?_⟩;have hp:p.length≠0:=fun e0=>by
   have e1:p=[]:=List.length_eq_zero_iff.1 e0;subst e1;have h1:=h.V [];have h2:=h.S.len;obtain⟨x,hx⟩:∃x,q=[x]:=by
    match q,h2 with
    |[x],_=>exact⟨x,rfl⟩
   subst hx;simp only[List.append_nil,bU,Option.some.injEq,List.cons.injEq,and_true] at h1;apply hsd;rw[h1,<-e];rfl
  unfold fP;have e1:wi s 0 ((n.Nodes.length:Int)-1)=true:=bT.2 (by omega);have h3:=h.V [];rw[List.append_nil] at h3;simp only[e1,decide_eq_false hp];rw[h3];rfl
 ·unfold flS at hr;rw[List.mem_flatMap] at hr;obtain⟨i,hi,hr⟩:=hr;rw[List.mem_range] at hi;unfold eG at hr;split at hr
  ·rename_i h1;exact hD _ _ (h.ext hn hi h1.1 h1.2) (by simp) r hr
  ·cases hr
theorem oO{n:ae}(hn:br n=true){s d:Int}(hsd:s≠d)(hs:0<=s/\s<(n.Nodes.length:Int)):∀(k:Nat)(p q:List Int),kr n s p q->∀r∈kw n s d k p q,RtV n s r
 |0,p,q,h=>AA hn hsd hs (fun _ _ _ _ _ hr=>by cases hr) h
 |k+1,p,q,h=>AA hn hsd hs (fun p1 q1 h1 _=>oO hn hsd hs k p1 q1 h1) h
structure GdL(n:ae)(s:Int)(L:List ah):Prop where
 srt:lc n L
 rt:∀r∈L,RtV n s r
def kp(n:ae)(L D L':List ah):Prop:=lc n L'/\(∀r∈L',r∈L\/r∈D)/\L'.length<=201/\(if L.length+D.length<=201 then L'.Perm (L++D) else L'.length=201)
theorem kp.refl{n:ae}{L:List ah}(h:lc n L)(hl:L.length<=201):kp n L [] L:=⟨h,fun r hr=>.inl hr,hl,by rw[if_pos (by simpa using hl),List.append_nil]⟩
theorem kp.trans{n:ae}{L D1 L1 D2 L2:List ah}(h1:kp n L D1 L1)(hl:L1.length<=200)(h2:kp n L1 D2 L2):kp n L (D1++D2) L2:=by
 obtain⟨a1,a2,a3,a4⟩:=h1;obtain⟨b1,b2,b3,b4⟩:=h2;have c:L.length+D1.length<=201:=by
  apply Classical.byContradiction;intro h;rw[if_neg h] at a4;omega
 rw[if_pos c] at a4;have e:=a4.length_eq;rw[List.length_append] at e;refine⟨b1,fun r hr=>?_,b3,?_⟩
 ·rcases b2 r hr with h|h
  ·rcases a2 r h with h|h
   ·exact .inl h
   ·exact .inr (List.mem_append_left _ h)
  ·exact .inr (List.mem_append_right _ h)
 ·rw[List.length_append];by_cases c2:L1.length+D2.length<=201
  ·rw[if_pos c2] at b4;rw[if_pos (by omega),<-List.append_assoc];exact b4.trans (a4.append_right D2)
  ·rw[if_neg c2] at b4;rw[if_neg (by omega)];exact b4
theorem kp.full{n:ae}{L D1 L1:List ah}(D2:List ah)(h1:kp n L D1 L1)(hl:¬L1.length<=200):kp n L (D1++D2) L1:=by
 obtain⟨a1,a2,a3,a4⟩:=h1;refine⟨a1,fun r hr=>(a2 r hr).imp id (List.mem_append_left _),a3,?_⟩;rw[List.length_append];split
 ·rename_i c;rw[if_pos (by omega)] at a4;have e:=a4.length_eq;rw[List.length_append] at e;have:D2=[]:=List.length_eq_zero_iff.1 (by omega);rw[this,List.append_nil];exact a4
 ·omega
theorem GdL.put{n:ae}{s:Int}{L D L':List ah}(h:GdL n s L)(hD:∀r∈D,RtV n s r)(hq:kp n L D L'):GdL n s L':=⟨hq.1,fun r hr=>(hq.2.1 r hr).elim (h.rt r) (hD r)⟩
theorem eW(n:ae)(D:List Int->List Int->List ah)(v:Int)(p q:List Int)(k:Nat):flS n D v p q (k+1)=flS n D v p q k++eG n D v p q k:=by
 unfold flS;rw[List.range_succ,List.flatMap_append];simp
theorem od(n:ae)(D:List Int->List Int->List ah)(v:Int)(p q:List Int){k:Nat}:∀m,k<=m->∃R,flS n D v p q m=flS n D v p q k++R
 | 0, h => ⟨[], by have : k = 0 := by omega
                   subst this;simp⟩
 | m + 1, h => by
   by_cases e:k=m+1
   ·subst e;exact⟨[],by simp⟩
   ·obtain⟨R,hR⟩:=od n D v p q m (show k<=m by omega);exact⟨R++eG n D v p q m,by rw[eW,hR,List.append_assoc]⟩
theorem lg{n:ae}(hn:br n=true){s d:Int}(hsd:s≠d)(hs:0<=s/\s<(n.Nodes.length:Int)){D:List Int->List Int->List ah}{rc:Int->List ByteArray->List aA->Int->List ah->List Int->List Int->Option (List ByteArray×List aA×Int×List ah×List Int)}
 {L:List ah} {p q:List Int} (hrc:∀(L:List ah)(p1 q1:List Int),kr n s p1 q1->q1.length=q.length+1->GdL n s L->L.length<=200->∃L',rc s n.Nodes n.Fibers d L p1 q1=some (n.Nodes,n.Fibers,d,L',q1)/\kp n L (D p1 q1) L')
 (hD:∀p1 q1,kr n s p1 q1->q1.length=q.length+1->∀r∈D p1 q1,RtV n s r) (hp:kr n s p q) (hL:GdL n s L) (hl:L.length<=200):
 ∃L',tD rc s n.Nodes n.Fibers d L p q=some (n.Nodes,n.Fibers,d,L',q)/\kp n L (fu n s d D p q) L':=by
 obtain⟨b1,b2,b3⟩:=cI hn;have h1:=hp.S.le;have h2:=hp.S.len;have hix:IntKind.wrap .i64 ((q.length:Int)-1)=((q.length-1:Nat):Int):=by rw[aH (by omega) (by omega)];omega
 unfold tD fu;rw[hix,aY ⟨by omega,by omega⟩,Option.bind_some,Int.toNat_natCast,GF (by omega),Option.bind_some];by_cases hv:dh q=d
 ·have e0:(dh q==d)=true:=by simpa using hv
  rw[e0,if_pos hv,cond_true];obtain⟨L',e1,e2,e3⟩:=Tg hn (d:=d) (r:=⟨s,p⟩) (hp.S.rt hn) (fun r hr=>(hL.rt r hr).b) (by omega) (fun r hr=>(hL.rt r hr).st) hL.srt;rw[e1,Option.bind_some];have hlen:=e2.length_eq;rw[List.length_cons] at hlen;refine⟨L',rfl,e3,fun r hr=>?_,by omega,?_⟩
  ·rcases List.mem_cons.1 (e2.mem_iff.1 hr) with h|h
   ·exact .inr (by rw[h];simp)
   ·exact .inl h
  ·rw[if_pos (by simp;omega)];have hp2:(L++(⟨s,p⟩:ah)::[]).Perm ((⟨s,p⟩:ah)::(L++[])):=List.perm_middle;rw[List.append_nil] at hp2;exact e2.trans hp2.symm
 ·have e0:(dh q==d)=false:=by simpa using hv
  rw[e0,if_neg hv,cond_false];generalize hvq:dh q=v at*
  obtain⟨b,o1,o2⟩:=bw (f:=M_t s p q rc v) (fun t=>∃(i:Nat)(L':List ah),t=((i:Int),n.Nodes,n.Fibers,d,L')/\i<=n.Fibers.length/\kp n L (flS n D v p q i) L') (fun t=>n.Fibers.length-t.1.toNat) (fun b=>∃L',b=(n.Nodes,n.Fibers,d,L')/\kp n L (flS n D v p q n.Fibers.length) L') (fun t⟨i,L',e,hi,hL'⟩=>by
   subst e;have hgd:GdL n s L':=hL.put (fun r hr=>by
    unfold flS at hr;rw[List.mem_flatMap] at hr;obtain⟨j,hj,hr⟩:=hr;rw[List.mem_range] at hj;unfold eG at hr;split at hr
    ·rename_i c;subst hvq;exact hD _ _ (hp.ext hn (by omega) c.1 c.2) (by simp) r hr
    ·cases hr) hL'
   unfold M_t;by_cases h3:i<n.Fibers.length/\L'.length<=200
   ·left;have e1:decide ((i:Int)<(n.Fibers.length:Int))=true:=by simp[h3.1]
    have e2:decide ((L'.length:Int)<=200)=true:=by simp only[decide_eq_true_eq];omega
    have hwi:wi (i:Int) 0 ((n.Fibers.length:Int)-1)=true:=bT.2 (by omega);simp only[e1,e2,cond_true,Option.bind_some,iv n (i:Int) v hwi,kf q _ (show q.length<=1048576 by omega)];by_cases h4:0<=bW n (i:Int) v/\bW n (i:Int) v∉q
    ·have e3:decide (0<=bW n (i:Int) v)=true:=by simp[h4.1]
     have e4:(q.any fun y=>y==bW n (i:Int) v)=false:=by rw[<-nT];exact decide_eq_false h4.2
     have hP:kr n s (p++[(i:Int)]) (q++[bW n (i:Int) v]):=by subst hvq;exact hp.ext hn h3.1 h4.1 h4.2
     have hle:=hP.S.le;simp only[List.length_append,List.length_singleton] at hle;obtain⟨L2,c1,c2⟩:=hrc L' (p++[(i:Int)]) (q++[bW n (i:Int) v]) hP (by simp) hgd h3.2;have ep:M_p p=some p:=by unfold M_p;rw[aY (by omega)];rfl
     have eq:M_p q=some q:=by unfold M_p;rw[aY (by omega)];rfl
     simp only[e3,e4,cond_true,Bool.not_false,Option.bind_some,ep,eq,bnd];rw[aY (by omega),Option.bind_some,aY (by omega),Option.bind_some,c1,Option.bind_some];have hst:eG n D v p q i=D (p++[(i:Int)]) (q++[bW n (i:Int) v]):=by unfold eG;rw[if_pos h4]
     refine⟨_,rfl,⟨i+1,L2,by rw[aH (by omega) (by omega)];rfl,by omega,by rw[eW,hst];exact hL'.trans h3.2 c2⟩,?_⟩;simp only;rw[aH (by omega) (by omega)];omega
    ·have e3:(cond (decide (0<=bW n (i:Int) v)) (some (!(q.any fun y=>y==bW n (i:Int) v))) (some false):Option Bool)=some false:=by
      by_cases h5:0<=bW n (i:Int) v
      ·have:(q.any fun y=>y==bW n (i:Int) v)=true:=by
        rw[<-nT,decide_eq_true_eq];exact Classical.byContradiction fun h6=>h4 ⟨h5,h6⟩
       simp[h5,this]
      ·simp[h5]
     rw[e3];simp only[Option.bind_some,cond_false];have hst:eG n D v p q i=[]:=by unfold eG;rw[if_neg h4]
     refine⟨_,rfl,⟨i+1,L',by rw[aH (by omega) (by omega)];rfl,by omega,by rw[eW,hst,List.append_nil];exact hL'⟩,?_⟩;simp only;rw[aH (by omega) (by omega)];omega
   ·right;have e1:(cond (decide ((i:Int)<(n.Fibers.length:Int))) (some (decide ((L'.length:Int)<=200))) (some false):Option Bool)=some false:=by
     by_cases h5:i<n.Fibers.length
     ·have:¬L'.length<=200:=fun h=>h3 ⟨h5,h⟩;have e6:decide ((L'.length:Int)<=200)=false:=by simp only[decide_eq_false_iff_not];omega
      simp[h5,e6]
     ·simp[h5]
    simp only[e1,Option.bind_some,cond_false];refine⟨_,rfl,L',rfl,?_⟩;by_cases h5:i<n.Fibers.length
    ·obtain⟨R,hR⟩:=od n D v p q n.Fibers.length hi;rw[hR];exact hL'.full R fun h=>h3 ⟨h5,h⟩
    ·have:i=n.Fibers.length:=by omega
     rw[<-this];exact hL') N0 (0,n.Nodes,n.Fibers,d,L) ⟨0,L,rfl,Nat.zero_le _,kp.refl hL.srt (by omega)⟩ (cB (by simp only;omega))
  obtain⟨L',e,hL'⟩:=o2;rw[o1,e];exact⟨L',rfl,hL'⟩
theorem vn{n:ae}(hn:br n=true){s d:Int}(hsd:s≠d)(hs:0<=s/\s<(n.Nodes.length:Int)):∀(k m:Nat),k<m->∀(L:List ah)(p q:List Int),kr n s p q->q.length+k=n.Nodes.length->GdL n s L->L.length<=200->
 ∃L',qZ m s n.Nodes n.Fibers d L p q=some (n.Nodes,n.Fibers,d,L',q)/\kp n L (kw n s d k p q) L'
 |0,0,h=>by omega
 |0,m+1,_=>fun L p q hp hq hL hl=>lg hn hsd hs (fun L1 p1 q1 hp1 e _ _=>by have:=hp1.S.le;omega) (fun _ _ _ _ _ hr=>by cases hr) hp hL hl
 | k + 1, m, hm => fun L p q hp hq hL hl => by
   obtain⟨m,rfl⟩:∃m',m=m'+1:=⟨m-1,by omega⟩;exact lg hn hsd hs (fun L1 p1 q1 hp1 e hL1 hl1=>vn hn hsd hs k m (by omega) L1 p1 q1 hp1 (by omega) hL1 hl1) (fun p1 q1 h1 _=>oO hn hsd hs k p1 q1 h1) hp hL hl
def jA(n:ae)(s d:Int):List ah:=kw n s d (n.Nodes.length-1) [] [s]
theorem Ni{n:ae}(hn:br n=true){s:Int}(hs:0<=s/\s<(n.Nodes.length:Int)):kr n s [] [s]:=by
 have:=cI hn;exact⟨⟨rfl,by simp,fun x hx=>by simp only[List.mem_singleton] at hx;rw[hx];exact hs,fun e he=>(by cases he),⟨hs.1,by omega⟩⟩,fun ext=>rfl⟩
theorem Va{n:ae}(hn:br n=true){s d:Int}(hsd:s≠d)(hs:0<=s/\s<(n.Nodes.length:Int)):∃L,(if(jA n s d).length<=200 then uI n s d=some (true,L)/\L.Perm (jA n s d)/\lc n L else uI n s d=some (false,[])):=by
 obtain⟨b1,b2,b3⟩:=cI hn;obtain⟨k,hk⟩:∃k,n.Nodes.length=k+2:=⟨n.Nodes.length-2,by omega⟩;have e:Mb s n.Nodes n.Fibers d [s]=tD (qZ N0) s n.Nodes n.Fibers d [] [] [s]:=rfl;obtain⟨L,e1,e2,e3,e4,e5⟩:=lg hn hsd hs (D:=kw n s d k) (rc:=qZ N0) (L:=[]) (p:=[]) (q:=[s]) (fun L1 p1 q1 hp1 e hL1 hl1=>vn hn hsd hs k N0 (cB (by omega)) L1 p1 q1 hp1 (by simp only[List.length_singleton] at e;omega) hL1 hl1) (fun p1 q1 h1 _=>oO hn hsd hs k p1 q1 h1) (Ni hn hs) ⟨List.Pairwise.nil,fun r hr=>by cases hr⟩ (by simp);have hr:jA n s d=fu n s d (kw n s d k) [] [s]:=by unfold jA;rw[hk];rfl
 rw[<-hr] at e5;refine⟨L,?_⟩;unfold uI;simp only[bnd,List.length_nil,Nat.zero_add,List.nil_append] at e5⊢;rw[e,e1,Option.bind_some];by_cases h:(jA n s d).length<=200
 ·rw[if_pos (by omega)] at e5;have hl:=e5.length_eq;have e7:decide ((200:Int)<(L.length:Int))=false:=by simp only[decide_eq_false_iff_not];omega
  rw[if_pos h];refine⟨?_,e5,e2⟩;show cond (decide ((200:Int)<(L.length:Int))) _ _=_;rw[e7,cond_false,aY (by simp only;omega)];rfl
 ·have hl:L.length=201:=by
   by_cases h2:(jA n s d).length<=201
   ·rw[if_pos h2] at e5;have:=e5.length_eq;omega
   ·rw[if_neg h2] at e5;exact e5
  rw[if_neg h];have e7:decide ((200:Int)<(L.length:Int))=true:=by simp only[decide_eq_true_eq];omega
  show cond (decide ((200:Int)<(L.length:Int))) _ _=_;rw[e7];rfl
end Vs

namespace Vs
open Go
theorem mf(a:Nat):BitVec.ofInt 64 (a:Int)=BitVec.ofNat 64 a:=by
 apply BitVec.eq_of_toNat_eq;simp[BitVec.toNat_ofInt]
theorem borR(a b:Nat)(ha:a<2^62)(hb:b<2^62):bits .or .i64 (a:Int) (b:Int)=((a ||| b:Nat):Int):=by
 have hab:a ||| b<2^62:=Nat.or_lt_two_pow ha hb;show IntKind.wrap .i64 ((BitVec.ofInt 64 (a:Int) ||| BitVec.ofInt 64 (b:Int)).toNat:Int)=_;rw[mf,mf,BitVec.toNat_or,BitVec.toNat_ofNat,BitVec.toNat_ofNat,Nat.mod_eq_of_lt (by omega),Nat.mod_eq_of_lt (by omega),aH (by omega) (by omega)]
theorem VO(m i:Nat)(hi:i<64)(hm:m<2^62):(bits .and .i64 (Int.fdiv (m:Int) (2^(min i (IntKind.bits .i64)))) 1==0)=!m.testBit i:=by
 have e1:min i (IntKind.bits .i64)=i:=by rw[show IntKind.bits .i64=64 from rfl];omega
 have e2:Int.fdiv (m:Int) (2^i)=((m/2^i:Nat):Int):=by
  rw[Int.fdiv_eq_ediv_of_nonneg _ (by exact_mod_cast Nat.zero_le (2^i))];simp
 have hlt:m/2^i<2^62:=Nat.lt_of_le_of_lt (Nat.div_le_self ..) hm;rw[e1,e2];have e3:bits .and .i64 ((m/2^i:Nat):Int) 1=((m/2^i%2:Nat):Int):=by
  show IntKind.wrap .i64 ((BitVec.ofInt 64 ((m/2^i:Nat):Int) &&& BitVec.ofInt 64 ((1:Nat):Int)).toNat:Int)=_;rw[mf,mf,BitVec.toNat_and,BitVec.toNat_ofNat,BitVec.toNat_ofNat,Nat.mod_eq_of_lt (by omega),Nat.mod_eq_of_lt (by omega),Nat.and_one_is_mod,aH (by omega) (by omega)]
 rw[e3,Nat.testBit_eq_decide_div_mod_eq];have:=Nat.mod_two_eq_zero_or_one (m/2^i);rcases this with h|h<;>rw[h]<;>simp
theorem Jn(xs:List Int)(hl:xs.length<=1048576):Cr xs=some xs:=by
 unfold Cr;rw[aY (by omega)];simp only[Option.bind_some];cases xs with
 |nil=>rfl
 |cons x xs=>rfl
def tS(m:Nat)(q:List Int):Prop:=m<2^8/\∀i:Nat,m.testBit i=decide ((i:Int)∈q)
theorem zX{w:Nat}(hw:w<8):IntKind.wrap .i64 (1*2^(min w (IntKind.bits .i64)))=((2^w:Nat):Int):=by
 have e1:min w (IntKind.bits .i64)=w:=by rw[show IntKind.bits .i64=64 from rfl];omega
 have q:(2:Nat)^w<=2^8:=Nat.pow_le_pow_right (by omega) (by omega);have p1:(1*2^w:Int)=((2^w:Nat):Int):=by rw[Int.one_mul];exact_mod_cast rfl
 have p2:((2^w:Nat):Int)<=256:=Int.ofNat_le.2 q;have p3:(0:Int)<=((2^w:Nat):Int):=Int.natCast_nonneg _;rw[e1,p1];generalize ((2^w:Nat):Int)=z at p2 p3;exact aH (by omega) (by omega)
theorem tS.ext{m:Nat}{q:List Int}(h:tS m q){w:Nat}(hw:w<8):tS (m ||| 2^w) (q++[(w:Int)]):=by
 refine⟨Nat.or_lt_two_pow h.1 (Nat.pow_lt_pow_right (by omega) hw),fun i=>?_⟩;rw[Nat.testBit_or,h.2,Nat.testBit_two_pow,Bool.eq_iff_iff];simp only[Bool.or_eq_true,decide_eq_true_eq,List.mem_append,List.mem_singleton];constructor
 ·rintro(h|h)
  ·exact .inl h
  ·right;omega
 ·rintro(h|h)
  ·exact .inl h
  ·right;omega
theorem kY{n:ae}(hn:br n=true){s d:Int}{D:List Int->List Int->List ah}{rc:Int->Int->List Int->Int->List ah->Int->ae->Option (Int×List ah×Int×ae)}{p q:List Int}{m:Nat}{out:List ah}
 (hrc:∀(p1 q1:List Int)(m1:Nat)(out:List ah),kr n s p1 q1->q1.length=q.length+1->tS m1 q1->out.length+(D p1 q1).length<=1000000000000->rc (dh q1) (m1:Int) p1 d out s n=some (d,out++D p1 q1,s,n))
 (hp:kr n s p q) (hm:tS m q) (hlen:out.length+(fu n s d D p q).length<=1000000000000):
 GY rc (dh q) (m:Int) p d out s n=some (d,out++fu n s d D p q,s,n):=by
 obtain⟨b1,b2,b3⟩:=cI hn;have h1:=hp.S.le;have h2:=hp.S.len;unfold GY;unfold fu at hlen⊢;by_cases hv:dh q=d
 ·have e0:(dh q==d)=true:=by simpa using hv
  rw[if_pos hv] at hlen⊢;simp only[List.length_singleton] at hlen;rw[e0,cond_true,Jn p (by omega),Option.bind_some];simp only[bnd];rw[aY (by omega)];rfl
 ·have e0:(dh q==d)=false:=by simpa using hv
  rw[if_neg hv] at hlen⊢;rw[e0,cond_false];generalize hvq:dh q=v at*
  obtain⟨b,o1,o2⟩:=bw (f:=Hh v (m:Int) p n rc) (fun t=>∃i:Nat,t=((i:Int),d,out++flS n D v p q i,s,n)/\i<=n.Fibers.length) (fun t=>n.Fibers.length-t.1.toNat) (fun b=>b=(d,out++flS n D v p q n.Fibers.length,s,n)) (fun t⟨i,e,hi⟩=>by
   subst e;unfold Hh;by_cases h3:i<n.Fibers.length
   ·left;have e1:decide ((i:Int)<(n.Fibers.length:Int))=true:=by simp[h3]
    have hat:n.Fibers[i]?=some n.Fibers[i]:=List.getElem?_eq_getElem h3;have ho:bW n (i:Int) v=hM n.Fibers[i] v:=by unfold bW;rw[Int.toNat_natCast,hat]
    have w1:IntKind.wrap .i64 ((i:Int)+1)=((i+1:Nat):Int):=by rw[aH (by omega) (by omega)];rfl
    simp only[e1,cond_true,ba,hat,Option.bind_some,oZ,<-ho,w1];by_cases h0:0<=bW n (i:Int) v
    ·obtain⟨w,hw⟩:=Int.eq_ofNat_of_zero_le h0;have hlt:=FJ hn h3 h0;rw[hw] at hlt;have hw8:w<8:=by omega
     simp only[hw,Int.toNat_natCast];rw[aY (by omega)];simp only[Option.bind_some,decide_eq_true (show(0:Int)<=(w:Int) by omega),cond_true,VO m w (by omega) (by have:=hm.1;omega),hm.2 w];by_cases h4:(w:Int)∈q
     ·rw[decide_eq_true h4];simp only[Bool.not_true,cond_false];have hst:eG n D v p q i=[]:=by unfold eG;rw[if_neg (by rw[hw];exact fun h=>h.2 h4)]
      exact⟨_,rfl,⟨i+1,by rw[eW,hst,List.append_nil],by omega⟩,by simp only;omega⟩
     ·rw[decide_eq_false h4];simp only[Bool.not_false,cond_true,bnd];have h5:0<=bW n (i:Int) v/\bW n (i:Int) v∉q:=⟨h0,by rw[hw];exact h4⟩;have hst:eG n D v p q i=D (p++[(i:Int)]) (q++[(w:Int)]):=by unfold eG;rw[if_pos h5,hw]
      have hP:kr n s (p++[(i:Int)]) (q++[(w:Int)]):=by subst hvq;rw[<-hw];exact hp.ext hn h3 h5.1 h5.2
      obtain⟨R,hR⟩:=od n D v p q n.Fibers.length (show i+1<=n.Fibers.length by omega);rw[hR,eW,hst,List.length_append,List.length_append] at hlen
      have hw2:(2:Nat)^w<=2^8:=Nat.pow_le_pow_right (by omega) (by omega)
      have hm1:=hm.1
      rw[aY (by omega),Option.bind_some,zX hw8,borR m (2^w) (by omega) (by omega)]
      have hc:=hrc (p++[(i:Int)]) (q++[(w:Int)]) (m ||| 2^w) (out++flS n D v p q i) hP (by simp) (hm.ext hw8) (by rw[List.length_append];omega);rw[py] at hc;rw[hc,Option.bind_some];exact⟨_,rfl,⟨i+1,by rw[eW,hst,List.append_assoc],by omega⟩,by simp only;omega⟩
    ·have e3:decide (0<=bW n (i:Int) v)=false:=decide_eq_false h0;simp only[e3,cond_false,Option.bind_some];have hst:eG n D v p q i=[]:=by unfold eG;rw[if_neg fun h=>h0 h.1]
     exact⟨_,rfl,⟨i+1,by rw[eW,hst,List.append_nil],by omega⟩,by simp only;omega⟩
   ·right;have:i=n.Fibers.length:=by omega
    subst this;have e1:decide ((n.Fibers.length:Int)<(n.Fibers.length:Int))=false:=by simp
    simp only[e1,cond_false];exact⟨_,rfl,rfl⟩) N0 (0,d,out,s,n) ⟨0,by simp[flS],by omega⟩ (cB (by simp only;omega))
  rw[o1,o2];rfl
theorem uf{n:ae}(hn:br n=true){s d:Int}:∀(k f:Nat),k<f->∀(p q:List Int)(m:Nat)(out:List ah),kr n s p q->q.length+k=n.Nodes.length->tS m q->out.length+(kw n s d k p q).length<=1000000000000->
 BJ f (dh q) (m:Int) p d out s n=some (d,out++kw n s d k p q,s,n)
 |0,0,h=>by omega
 |0,f+1,_=>fun p q m out hp hq hm hl=>kY hn (fun p1 q1 m1 out1 hp1 e _ _=>by have:=hp1.S.le;omega) hp hm hl
 | k + 1, f, hf => fun p q m out hp hq hm hl => by
   obtain⟨f,rfl⟩:∃f',f=f'+1:=⟨f-1,by omega⟩;exact kY hn (fun p1 q1 m1 out1 hp1 e hm1 hl1=>uf hn k f (by omega) p1 q1 m1 out1 hp1 (by omega) hm1 hl1) hp hm hl
theorem Nr{n:ae}(hn:br n=true){s d:Int}:∀(k:Nat)(p q:List Int),(kw n s d k p q).length<=14^k:=by
 obtain⟨b1,b2,b3⟩:=cI hn;have body:∀(D:List Int->List Int->List ah)(B:Nat)(p q:List Int),(∀p q,(D p q).length<=B)->(fu n s d D p q).length<=max 1 (14*B):=by
  intro D B p q hD;unfold fu;split
  ·simp;omega
  ·have gen:∀m,(flS n D (dh q) p q m).length<=m*B:=by
    intro m;induction m with
    |zero=>simp[flS]
    | succ m ih =>
      rw[eW,List.length_append,Nat.add_mul,Nat.one_mul];have:(eG n D (dh q) p q m).length<=B:=by
       unfold eG;split
       ·exact hD _ _
       ·simp
      omega
   have h1:=gen n.Fibers.length;have h2:n.Fibers.length*B<=14*B:=Nat.mul_le_mul_right B b3;omega
 intro k;induction k with
 | zero =>
   intro p q;have:=body (fun _ _=>[]) 0 p q (fun _ _=>by simp);simpa[kw] using this
 | succ k ih =>
   intro p q;have:=body (kw n s d k) (14^k) p q ih;have h2:0<14^k:=Nat.pow_pos (by omega);rw[Nat.pow_succ];show(fu n s d (kw n s d k) p q).length<=_;omega
theorem PN{n:ae}(hn:br n=true)(s d:Int):(jA n s d).length<=105413504:=by
 obtain⟨b1,b2,b3⟩:=cI hn;have h1:=Nr hn (s:=s) (d:=d) (n.Nodes.length-1) [] [s];have h2:(14:Nat)^(n.Nodes.length-1)<=14^7:=Nat.pow_le_pow_right (by omega) (by omega);unfold jA;omega
theorem Un{n:ae}(hn:br n=true){s d:Int}(hsd:s≠d)(hs:0<=s/\s<(n.Nodes.length:Int)):∃ys,Gd n s d=some ys/\ys.Perm (jA n s d)/\lc n ys:=by
 obtain⟨b1,b2,b3⟩:=cI hn;obtain⟨k,hk⟩:∃k,n.Nodes.length=k+2:=⟨n.Nodes.length-2,by omega⟩;obtain⟨w,rfl⟩:=Int.eq_ofNat_of_zero_le hs.1;have hrl:=PN hn (w:Int) d;have hr:jA n (w:Int) d=fu n (w:Int) d (kw n (w:Int) d k) [] [(w:Int)]:=by unfold jA;rw[hk];rfl
 have hm:tS (2^w) [(w:Int)]:=by
  have:tS 0 []:=⟨by omega,fun i=>by simp⟩;have:=this.ext (w:=w) (by omega);simpa using this
 have hc:=kY hn (s:=(w:Int)) (d:=d) (D:=kw n (w:Int) d k) (rc:=BJ N0) (p:=[]) (q:=[(w:Int)]) (m:=2^w) (out:=[]) (fun p1 q1 m1 out1 hp1 e hm1 hl1=>uf hn k N0 (cB (by omega)) p1 q1 m1 out1 hp1 (by simp only[List.length_singleton] at e;omega) hm1 hl1) (Ni hn hs) hm (by rw[<-hr];simp;omega);rw[<-hr] at hc;have hok:=oO hn hsd hs (n.Nodes.length-1) [] [(w:Int)] (Ni hn hs);obtain⟨ys,y1,y2,y3⟩:=yc (cmp:=fun x0 x1=>xS x0 x1 n) (xs:=jA n (w:Int) d) (dV n) (by omega) (fun x hx y hy=>by
  show xS x y n=_;unfold xS;rw[fQ (hok x hx).b (hok y hy).b];rfl) (fun x _=>KX n x) (fun x hx y hy z hz=>AL ((hok x hx).st.trans (hok y hy).st.symm) ((hok y hy).st.trans (hok z hz).st.symm)) (fun x hx y hy z hz=>uX ((hok x hx).st.trans (hok y hy).st.symm) ((hok y hy).st.trans (hok z hz).st.symm))
 refine⟨ys,?_,y2,y3⟩;unfold Gd;have e0:(((w:Int)) !=d)=true:=bne_iff_ne.2 hsd;have e1:Qe (w:Int) (IntKind.wrap .i64 (1*2^(min (Int.toNat (w:Int)) (IntKind.bits .i64)))) [] d [] (w:Int) n=some (d,jA n (w:Int) d,(w:Int),n):=by
  rw[Int.toNat_natCast,zX (show w<8 by omega)];rw[show dh [(w:Int)]=(w:Int) from rfl,List.nil_append] at hc;exact hc
 rw[e0,cond_true,aY (by omega),Option.bind_some,e1];simp only[Option.bind_some];rw[y1];rfl
theorem TX(xs:List Int)(f:Int->Option Bool)(p:Int->Bool)(hf:∀x,f x=some (p x))(hl:xs.length<=1048576):Ko xs f=some (xs.any p):=by
 unfold Ko QS;rw[da (f:=BU xs f) xs (fun _ x=>p x) (fun i _=>(i:Int)) () (fun i x hx _=>by
  have hlt:=(List.getElem?_eq_some_iff.1 hx).1;have h1:decide ((i:Int)<xs.length)=true:=by simp[hlt]
  simp only[BU,h1,cond_true,ba,hx,hf x,Option.bind_some];rw[aH (by omega) (by omega)];cases p x<;>rfl) (by simp[BU]) (by omega)]
 rw[<-oy];cases e:cC (fun _ x=>p x) xs with
 | none =>
   have h:eN (fun _ x=>p x) xs=false:=dr.2 (ed.1 e);rw[h];rfl
 | some q =>
   obtain⟨i,x⟩:=q;obtain⟨h1,h2,_⟩:=cL.1 e;have h:eN (fun _ x=>p x) xs=true:=gC.2 ⟨i,x,h1,h2⟩;rw[h];simp
theorem JZ{n:ae}(hn:br n=true)(hz:bJ n<=1048576){s d:Int}(hsd:s≠d)(hs:0<=s/\s<(n.Nodes.length:Int))(hd:0<=d/\d<(n.Nodes.length:Int)):∃L,(if(jA n s d).length<=200 then Ez n s d=some (L,true)/\L.Perm (jA n s d)/\lc n L else Ez n s d=some ([],false)):=by
 obtain⟨b1,b2,b3⟩:=cI hn;obtain⟨L,l1,l2,l3⟩:=Un hn hsd hs;have hl:=l2.length_eq;refine⟨L,?_⟩;have e1:Mz n [s,d]=some true:=by
  unfold Mz;rw[ee n hz,hn];simp only[Option.bind_some,cond_true];rw[TX [s,d] _ (fun x=>!wi x 0 ((n.Nodes.length:Int)-1)) (fun x=>by
   unfold Qm;rw[aH (by omega) (by omega),dB];rfl) (by simp)]
  have q1:wi s 0 ((n.Nodes.length:Int)-1)=true:=bT.2 (by omega);have q2:wi d 0 ((n.Nodes.length:Int)-1)=true:=bT.2 (by omega);simp[q1,q2]
 have e2:(s==d)=false:=by simpa using hsd
 unfold Ez;simp only[bnd,e1,Option.bind_some,Bool.not_true,cond_false,e2,l1];by_cases h:(jA n s d).length<=200
 ·rw[if_pos h];have e3:decide ((200:Int)<(L.length:Int))=false:=by simp only[decide_eq_false_iff_not];omega
  rw[e3];exact⟨rfl,l2,l3⟩
 ·rw[if_neg h];have e3:decide ((200:Int)<(L.length:Int))=true:=by simp only[decide_eq_true_eq];omega
  rw[e3];rfl
end Vs

namespace Vs
open Go
theorem vP{n:ae}{s d:Int}{D:List Int->List Int->List ah}(hD:∀p q r,r∈D p q->∃t,r.Fibers=p++t)(p q:List Int):∀r∈fu n s d D p q,∃t,r.Fibers=p++t:=by
 intro r hr;unfold fu at hr;split at hr
 ·rw[List.mem_singleton] at hr;subst hr;exact⟨[],by simp⟩
 ·unfold flS at hr;rw[List.mem_flatMap] at hr;obtain⟨i,_,hr⟩:=hr;unfold eG at hr;split at hr
  ·obtain⟨t,ht⟩:=hD _ _ r hr;exact⟨(i:Int)::t,by rw[ht];simp⟩
  ·cases hr
theorem zB{n:ae}{s d:Int}:∀(k:Nat)(p q:List Int),∀r∈kw n s d k p q,∃t,r.Fibers=p++t
 |0,p,q=>vP (fun _ _ _ hr=>by cases hr) p q
 |k+1,p,q=>vP (fun p q r hr=>zB k p q r hr) p q
theorem Bi{n:ae}{s d:Int}{D:List Int->List Int->List ah}(hD:∀p q r,r∈D p q->∃t,r.Fibers=p++t)(hN:∀p q,(D p q).Nodup)(p q:List Int):(fu n s d D p q).Nodup:=by
 unfold fu;split
 ·simp
 ·have gen:∀m,(flS n D (dh q) p q m).Nodup/\∀r∈flS n D (dh q) p q m,∃(j:Nat)(t:List Int),j<m/\r.Fibers=(p++[(j:Int)])++t:=by
   intro m;induction m with
   |zero=>exact⟨by simp[flS],fun r hr=>by simp[flS] at hr⟩
   | succ m ih =>
     obtain⟨i1,i2⟩:=ih;have hs:∀r∈eG n D (dh q) p q m,∃t,r.Fibers=(p++[(m:Int)])++t:=fun r hr=>by
      unfold eG at hr;split at hr
      ·exact hD _ _ r hr
      ·cases hr
     rw[eW];refine⟨?_,fun r hr=>?_⟩
     ·rw[List.nodup_append];refine⟨i1,by unfold eG;split;exact hN _ _;simp,fun a ha b hb e=>?_⟩;obtain⟨j,t,hj,h1⟩:=i2 a ha;obtain⟨t',h2⟩:=hs b hb;rw[e,h2,List.append_assoc,List.append_assoc] at h1;have:=List.append_cancel_left h1;simp only[List.singleton_append,List.cons.injEq] at this;omega
     ·rcases List.mem_append.1 hr with h|h
      ·obtain⟨j,t,hj,h1⟩:=i2 r h;exact⟨j,t,by omega,h1⟩
      ·obtain⟨t,h1⟩:=hs r h;exact⟨m,t,by omega,h1⟩
  exact(gen _).1
theorem Il{n:ae}{s d:Int}:∀(k:Nat)(p q:List Int),(kw n s d k p q).Nodup
 |0,p,q=>Bi (fun _ _ _ hr=>by cases hr) (fun _ _=>List.nodup_nil) p q
 |k+1,p,q=>Bi (fun p q r hr=>zB k p q r hr) (fun p q=>Il k p q) p q
def ja(l:List az)(i:Nat)(x:az):Bool:=!wi x.Reach 1 20000||!wi x.Rate 1 1000||(decide (0<i)&&match l[i-1]? with|some g=>decide (g.Reach<=x.Reach)||decide (x.Rate<=g.Rate)|none=>false)
def jm(l:List az):Bool:=!eN (ja l) l&&wi (l.length:Int) 1 6
theorem JD(l:List az)(hl:l.length<=1048576):Db l=some (jm l):=by
 unfold Db jm;rw[el (f:=Cm l) l (ja l) (.inr false) (.inl ()) (fun i x hx hprev=>by
  have hlt:=(List.getElem?_eq_some_iff.1 hx).1;have h1:decide ((i:Int)<l.length)=true:=by simp[hlt]
  simp only[Cm,h1,cond_true,ba,hx,Option.bind_some,dB];rw[aH (n:=(i:Int)+1) (by omega) (by omega)];unfold ja;by_cases h0:0<i
  ·have e0:decide ((0:Int)<(i:Int))=true:=decide_eq_true (by omega);have ew:IntKind.wrap .i64 ((i:Int)-1)=((i-1:Nat):Int):=by rw[aH (by omega) (by omega)];omega
   have hg:l[i-1]?=some (l[i-1]'(by omega)):=List.getElem?_eq_getElem (by omega);rw[e0,ew,ba,hg,decide_eq_true h0];simp only[cond_true,Option.bind_some,Bool.true_and];cases wi x.Reach 1 20000<;>cases wi x.Rate 1 1000<;>cases decide ((l[i-1]'(by omega)).Reach<=x.Reach)<;>cases decide (x.Rate<=(l[i-1]'(by omega)).Rate)<;>rfl
  ·have e0:decide ((0:Int)<(i:Int))=false:=decide_eq_false (by omega);rw[e0,decide_eq_false h0];cases wi x.Reach 1 20000<;>cases wi x.Rate 1 1000<;>rfl) (by simp[Cm]) (by omega)]
 simp only[dB,Option.bind_some];cases eN (ja l) l<;>rfl
theorem Us(l:List az)(hl:l.length<=1048576):xO l=some (jm l):=by
 unfold xO jm;rw[el (f:=M_i l) (l.take 7) (ja l) (.inr false) (.inl ()) (fun i x hx hprev=>by
  have hlt7:=(List.getElem?_eq_some_iff.1 hx).1;rw[List.length_take] at hlt7;have hlt:i<l.length:=by omega
  rw[List.getElem?_take,if_pos (by omega)] at hx;have h1:decide ((i:Int)<l.length)=true:=by simp[hlt]
  have h2:decide ((i:Int)<=6)=true:=by simp;omega
  simp only[M_i,h1,h2,cond_true,ba,hx,Option.bind_some,gw];rw[aH (n:=(i:Int)+1) (by omega) (by omega)];unfold ja;by_cases h0:0<i
  ·have e0:decide ((0:Int)<(i:Int))=true:=decide_eq_true (by omega);have ew:IntKind.wrap .i64 ((i:Int)-1)=((i-1:Nat):Int):=by rw[aH (by omega) (by omega)];omega
   have hg:l[i-1]?=some (l[i-1]'(by omega)):=List.getElem?_eq_getElem (by omega);rw[e0,ew,ba,hg,decide_eq_true h0];simp only[cond_true,Option.bind_some,Bool.true_and];cases wi x.Reach 1 20000<;>cases wi x.Rate 1 1000<;>cases decide ((l[i-1]'(by omega)).Reach<=x.Reach)<;>cases decide (x.Rate<=(l[i-1]'(by omega)).Rate)<;>rfl
  ·have e0:decide ((0:Int)<(i:Int))=false:=decide_eq_false (by omega);rw[e0,decide_eq_false h0];cases wi x.Reach 1 20000<;>cases wi x.Rate 1 1000<;>rfl) (by
  rw[List.length_take];have:(cond (decide (((min 7 l.length:Nat):Int)<(l.length:Int))) (some (decide (((min 7 l.length:Nat):Int)<=6))) (some false):Option Bool)=some false:=by
   by_cases h:l.length<=7
   ·have:decide (((min 7 l.length:Nat):Int)<(l.length:Int))=false:=by simp only[decide_eq_false_iff_not];omega
    rw[this];rfl
   ·have:decide (((min 7 l.length:Nat):Int)<=6)=false:=by simp only[decide_eq_false_iff_not];omega
    rw[this];cases decide (((min 7 l.length:Nat):Int)<(l.length:Int))<;>rfl
  simp only[M_i,this,Option.bind_some,cond_false]) (by rw[List.length_take];omega)]
 simp only[gw,Option.bind_some];by_cases h:l.length<=7
 ·rw[List.take_of_length_le h];cases eN (ja l) l<;>rfl
 ·have:wi (l.length:Int) 1 6=false:=by
   cases e:wi (l.length:Int) 1 6 with
   |false=>rfl
   |true=>have:=bT.1 e;omega
  rw[this,Bool.and_false];cases eN (ja l) (l.take 7)<;>rfl
theorem ti{l:List az}(h:jm l=true):1<=l.length/\l.length<=6/\∀x∈l,(1<=x.Reach/\x.Reach<=20000)/\1<=x.Rate/\x.Rate<=1000:=by
 unfold jm at h;simp only[Bool.and_eq_true,Bool.not_eq_true',bT] at h;refine⟨by omega,by omega,fun x hx=>?_⟩;obtain⟨i,hi⟩:=List.getElem?_of_mem hx;have:=dr.1 h.1 i x hi;unfold ja at this;simp only[Bool.or_eq_false_iff,Bool.not_eq_false',bT] at this;omega
def eD(l:List az)(len:Int):Nat->Option Nat
 |0=>none
 | k + 1 => match l[k]? with
   |some f=>if len<=f.Reach then some k else eD l len k
   |none=>eD l len k
def nP(f:az)(rate:Int):Int:=Int.tdiv (rate+f.Rate-1) f.Rate
def fy(l:List az)(len rate:Int):Int:=match eD l len l.length with
 | some k => match l[k]? with
   |some f=>if 24<nP f rate then 0 else nP f rate
   |none=>0
 |none=>0
def DL:Option Nat->Int
 |some k=>(k:Int)
 |none=>-1
theorem lp(l:List az)(len:Int):∀(m k:Nat),eD l len m=some k->k<m/\∃f,l[k]?=some f/\len<=f.Reach
 |0,k,h=>by cases h
 | m + 1, k, h => by
   unfold eD at h;cases e:l[m]? with
   | none =>
     rw[e] at h;have:=lp l len m k h;exact⟨by omega,this.2⟩
   | some f =>
     rw[e] at h;simp only at h;split at h
     ·rename_i c;cases h;exact⟨by omega,f,e,c⟩
     ·have:=lp l len m k h;exact⟨by omega,this.2⟩
theorem Np(l:List az)(len:Int)(hl:l.length<=1048576):xz l len=some (DL (eD l len l.length)):=by
 unfold xz;obtain⟨b,b1,b2⟩:=bw (f:=xk l len) (fun s=>∃i:Nat,s=(DL (eD l len i),(i:Int))/\i<=l.length) (fun s=>l.length-s.2.toNat) (fun b=>b=DL (eD l len l.length)) (fun s⟨i,e,hi⟩=>by
  subst e;unfold xk;by_cases h:i<l.length
  ·left;have hf:l[i]?=some l[i]:=List.getElem?_eq_getElem h;have e1:decide ((i:Int)<(l.length:Int))=true:=by simp[h]
   simp only[e1,cond_true,ba,hf,Option.bind_some];rw[aH (by omega) (by omega)];by_cases c:len<=l[i].Reach
   ·rw[decide_eq_true c];exact⟨_,rfl,⟨i+1,by simp only[eD,hf,if_pos c,DL];rfl,by omega⟩,by simp only;omega⟩
   ·rw[decide_eq_false c];exact⟨_,rfl,⟨i+1,by simp only[eD,hf,if_neg c];rfl,by omega⟩,by simp only;omega⟩
  ·right;have:i=l.length:=by omega
   subst this;have e1:decide ((l.length:Int)<(l.length:Int))=false:=by simp
   simp only[e1,cond_false];exact⟨_,rfl,rfl⟩) N0 (-1,0) ⟨0,rfl,by omega⟩ (cB (by simp only;omega))
 rw[b1,b2];rfl
theorem MA(l:List az)(len:Int)(h:jm l=true)(hl:0<=len):JR l len=some (match eD l len l.length with|some k=>((k:Int),true)|none=>(0,false)):=by
 obtain⟨f1,f2,f3⟩:=ti h;unfold JR;rw[JD l (by omega),h];simp only[Option.bind_some,Bool.not_true,cond_false,dB];by_cases h2:len<=20000
 ·rw[show wi len 0 20000=true from bT.2 (by omega)];simp only[Bool.not_true,cond_false];obtain⟨b,b1,b2⟩:=bw (f:=IW l len) (fun s=>∃i:Nat,s=(i:Int)-1/\i<=l.length/\eD l len i=eD l len l.length) (fun s=>(s+1).toNat) (fun b=>b=match eD l len l.length with|some k=>.inr ((k:Int),true)|none=>.inl ()) (fun s⟨i,e,hi,hb⟩=>by
   subst e;unfold IW;cases i with
   | zero =>
     right;rw[<-hb];exact⟨_,by simp;rfl,rfl⟩
   | succ i =>
     have hf:l[i]?=some l[i]:=List.getElem?_eq_getElem (by omega);have e0:((i+1:Nat):Int)-1=(i:Int):=by omega
     have e1:decide (0<=(i:Int))=true:=by simp
     rw[e0,e1,cond_true,ba,hf,Option.bind_some];have hb2:eD l len (i+1)=if len<=l[i].Reach then some i else eD l len i:=by rw[eD,hf]
     rw[hb2] at hb;by_cases c:len<=l[i].Reach
     ·right;rw[if_pos c] at hb;rw[decide_eq_true c];exact⟨_,rfl,by rw[<-hb]⟩
     ·left;rw[if_neg c] at hb;rw[decide_eq_false c];exact⟨_,rfl,⟨i,by rw[aH (by omega) (by omega)],by omega,hb⟩,by rw[aH (by omega) (by omega)];omega⟩) N0 ((l.length:Int)-1) ⟨l.length,rfl,Nat.le_refl _,rfl⟩ (cB (by omega))
  rw[aH (by omega) (by omega),b1,b2];cases eD l len l.length<;>rfl
 ·have e:wi len 0 20000=false:=by
   cases e:wi len 0 20000 with
   |false=>rfl
   |true=>have:=bT.1 e;omega
  rw[e];have hb:eD l len l.length=none:=by
   cases hb:eD l len l.length with
   |none=>rfl
   | some k =>
     obtain⟨_,f,g1,g2⟩:=lp l len l.length k hb;have:=(f3 f (List.mem_of_getElem? g1)).1;omega
  rw[hb];rfl
theorem sR{f:az}{rate:Int}(hf:1<=f.Rate/\f.Rate<=1000)(hr:1<=rate/\rate<=1000):1<=nP f rate/\nP f rate<=2000:=by
 unfold nP;rw[Int.tdiv_eq_ediv_of_nonneg (by omega)];have h1:(rate+f.Rate-1)/f.Rate<=rate+f.Rate-1:=Int.ediv_le_self _ (by omega);have h2:1<=(rate+f.Rate-1)/f.Rate:=by
  rw[Int.le_ediv_iff_mul_le (by omega)];omega
 omega
theorem Fk{l:List az}{len rate:Int}(h:jm l=true)(hr:1<=rate/\rate<=1000):0<=fy l len rate/\fy l len rate<=24:=by
 obtain⟨f1,f2,f3⟩:=ti h;unfold fy;split
 ·split
  ·rename_i f hf;have:=sR (f3 f (List.mem_of_getElem? hf)).2 hr;split<;>omega
  ·omega
 ·omega
theorem QK(l:List az)(len rate:Int)(h:jm l=true)(hr:1<=rate/\rate<=1000):oD l len rate=some (fy l len rate):=by
 obtain⟨f1,f2,f3⟩:=ti h;unfold oD fy;rw[Np l len (by omega),Option.bind_some];cases hb:eD l len l.length with
 |none=>rfl
 | some k =>
   obtain⟨_,f,g1,g2⟩:=lp l len l.length k hb;have hf:=(f3 f (List.mem_of_getElem? g1)).2;have hc:=sR hf hr;have e1:decide (DL (some k)<0)=false:=decide_eq_false (show¬(k:Int)<0 by omega);have e2:bH l (DL (some k))=some f:=by show bH l (k:Int)=some f;rw[ba,g1]
   rw[e1,cond_false,e2];simp only[Option.bind_some,g1];rw[aY (by omega),Option.bind_some,aH (n:=rate+f.Rate) (by omega) (by omega),aH (n:=rate+f.Rate-1) (by omega) (by omega)];show cond (decide (24<IntKind.wrap .i64 (nP f rate))) (some 0) (some (IntKind.wrap .i64 (nP f rate)))=_;rw[aH (by omega) (by omega)];by_cases c:24<nP f rate
   ·rw[decide_eq_true c,if_pos c];rfl
   ·rw[decide_eq_false c,if_neg c];rfl
theorem NQ(l:List az)(len rate:Int)(h:jm l=true)(hl:0<=len)(hr:1<=rate/\rate<=1000):Fr l len rate=some (fy l len rate,decide (0<fy l len rate)):=by
 obtain⟨f1,f2,f3⟩:=ti h;unfold Fr fy;rw[MA l len h hl,Option.bind_some];cases hb:eD l len l.length with
 |none=>rfl
 | some k =>
   obtain⟨_,f,g1,g2⟩:=lp l len l.length k hb;have hf:=(f3 f (List.mem_of_getElem? g1)).2;have hc:=sR hf hr;simp only[Bool.not_true,cond_false,dB,Option.bind_some,show wi rate 1 1000=true from bT.2 hr,ba,g1];rw[aY (by omega),Option.bind_some,aH (n:=rate+f.Rate) (by omega) (by omega),aH (n:=rate+f.Rate-1) (by omega) (by omega)];show cond (decide (24<IntKind.wrap .i64 (nP f rate))) (some (0,false)) (some (IntKind.wrap .i64 (nP f rate),true))=_;rw[aH (by omega) (by omega)];by_cases c:24<nP f rate
   ·rw[decide_eq_true c,if_pos c];rfl
   ·rw[decide_eq_false c,if_neg c,decide_eq_true (show 0<nP f rate by omega)];rfl
end Vs

namespace Vs
open Go
def uY(n:ae)(d:aK):Bool:=wi d.From 0 ((n.Nodes.length:Int)-1)&&(wi d.To 0 ((n.Nodes.length:Int)-1)&&((d.From !=d.To)&&(wi d.Rate 1 1000&&wi d.Class 0 2)))
theorem Oe(n:ae)(d:aK)(hN:n.Nodes.length<=1048576):Kh n d=some (uY n d):=by
 unfold Kh uY;rw[aH (by omega) (by omega)];simp only[dB,Option.bind_some];cases wi d.From 0 ((n.Nodes.length:Int)-1)<;>cases wi d.To 0 ((n.Nodes.length:Int)-1)<;>cases(d.From !=d.To)<;>cases wi d.Rate 1 1000<;>cases wi d.Class 0 2<;>rfl
theorem Vg(n:ae)(d:aK)(hN:n.Nodes.length<=1048576):xr n d=some (uY n d):=by
 unfold xr uY;rw[aH (by omega) (by omega)];simp only[gw,Option.bind_some];cases wi d.From 0 ((n.Nodes.length:Int)-1)<;>cases wi d.To 0 ((n.Nodes.length:Int)-1)<;>cases(d.From !=d.To)<;>cases wi d.Rate 1 1000<;>cases wi d.Class 0 2<;>rfl
theorem VX(xs:List aK)(f:aK->Option Bool)(p:aK->Bool)(hf:∀x∈xs,f x=some (p x))(hl:xs.length<=1048576):HO xs f=some (xs.any p):=by
 unfold HO Qd;rw[da (f:=CG xs f) xs (fun _ x=>p x) (fun i _=>(i:Int)) () (fun i x hx _=>by
  have hlt:=(List.getElem?_eq_some_iff.1 hx).1;have h1:decide ((i:Int)<xs.length)=true:=by simp[hlt]
  simp only[CG,h1,cond_true,ba,hx,hf x (List.mem_of_getElem? hx),Option.bind_some];rw[aH (by omega) (by omega)];cases p x<;>rfl) (by simp[CG]) (by omega)]
 rw[<-oy];cases e:cC (fun _ x=>p x) xs with
 | none =>
   have h:eN (fun _ x=>p x) xs=false:=dr.2 (ed.1 e);rw[h];rfl
 | some q =>
   obtain⟨i,x⟩:=q;obtain⟨h1,h2,_⟩:=cL.1 e;have h:eN (fun _ x=>p x) xs=true:=gC.2 ⟨i,x,h1,h2⟩;rw[h];simp
theorem Ky(n:ae)(d:aK)(hz:bJ n<=1048576):EY n [d]=some (br n&&uY n d):=by
 unfold EY;rw[ee n hz,Option.bind_some];cases hn:br n with
 |false=>rfl
 | true =>
   have hN:=cI hn;rw[VX [d] _ (fun d=>!uY n d) (fun x _=>by
    unfold Nd;rw[Oe n x (by omega)];rfl) (by simp)]
   simp
def usF(n:ae)(l:List az)(rate:Int)(r:ah):Option aD:=if 0<fy l (dl n r) rate then some ⟨r,fy l (dl n r) rate⟩ else none
def usG(n:ae)(l:List az)(rate:Int)(_:Nat)(r:ah)(a:List aD):List aD:=if 0<fy l (dl n r) rate then a++[⟨r,fy l (dl n r) rate⟩] else a
theorem zQ(n:ae)(l:List az)(rate:Int):∀(L:List ah)(k:Nat)(a:List aD),gS (usG n l rate) k L a=a++L.filterMap (usF n l rate)
 |[],_,a=>by simp[gS]
 | r :: L, k, a => by
   simp only[gS];rw[zQ n l rate L,List.filterMap_cons];unfold usG usF;by_cases c:0<fy l (dl n r) rate
   ·simp[c]
   ·simp[c]
def usH(n:ae)(l:List az)(rate:Int)(_:Nat)(r:ah)(a:List ah×List Int):List ah×List Int:=if 0<fy l (dl n r) rate then(a.1++[r],a.2++[fy l (dl n r) rate]) else a
theorem uV(n:ae)(l:List az)(rate:Int):∀(L:List ah)(k:Nat)(a:List ah×List Int),gS (usH n l rate) k L a=(a.1++(L.filterMap (usF n l rate)).map (·.route),a.2++(L.filterMap (usF n l rate)).map (·.count))
 |[],_,a=>by simp[gS]
 | r :: L, k, a => by
   simp only[gS];rw[uV n l rate L,List.filterMap_cons];unfold usH usF;by_cases c:0<fy l (dl n r) rate
   ·simp[c]
   ·simp[c]
structure te(n:ae)(s:Int)(cs:List aD):Prop where
 net:br n=true
 len:cs.length<=200
 ok:∀c∈cs,RtV n s c.route/\0<=c.count/\c.count<=24
 srt:cs.Pairwise fun a b=>dV n a.route b.route<0
theorem FC(n:ae)(d:aK)(fs:List az)(hz:bJ n<=1048576)(hf:fs.length<=1048576):
 ∃ok cs,FI n d fs=some (ok,cs,fs)/\uJ n 0 fs.length d fs=some (ok,cs.map (·.route),cs.map (·.count),fs)/\(ok=true->te n d.From cs):=by
 unfold FI uJ;simp only[JD fs hf,Us fs hf,bnd,dL,jQ n hz,Ky n d hz,Option.bind_some];cases hn:br n with
 | false =>
   refine⟨false,[],?_,rfl,fun h=>by cases h⟩;cases jm fs<;>rfl
 | true =>
   have hN:=cI hn;rw[Vg n d (by omega)];cases hfo:jm fs with
   |false=>exact⟨false,[],rfl,rfl,fun h=>by cases h⟩
   | true =>
     cases hd:uY n d with
     |false=>exact⟨false,[],rfl,rfl,fun h=>by cases h⟩
     | true =>
       unfold uY at hd;simp only[Bool.and_eq_true,bT,bne_iff_ne] at hd;obtain⟨d1,d2,d3,d4,_⟩:=hd;have hs:0<=d.From/\d.From<(n.Nodes.length:Int):=by omega
       have ht:0<=d.To/\d.To<(n.Nodes.length:Int):=by omega
       obtain⟨L1,a⟩:=JZ hn hz d3 hs ht;obtain⟨L2,b⟩:=Va hn d3 hs;unfold BS;simp only[Bool.not_true,cond_false,Bool.and_self,Option.bind_some];by_cases hc:(jA n d.From d.To).length<=200
       ·rw[if_pos hc] at a b;obtain⟨a1,a2,a3⟩:=a;obtain⟨b1,b2,b3⟩:=b;have e:L1=L2:=zl L1 L2 (a2.trans b2.symm) a3 b3;subst e;have hll:=a2.length_eq;have hok:∀r∈L1,RtV n d.From r:=fun r hr=>oO hn d3 hs _ _ _ (Ni hn hs) r (a2.mem_iff.1 hr);have hnd:L1.Nodup:=a2.nodup_iff.2 (Il _ _ _);have hlt:L1.Pairwise fun a b=>dV n a b<0:=by
         have:=List.Pairwise.and a3 hnd;refine this.imp fun{x y} h=>?_;rcases qo h.1 with h1|h1
         ·exact h1
         ·exact absurd h1.symm h.2
        rw[a1,b1];simp only[Bool.not_true,cond_false,Option.bind_some];have i1:=kR (f:=DG n d fs (L1,true)) L1 (fun i(a:List aD)=>((i:Int),a)) (usG n fs d.Rate) id (fun i a=>a.length<=i) (fun i a r hx hI=>by
         have hlt:=(List.getElem?_eq_some_iff.1 hx).1;have hr:=(hok r (List.mem_of_getElem? hx)).b;have h1:decide ((i:Int)<L1.length)=true:=by simp[hlt]
         refine⟨by unfold usG;split<;>(try simp only[List.length_append,List.length_cons,List.length_nil])<;>omega,?_⟩;simp only[DG,h1,cond_true,Int.toNat_natCast,hx,Option.bind_some];rw[aY ⟨by omega,by omega⟩,Option.bind_some,kO hr,Option.bind_some,NQ fs _ _ hfo (sP hn hr).1 d4,aH (by omega) (by omega)];simp only[Option.bind_some,bnd];unfold usG;by_cases c:0<fy fs (dl n r) d.Rate
         ·rw[decide_eq_true c,cond_true,aY (by omega),Option.bind_some,if_pos c];rfl
         ·rw[decide_eq_false c,cond_false,if_neg c];rfl) (fun a _=>by simp[DG]) [] (by simp) (by omega)
        have i2:=kR (f:=M_q n 0 fs.length d fs (true,L1)) L1 (fun i(a:List ah×List Int)=>((i:Int),a.1,a.2)) (usH n fs d.Rate) id (fun i a=>a.1.length<=i/\a.2.length<=i) (fun i a r hx hI=>by
         have hlt:=(List.getElem?_eq_some_iff.1 hx).1;have hr:=(hok r (List.mem_of_getElem? hx)).b;have h1:decide ((i:Int)<L1.length)=true:=by simp[hlt]
         refine⟨by unfold usH;split<;>(try simp only[List.length_append,List.length_cons,List.length_nil])<;>omega,?_⟩;simp only[M_q,h1,cond_true,Int.toNat_natCast,hx,Option.bind_some];rw[aY ⟨by omega,by omega⟩,Option.bind_some,dD hr,Option.bind_some];simp only[bnd,dL];rw[QK fs _ _ hfo d4,aH (by omega) (by omega)];simp only[Option.bind_some];unfold usH;by_cases c:0<fy fs (dl n r) d.Rate
         ·rw[decide_eq_true c,cond_true,aY (by omega),Option.bind_some,aY (by omega),Option.bind_some,if_pos c];rfl
         ·rw[decide_eq_false c,cond_false,if_neg c];rfl) (fun a _=>by simp[M_q]) ([],[]) (by simp) (by omega)
        have e0:((0:Nat):Int)=0:=rfl;simp only[e0,id] at i1 i2;rw[i1,i2,zQ,uV];refine⟨true,L1.filterMap (usF n fs d.Rate),by simp,by simp,fun _=>⟨hn,?_,fun c hc=>?_,?_⟩⟩
        ·have:=List.length_filterMap_le (usF n fs d.Rate) L1;omega
        ·rw[List.mem_filterMap] at hc;obtain⟨r,hr,h1⟩:=hc;unfold usF at h1;split at h1
         ·cases h1;have:=Fk (l:=fs) (len:=dl n r) hfo d4;exact⟨hok r hr,this⟩
         ·cases h1
        ·rw[List.pairwise_filterMap];refine hlt.imp fun{x y} h b hb b' hb'=>?_;unfold usF at hb hb';split at hb
         ·split at hb'
          ·cases hb;cases hb';exact h
          ·cases hb'
         ·cases hb
       ·rw[if_neg hc] at a b;rw[a,b];exact⟨false,[],rfl,rfl,fun h=>by cases h⟩
end Vs

namespace Vs
open Go
theorem wS{n:ae}{x y:Int}(h:lW n x y):lW n y x:=by
 rcases h with h|⟨h1,h2⟩
 ·exact .inl h.symm
 ·exact .inr ⟨fun e=>h1 (by rw[h2,e]),h2.symm⟩
theorem zk{n:ae}{a b:List Int}(ha:∀x∈a,iw n x)(hb:∀x∈b,iw n x):apP n a b=apP n b a:=by
 have key:∀{a b:List Int},(∀x∈a,iw n x)->(∀x∈b,iw n x)->apP n a b=false->apP n b a=false:=fun{a b} ha hb h=>by
  unfold apP at h⊢;rw[Bool.not_eq_false',List.any_eq_true] at h⊢;obtain⟨x,h1,h2⟩:=h;rw[List.any_eq_true] at h2;obtain⟨y,h3,h4⟩:=h2;refine⟨y,h3,List.any_eq_true.2 ⟨x,h1,?_⟩⟩;rw[decide_eq_true_eq] at h4⊢;exact(lS (ha x h1)).2 (wS ((lS (hb y h3)).1 h4))
 cases h:apP n a b with
 |false=>exact(key ha hb h).symm
 | true =>
   cases h':apP n b a with
   |true=>rfl
   |false=>rw[key hb ha h'] at h;cases h
def cst(c:aD):Int:=c.count*(c.route.Fibers.length:Int)
def cN(cs:List aD)(i:Nat):Int:=match cs[i]? with|some c=>cst c|none=>0
def apN(n:ae)(cs:List aD)(i k:Nat):Bool:=match cs[i]?,cs[k]? with|some a,some b=>apP n a.route.Fibers b.route.Fibers|_,_=>false
structure Al(n:ae)(cs:List aD)(j l:Nat):Prop where
 hj:j<cs.length
 hl:l<cs.length
 ne:j≠l
 c:cN cs j<cN cs l\/cN cs j=cN cs l/\j<l
 a:apN n cs j l=true
def kv(cs:List aD)(j l i k:Nat):Prop:=cN cs j+cN cs l<cN cs i+cN cs k\/(cN cs j+cN cs l=cN cs i+cN cs k/\(j<i\/j=i/\l<k))
instance(cs:List aD)(j l i k:Nat):Decidable (kv cs j l i k):=by unfold kv;infer_instance
def IsB(n:ae)(cs:List aD)(S:Nat->Nat->Prop):Option (Nat×Nat)->Prop
 |none=>∀j l,S j l->¬Al n cs j l
 |some q=>S q.1 q.2/\Al n cs q.1 q.2/\∀j l,S j l->Al n cs j l->¬kv cs j l q.1 q.2
theorem Hd{n:ae}{cs:List aD}{b b':Option (Nat×Nat)}(h:IsB n cs (fun _ _=>True) b)(h':IsB n cs (fun _ _=>True) b'):b=b':=by
 cases b with
 | none => cases b' with
   |none=>rfl
   |some q=>exact(h q.1 q.2 trivial h'.2.1).elim
 | some p => cases b' with
   |none=>exact(h' p.1 p.2 trivial h.2.1).elim
   | some q =>
     obtain⟨a,b⟩:=p;obtain⟨x,y⟩:=q;have h1:=h.2.2 x y trivial h'.2.1;have h2:=h'.2.2 a b trivial h.2.1;unfold kv at h1 h2;simp only at h1 h2;have e1:a=x:=by omega
     have e2:b=y:=by omega
     rw[e1,e2]
theorem fI{n:ae}{cs:List aD}{S S':Nat->Nat->Prop}{b:Option (Nat×Nat)}(h:IsB n cs S b)(h1:∀j l,S j l->S' j l)(h2:∀j l,S' j l->Al n cs j l->S j l):IsB n cs S' b:=by
 cases b with
 |none=>exact fun j l hs ha=>h j l (h2 j l hs ha) ha
 |some q=>exact⟨h1 _ _ h.1,h.2.1,fun j l hs ha=>h.2.2 j l (h2 j l hs ha) ha⟩
theorem nX{n:ae}{cs:List aD}{S S':Nat->Nat->Prop}{b:Option (Nat×Nat)}(h:IsB n cs S b){i k:Nat}(hal:Al n cs i k)(hS:∀j l,Al n cs j l->(S' j l↔S j l\/(j=i/\l=k))):
 (∀q,b=some q->kv cs i k q.1 q.2)->IsB n cs S' (some (i,k)):=by
 intro hp;refine⟨(hS i k hal).2 (.inr ⟨rfl,rfl⟩),hal,fun j l hs ha=>?_⟩;rcases(hS j l ha).1 hs with h1|⟨rfl,rfl⟩
 ·cases b with
  |none=>exact(h j l h1 ha).elim
  | some q =>
    have a1:=h.2.2 j l h1 ha;have a2:=hp q rfl;unfold kv at*
    simp only at*
    omega
 ·unfold kv;simp only;omega
theorem wc{n:ae}{cs:List aD}{S S':Nat->Nat->Prop}{q:Nat×Nat}(h:IsB n cs S (some q)){i k:Nat}(hS:∀j l,Al n cs j l->(S' j l↔S j l\/(j=i/\l=k)))(hp:¬kv cs i k q.1 q.2):IsB n cs S' (some q):=by
 refine⟨(hS _ _ h.2.1).2 (.inl h.1),h.2.1,fun j l hs ha=>?_⟩;rcases(hS j l ha).1 hs with h1|⟨rfl,rfl⟩
 ·exact h.2.2 j l h1 ha
 ·exact hp
def dZ(cs:List aD):Option (Nat×Nat)->Int×Int×Int
 |none=>(-1,-1,0)
 |some q=>((q.1:Int),(q.2:Int),cN cs q.1+cN cs q.2)
theorem fW{n:ae}{s:Int}{cs:List aD}(h:te n s cs){i:Nat}{c:aD}(hc:cs[i]?=some c):0<=cst c/\cst c<=480:=by
 obtain⟨h1,h2,h3⟩:=h.ok c (List.mem_of_getElem? hc);have hl:=h1.b.1;unfold cst;have a:=Int.mul_nonneg h2 (Int.natCast_nonneg c.route.Fibers.length);have b:c.count*(c.route.Fibers.length:Int)<=24*20:=Int.mul_le_mul h3 (by omega) (by omega) (by omega);omega
theorem nZ{n:ae}{s:Int}{cs:List aD}(h:te n s cs){i:Nat}{c:aD}(hc:cs[i]?=some c):c.route.Fibers.length<=20/\∀x∈c.route.Fibers,iw n x:=by
 obtain⟨h1,_⟩:=h.ok c (List.mem_of_getElem? hc);exact⟨h1.b.1,h1.b.2.1⟩
theorem Ir{n:ae}{s:Int}{cs:List aD}(h:te n s cs):∃b,wV n (cs.map (·.route)) (cs.map (·.count))=some ((dZ cs b).1,(dZ cs b).2.1)/\IsB n cs (fun _ _=>True) b:=by
 have h2:=h.len;have hF:=(cI h.net).2.2;unfold wV;have inner:∀(i:Nat)(hi:i<cs.length)(b:Option (Nat×Nat)),IsB n cs (fun j _=>j<i) b->∃b',bz (M_n n (cs.map (·.route)) (cs.map (·.count)) ((dZ cs b).1,(dZ cs b).2.1,(dZ cs b).2.2,(i:Int))) N0 ((dZ cs b).1,(dZ cs b).2.1,(dZ cs b).2.2,0)=some ((dZ cs b').1,(dZ cs b').2.1,(dZ cs b').2.2)/\IsB n cs (fun j _=>j<i+1) b':=by
  intro i hi b hb;have hci:cs[i]?=some cs[i]:=List.getElem?_eq_getElem hi;generalize cs[i]=x at hci;obtain⟨o,o1,o2⟩:=bw (f:=M_n n (cs.map (·.route)) (cs.map (·.count)) ((dZ cs b).1,(dZ cs b).2.1,(dZ cs b).2.2,(i:Int))) (fun t=>∃(k:Nat)(b':Option (Nat×Nat)),t=((dZ cs b').1,(dZ cs b').2.1,(dZ cs b').2.2,(k:Int))/\k<=cs.length/\IsB n cs (fun j l=>j<i\/(j=i/\l<k)) b') (fun t=>cs.length-t.2.2.2.toNat)
   (fun o=>∃b',o=((dZ cs b').1,(dZ cs b').2.1,(dZ cs b').2.2)/\IsB n cs (fun j _=>j<i+1) b') (fun t⟨k,b',e,hk,hB⟩=>by
   subst e;unfold M_n;by_cases hkl:k<cs.length
   ·left;have hck:cs[k]?=some cs[k]:=List.getElem?_eq_getElem hkl;generalize cs[k]=y at hck;have e1:decide ((k:Int)<((cs.map (·.route)).length:Int))=true:=by simp;omega
    have m1:(cs.map (·.count))[i]?=some x.count:=by rw[List.getElem?_map,hci];rfl
    have m2:(cs.map (·.route))[i]?=some x.route:=by rw[List.getElem?_map,hci];rfl
    have m3:(cs.map (·.count))[k]?=some y.count:=by rw[List.getElem?_map,hck];rfl
    have m4:(cs.map (·.route))[k]?=some y.route:=by rw[List.getElem?_map,hck];rfl
    have hx:=fW h hci;have hy:=fW h hck;obtain⟨fx1,fx2⟩:=nZ h hci;obtain⟨fy1,fy2⟩:=nZ h hck;have hcx:cN cs i=cst x:=by unfold cN;rw[hci]
    have hcy:cN cs k=cst y:=by unfold cN;rw[hck]
    have hap:apN n cs i k=apP n x.route.Fibers y.route.Fibers:=by unfold apN;rw[hci,hck]
    have wx:IntKind.wrap .i64 (x.count*(x.route.Fibers.length:Int))=cst x:=aH (by unfold cst at hx;omega) (by unfold cst at hx;omega);have wy:IntKind.wrap .i64 (y.count*(y.route.Fibers.length:Int))=cst y:=aH (by unfold cst at hy;omega) (by unfold cst at hy;omega);have wxy:IntKind.wrap .i64 (cst x+cst y)=cst x+cst y:=aH (by omega) (by omega);have wk:IntKind.wrap .i64 ((k:Int)+1)=((k+1:Nat):Int):=by rw[aH (by omega) (by omega)];rfl
    simp only[e1,cond_true,ba,m1,m2,m3,m4,Option.bind_some,wx,wy,wxy,wk,ic n x.route y.route hF (by omega) (by omega) fx2];have hS:∀j l,Al n cs j l->((j<i\/(j=i/\l<k+1))↔(j<i\/(j=i/\l<k))\/(j=i/\l=k)):=fun j l _=>by omega
    have hbad:∀c:Bool,(cond ((i:Int)==(k:Int)) (some true) (cond (decide (cst y<cst x)) (some true) (cond (cst x==cst y) (cond (decide ((k:Int)<(i:Int))) (some true) (some (!c))) (some (!c)))):Option Bool)=some (!(decide (i≠k/\(cst x<cst y\/cst x=cst y/\i<k))&&c)):=fun c=>by
     by_cases c1:i=k
     ·subst c1;simp
     ·have:((i:Int)==(k:Int))=false:=by simp;omega
      rw[this,cond_false];by_cases c2:cst y<cst x
      ·have h9:¬(i≠k/\(cst x<cst y\/cst x=cst y/\i<k)):=by omega
       rw[decide_eq_true c2,decide_eq_false h9];rfl
      ·rw[decide_eq_false c2,cond_false];by_cases c3:cst x=cst y
       ·have:(cst x==cst y)=true:=by simpa using c3
        rw[this,cond_true];by_cases c4:k<i
        ·have h9:¬(i≠k/\(cst x<cst y\/cst x=cst y/\i<k)):=by omega
         rw[decide_eq_true (show(k:Int)<(i:Int) by omega),decide_eq_false h9];rfl
        ·have h9:(i≠k/\(cst x<cst y\/cst x=cst y/\i<k)):=by omega
         rw[decide_eq_false (show¬(k:Int)<(i:Int) by omega),decide_eq_true h9];rfl
       ·have:(cst x==cst y)=false:=by simpa using c3
        have h9:(i≠k/\(cst x<cst y\/cst x=cst y/\i<k)):=by omega
        rw[this,cond_false,decide_eq_true h9];rfl
    rw[hbad];simp only[Option.bind_some];have hal:(decide (i≠k/\(cst x<cst y\/cst x=cst y/\i<k))&&apP n x.route.Fibers y.route.Fibers)=true↔Al n cs i k:=by
     rw[Bool.and_eq_true,decide_eq_true_eq];constructor
     ·rintro⟨⟨q1,q2⟩,q3⟩;exact⟨hi,hkl,q1,by rw[hcx,hcy];exact q2,by rw[hap];exact q3⟩
     ·intro q;have:=q.c;rw[hcx,hcy] at this;exact⟨⟨q.ne,this⟩,by rw[<-hap];exact q.a⟩
    by_cases ha:Al n cs i k
    ·rw[hal.2 ha];simp only[Bool.not_true,cond_false];cases b' with
     | none =>
       have e3:decide ((dZ cs none).1<0)=true:=by simp[dZ]
       rw[e3];simp only[cond_true,Option.bind_some];refine⟨_,rfl,⟨k+1,some (i,k),by simp only[dZ,hcx,hcy],by omega,nX hB ha hS fun q hq=>by cases hq⟩,by simp only;omega⟩
     | some q =>
       have e3:decide ((dZ cs (some q)).1<0)=false:=decide_eq_false (show¬(q.1:Int)<0 by omega);rw[e3];simp only[cond_false,Option.bind_some];have hq:=hB.1;have e4:decide (cst x+cst y<(dZ cs (some q)).2.2)=decide (kv cs i k q.1 q.2):=by
        have hq':q.1<i\/(q.1=i/\q.2<k):=hq;have h7:kv cs i k q.1 q.2↔cst x+cst y<cN cs q.1+cN cs q.2:=by
         unfold kv;rw[hcx,hcy];constructor
         ·rintro(h|⟨h,h'⟩)
          ·exact h
          ·omega
         ·exact fun h=>.inl h
        rw[Bool.eq_iff_iff,decide_eq_true_eq,decide_eq_true_eq,h7];exact Iff.rfl
       rw[e4];by_cases c:kv cs i k q.1 q.2
       ·rw[decide_eq_true c];exact⟨_,rfl,⟨k+1,some (i,k),by simp only[dZ,hcx,hcy],by omega,nX hB ha hS fun q' hq'=>by cases hq';exact c⟩,by simp only;omega⟩
       ·rw[decide_eq_false c];exact⟨_,rfl,⟨k+1,some q,rfl,by omega,wc hB hS c⟩,by simp only;omega⟩
    ·have:(decide (i≠k/\(cst x<cst y\/cst x=cst y/\i<k))&&apP n x.route.Fibers y.route.Fibers)=false:=by
      cases e:(decide (i≠k/\(cst x<cst y\/cst x=cst y/\i<k))&&apP n x.route.Fibers y.route.Fibers) with
      |false=>rfl
      |true=>exact absurd (hal.1 e) ha
     rw[this];simp only[Bool.not_false,cond_true];refine⟨_,rfl,⟨k+1,b',rfl,by omega,fI hB (fun j l hs=>by omega) fun j l hs ha'=>?_⟩,by simp only;omega⟩;rcases(hS j l ha').1 hs with h1|⟨rfl,rfl⟩
     ·exact h1
     ·exact absurd ha' ha
   ·right;have:k=cs.length:=by omega
    subst this;have e1:decide ((cs.length:Int)<((cs.map (·.route)).length:Int))=false:=by simp
    simp only[e1,cond_false];exact⟨_,rfl,b',rfl,fI hB (fun j l hs=>by omega) fun j l hs ha=>by have:=ha.hl;omega⟩) N0 ((dZ cs b).1,(dZ cs b).2.1,(dZ cs b).2.2,0) ⟨0,b,rfl,by omega,fI hb (fun j l hs=>.inl hs) fun j l hs _=>by omega⟩ (cB (by simp only;omega))
  obtain⟨b',e,hB⟩:=o2;exact⟨b',by rw[o1,e],hB⟩
 obtain⟨o,o1,o2⟩:=bw (f:=ye n (cs.map (·.route)) (cs.map (·.count))) (fun t=>∃(i:Nat)(b:Option (Nat×Nat)),t=((dZ cs b).1,(dZ cs b).2.1,(dZ cs b).2.2,(i:Int))/\i<=cs.length/\IsB n cs (fun j _=>j<i) b) (fun t=>cs.length-t.2.2.2.toNat)
  (fun o=>∃b,o=((dZ cs b).1,(dZ cs b).2.1)/\IsB n cs (fun _ _=>True) b) (fun t⟨i,b,e,hi,hB⟩=>by
  subst e;unfold ye;by_cases hil:i<cs.length
  ·left;have e1:decide ((i:Int)<((cs.map (·.route)).length:Int))=true:=by simp;omega
   obtain⟨b',c1,c2⟩:=inner i hil b hB;simp only[e1,cond_true];rw[c1];simp only[Option.bind_some];rw[aH (by omega) (by omega)];exact⟨_,rfl,⟨i+1,b',rfl,by omega,c2⟩,by simp only;omega⟩
  ·right;have:i=cs.length:=by omega
   subst this;have e1:decide ((cs.length:Int)<((cs.map (·.route)).length:Int))=false:=by simp
   simp only[e1,cond_false];exact⟨_,rfl,b,rfl,fI hB (fun j l hs=>trivial) fun j l _ ha=>ha.hj⟩) N0 (-1,-1,0,0) ⟨0,none,rfl,by omega,fun j l hs=>by omega⟩ (cB (by simp only;omega))
 obtain⟨b,e,hB⟩:=o2;exact⟨b,by rw[o1,e];rfl,hB⟩
end Vs

namespace Vs
open Go
def zc:aD:=⟨⟨0,[]⟩,0⟩
def atC(cs:List aD)(i:Nat):aD:=(cs[i]?).getD zc
def dp(cs:List aD):Option (Nat×Nat)->Bool×aD×aD
 |none=>(false,zc,zc)
 |some q=>(true,atC cs q.1,atC cs q.2)
theorem Ru(a b:Int):mB [a,b]=some (if a≠0 then a else b):=by
 unfold mB;have key:=da (f:=M_k [a,b]) [a,b] (fun _ x=>x !=0) (fun _ x=>x) () (fun i x hx _=>by
  have hlt:=(List.getElem?_eq_some_iff.1 hx).1;have h1:decide ((i:Int)<([a,b].length:Nat))=true:=decide_eq_true (by omega);simp only[List.length_cons,List.length_nil] at hlt;simp only[M_k,h1,cond_true,ba,hx,Option.bind_some];rw[aH (by omega) (by omega)];cases x !=0<;>rfl) (by simp[M_k]) (by simp)
 rw[key];unfold cC;simp only[List.zipIdx_cons,List.zipIdx_nil,List.find?_cons,List.find?_nil];by_cases h1:a=0
 ·by_cases h2:b=0
  ·simp[h1,h2]
  ·have:(b !=0)=true:=bne_iff_ne.2 h2;simp[h1,this]
 ·have:(a !=0)=true:=bne_iff_ne.2 h1;simp[h1,this]
theorem Ae{n:ae}{s:Int}{cs:List aD}(h:te n s cs){i k:Nat}{x y:aD}(hx:cs[i]?=some x)(hy:cs[k]?=some y):(dV n x.route y.route<0↔i<k)/\(dV n x.route y.route=0↔i=k):=by
 obtain⟨hi,ei⟩:=List.getElem?_eq_some_iff.1 hx;obtain⟨hk,ek⟩:=List.getElem?_eq_some_iff.1 hy;have hp:=List.pairwise_iff_getElem.1 h.srt;have hn:=gD n x.route y.route;rcases Nat.lt_trichotomy i k with c|c|c
 ·have:=hp i k hi hk c;rw[ei,ek] at this;omega
 ·subst c;rw[hx] at hy;cases hy;omega
 ·have:=hp k i hk hi c;rw[ei,ek] at this;omega
theorem kb{n:ae}{s:Int}{cs:List aD}(h:te n s cs){i:Nat}{c:aD}(hc:cs[i]?=some c):M_l c=some (cst c):=by
 have:=fW h hc;unfold M_l;rw[aH (by unfold cst at this;omega) (by unfold cst at this;omega)];rfl
theorem VI{n:ae}{s:Int}{cs:List aD}(h:te n s cs){i:Nat}{c:aD}(hc:cs[i]?=some c):c.route.Fibers.length<=12:=by
 obtain⟨h1,_⟩:=h.ok c (List.mem_of_getElem? hc);obtain⟨l,hl⟩:=Option.isSome_iff_exists.1 h1.v;exact(gE h.net hl).1.len
theorem EI{n:ae}{s:Int}{cs:List aD}(h:te n s cs){f g:Nat}{x y:aD}(hx:cs[f]?=some x)(hy:cs[g]?=some y)(b:Option (Nat×Nat))(hb:∀q,b=some q->q.1<cs.length/\q.2<cs.length):
 ((M_l x).bind fun rZ18=>(M_l y).bind fun rZ19=>(M_l (dp cs b).2.1).bind fun rZ20=>(M_l (dp cs b).2.2).bind fun rZ21=>(M_m (IntKind.wrap .i64 (rZ18+rZ19)) (IntKind.wrap .i64 (rZ20+rZ21))).bind fun rZ22=>bnd ([rZ22,0]) fun lZ23=>(mB lZ23).bind fun rZ27=>((cond ((dp cs b).1) (some (rZ27==0)) (some false):Option Bool).bind fun oZ29=>cond (oZ29) ((tt n x.route (dp cs b).2.1.route).bind fun rZ31=>(tt n y.route (dp cs b).2.2.route).bind fun rZ32=>bnd ([rZ31,rZ32]) fun lZ33=>(mB lZ33).bind fun rZ37=>some rZ37) (some rZ27):Option Int).bind fun oZ38=>(cond (!(dp cs b).1) (some true) (some (decide (oZ38<0))):Option Bool))=some (match b with|none=>true|some q=>decide (kv cs f g q.1 q.2)):=by
 have rx:=fW h hx;have ry:=fW h hy;rw[kb h hx,kb h hy];simp only[Option.bind_some];cases b with
 | none =>
   have e0:M_l zc=some 0:=rfl;simp only[dp,e0,Option.bind_some,wg,bnd,Ru,cond_false,Bool.not_false,cond_true]
 | some q =>
   obtain⟨q1,q2⟩:=hb q rfl;have h1:cs[q.1]?=some (atC cs q.1):=by unfold atC;rw[List.getElem?_eq_getElem q1];rfl
   have h2:cs[q.2]?=some (atC cs q.2):=by unfold atC;rw[List.getElem?_eq_getElem q2];rfl
   generalize atC cs q.1=u at h1;generalize atC cs q.2=v at h2;have hu:(dp cs (some q))=(true,u,v):=by
    show(true,(cs[q.1]?).getD zc,(cs[q.2]?).getD zc)=_;rw[h1,h2];rfl
   have ru:=fW h h1;have rv:=fW h h2;have bx:=(h.ok x (List.mem_of_getElem? hx)).1.b;have by':=(h.ok y (List.mem_of_getElem? hy)).1.b;have bu:=(h.ok u (List.mem_of_getElem? h1)).1.b;have bv:=(h.ok v (List.mem_of_getElem? h2)).1.b;obtain⟨i1,i2⟩:=Ae h hx h1;obtain⟨i3,i4⟩:=Ae h hy h2;rw[hu];simp only[kb h h1,kb h h2,Option.bind_some,cond_true,Bool.not_true,cond_false];rw[aH (n:=cst x+cst y) (by omega) (by omega),aH (n:=cst u+cst v) (by omega) (by omega)];simp only[wg,bnd,Ru,Option.bind_some];have e:(if cT (cst x+cst y) (cst u+cst v)≠0 then cT (cst x+cst y) (cst u+cst v) else 0)=cT (cst x+cst y) (cst u+cst v):=by
    split<;>omega
   rw[e];have hc:kv cs f g q.1 q.2↔cst x+cst y<cst u+cst v\/(cst x+cst y=cst u+cst v/\(f<q.1\/f=q.1/\g<q.2)):=by
    unfold kv cN;rw[hx,hy,h1,h2]
   by_cases c:cst x+cst y=cst u+cst v
   ·have e2:(cT (cst x+cst y) (cst u+cst v)==0)=true:=by rw[beq_iff_eq];exact ca.2 c
    rw[e2,cond_true,fQ bx bu];simp only[Option.bind_some];rw[fQ by' bv];simp only[Option.bind_some];congr 1;rw[Bool.eq_iff_iff,decide_eq_true_eq,decide_eq_true_eq,hc];split
    ·omega
    ·omega
   ·have e2:(cT (cst x+cst y) (cst u+cst v)==0)=false:=by
     cases e3:(cT (cst x+cst y) (cst u+cst v)==0) with
     |false=>rfl
     |true=>exact absurd (ca.1 (by simpa using e3)) c
    rw[e2,cond_false];simp only[Option.bind_some];congr 1;rw[Bool.eq_iff_iff,decide_eq_true_eq,decide_eq_true_eq,hc,fH];omega
def SI(i k:Nat)(j l:Nat):Prop:=j<i\/l<i\/(j=i/\l<k)\/(l=i/\j<k)
theorem Pz{n:ae}{s:Int}{cs:List aD}(h:te n s cs)(fs:List az):∃b,bz (M_w n (true,cs,fs)) N0 (false,0,zc,zc)=some (dp cs b)/\IsB n cs (fun _ _=>True) b:=by
 have h2:=h.len;have hF:=(cI h.net).2.2;have inner:∀(i:Nat)(x:aD)(hi:cs[i]?=some x)(b:Option (Nat×Nat)),IsB n cs (fun j l=>j<i\/l<i) b->∃b',bz (M_x n (true,cs,fs) ((dp cs b).1,(i:Int),(dp cs b).2.1,(dp cs b).2.2) x) N0 ((dp cs b).1,0,(dp cs b).2.1,(dp cs b).2.2)=some (dp cs b')/\IsB n cs (fun j l=>j<i+1\/l<i+1) b':=by
  intro i x hci b hb;have hi:=(List.getElem?_eq_some_iff.1 hci).1;have wi1:IntKind.wrap .i64 ((i:Int)+1)=((i+1:Nat):Int):=by rw[aH (by omega) (by omega)];rfl
  obtain⟨o,o1,o2⟩:=bw (f:=M_x n (true,cs,fs) ((dp cs b).1,(i:Int),(dp cs b).2.1,(dp cs b).2.2) x) (fun t=>∃(k:Nat)(b':Option (Nat×Nat)),t=((dp cs b').1,(k:Int),(dp cs b').2.1,(dp cs b').2.2)/\k<=cs.length-(i+1)/\IsB n cs (SI i (i+1+k)) b') (fun t=>cs.length-(i+1)-t.2.1.toNat)
   (fun o=>∃b',o=dp cs b'/\IsB n cs (fun j l=>j<i+1\/l<i+1) b') (fun t⟨k,b',e,hk,hB⟩=>by
   subst e;unfold M_x;simp only[wi1,Int.toNat_natCast];by_cases hkl:k<cs.length-(i+1)
   ·left;have hck:cs[i+1+k]?=some (cs[i+1+k]'(by omega)):=List.getElem?_eq_getElem _;generalize cs[i+1+k]'(by omega)=y at hck;have e1:decide ((k:Int)<((cs.length-(i+1):Nat):Int))=true:=by simp;omega
    have hx:=fW h hci;have hy:=fW h hck;obtain⟨fx1,fx2⟩:=nZ h hci;obtain⟨fy1,fy2⟩:=nZ h hck;have hcx:cN cs i=cst x:=by unfold cN;rw[hci]
    have hcy:cN cs (i+1+k)=cst y:=by unfold cN;rw[hck]
    have hap:apN n cs i (i+1+k)=apP n x.route.Fibers y.route.Fibers:=by unfold apN;rw[hci,hck]
    have hap2:apN n cs (i+1+k) i=apP n x.route.Fibers y.route.Fibers:=by unfold apN;rw[hci,hck];exact zk fy2 fx2
    have wk:IntKind.wrap .i64 ((k:Int)+1)=((k+1:Nat):Int):=by rw[aH (by omega) (by omega)];rfl
    have hbb:∀q,b'=some q->q.1<cs.length/\q.2<cs.length:=fun q hq=>by subst hq;exact⟨hB.2.1.hj,hB.2.1.hl⟩
    simp only[e1,cond_true];rw[aY (by omega),Option.bind_some,hck,Option.bind_some,lC n x.route.Fibers y.route.Fibers h.net (VI h hci) (by omega) fx2 fy2,Option.bind_some];simp only[wk];cases ha:apP n x.route.Fibers y.route.Fibers with
    | false =>
      simp only[Bool.not_false,cond_true];refine⟨_,rfl,⟨k+1,b',rfl,by omega,fI hB (fun j l hs=>by unfold SI at*;omega) fun j l hs ha'=>?_⟩,by simp only;omega⟩;unfold SI at*
      rcases hs with h1|h1|⟨h1,h3⟩|⟨h1,h3⟩
      ·exact .inl h1
      ·exact .inr (.inl h1)
      ·by_cases c:l=i+1+k
       ·subst h1;subst c;have:=ha'.a;rw[hap,ha] at this;cases this
       ·exact .inr (.inr (.inl ⟨h1,by omega⟩))
      ·by_cases c:j=i+1+k
       ·subst h1;subst c;have:=ha'.a;rw[hap2,ha] at this;cases this
       ·exact .inr (.inr (.inr ⟨h1,by omega⟩))
    | true =>
      simp only[Bool.not_true,cond_false];obtain⟨f,g,u,v,hu,hv,hfg,hal,hS⟩:∃(f g:Nat)(u v:aD),cs[f]?=some u/\cs[g]?=some v/\((M_l y).bind fun rZ14=>(M_l x).bind fun rZ15=>cond (decide (rZ14<rZ15)) (some (y,x)) (some (x,y)):Option (aD×aD))=some (u,v)/\Al n cs f g/\∀j l,Al n cs j l->(SI i (i+1+(k+1)) j l↔SI i (i+1+k) j l\/(j=f/\l=g)):=by
       rw[kb h hci,kb h hck];simp only[Option.bind_some];by_cases c:cst y<cst x
       ·refine⟨i+1+k,i,y,x,hck,hci,by rw[decide_eq_true c];rfl,⟨by omega,hi,by omega,by rw[hcx,hcy];exact .inl c,by rw[hap2];exact ha⟩,fun j l ha'=>?_⟩;unfold SI;constructor
        ·rintro(h1|h1|⟨h1,h3⟩|⟨h1,h3⟩)
         ·exact .inl (.inl h1)
         ·exact .inl (.inr (.inl h1))
         ·by_cases c2:l=i+1+k
          ·exfalso;subst h1;subst c2;have:=ha'.c;rw[hcx,hcy] at this;omega
          ·exact .inl (.inr (.inr (.inl ⟨h1,by omega⟩)))
         ·by_cases c2:j=i+1+k
          ·exact .inr ⟨c2,h1⟩
          ·exact .inl (.inr (.inr (.inr ⟨h1,by omega⟩)))
        ·omega
       ·refine⟨i,i+1+k,x,y,hci,hck,by rw[decide_eq_false c];rfl,⟨hi,by omega,by omega,by rw[hcx,hcy];omega,by rw[hap];exact ha⟩,fun j l ha'=>?_⟩;unfold SI;constructor
        ·rintro(h1|h1|⟨h1,h3⟩|⟨h1,h3⟩)
         ·exact .inl (.inl h1)
         ·exact .inl (.inr (.inl h1))
         ·by_cases c2:l=i+1+k
          ·exact .inr ⟨h1,c2⟩
          ·exact .inl (.inr (.inr (.inl ⟨h1,by omega⟩)))
         ·by_cases c2:j=i+1+k
          ·exfalso;subst h1;subst c2;have:=ha'.c;rw[hcx,hcy] at this;omega
          ·exact .inl (.inr (.inr (.inr ⟨h1,by omega⟩)))
        ·omega
      rw[hfg,Option.bind_some];have hst:=EI h hu hv b' hbb;have hres:∀(K:Option ((Bool×Int×aD×aD)⊕(Bool×aD×aD)))(z:Bool)(E:Option Bool),E=some z->K=E.bind (fun oZ40=>cond (oZ40) (some (.inl (true,((k+1:Nat):Int),u,v))) (some (.inl ((dp cs b').1,((k+1:Nat):Int),(dp cs b').2.1,(dp cs b').2.2))))->K=some (.inl (if z then(true,((k+1:Nat):Int),u,v) else((dp cs b').1,((k+1:Nat):Int),(dp cs b').2.1,(dp cs b').2.2))):=fun K z E hE hK=>by
       rw[hK,hE];cases z<;>rfl
      refine⟨_,hres _ _ _ hst ?_,?_,?_⟩
      ·simp only[Option.bind_assoc,bnd]
      ·have hatu:atC cs f=u:=by unfold atC;rw[hu];rfl
       have hatv:atC cs g=v:=by unfold atC;rw[hv];rfl
       have hS':∀j l,Al n cs j l->(SI i (i+1+(k+1)) j l↔SI i (i+1+k) j l\/(j=f/\l=g)):=hS;cases b' with
       | none =>
         exact⟨k+1,some (f,g),by simp only[if_true,dp,hatu,hatv],by omega,nX hB hal hS' fun q hq=>by cases hq⟩
       | some q =>
         by_cases c:kv cs f g q.1 q.2
         ·exact⟨k+1,some (f,g),by simp only[decide_eq_true c,if_true,dp,hatu,hatv],by omega,nX hB hal hS' fun q' hq'=>by cases hq';exact c⟩
         ·exact⟨k+1,some q,by simp only[decide_eq_false c,Bool.false_eq_true,if_false],by omega,wc hB hS' c⟩
      ·have hm:∀z:Bool,cs.length-(i+1)-((if z then(true,((k+1:Nat):Int),u,v) else((dp cs b').1,((k+1:Nat):Int),(dp cs b').2.1,(dp cs b').2.2)):Bool×Int×aD×aD).2.1.toNat<cs.length-(i+1)-((k:Int)).toNat:=fun z=>by
        cases z
        ·simp only[Bool.false_eq_true,if_false];omega
        ·simp only[if_true];omega
       exact hm _
   ·right;have:k=cs.length-(i+1):=by omega
    subst this;have e1:decide (((cs.length-(i+1):Nat):Int)<((cs.length-(i+1):Nat):Int))=false:=by simp
    simp only[e1,cond_false];refine⟨_,rfl,b',rfl,fI hB (fun j l hs=>by unfold SI at hs;omega) fun j l hs ha=>?_⟩;have q1:=ha.hj;have q2:=ha.hl;have q3:=ha.ne;unfold SI;omega) N0 ((dp cs b).1,0,(dp cs b).2.1,(dp cs b).2.2) ⟨0,b,rfl,by omega,fI hb (fun j l hs=>by unfold SI;omega) fun j l hs ha=>by
     have q3:=ha.ne;unfold SI at hs;omega⟩ (cB (by simp only;omega))
  obtain⟨b',e,hB⟩:=o2;exact⟨b',by rw[o1,e],hB⟩
 obtain⟨o,o1,o2⟩:=bw (f:=M_w n (true,cs,fs)) (fun t=>∃(i:Nat)(b:Option (Nat×Nat)),t=((dp cs b).1,(i:Int),(dp cs b).2.1,(dp cs b).2.2)/\i<=cs.length/\IsB n cs (fun j l=>j<i\/l<i) b) (fun t=>cs.length-t.2.1.toNat)
  (fun o=>∃b,o=dp cs b/\IsB n cs (fun _ _=>True) b) (fun t⟨i,b,e,hi,hB⟩=>by
  subst e;unfold M_w;by_cases hil:i<cs.length
  ·left;have hci:cs[i]?=some cs[i]:=List.getElem?_eq_getElem hil;have e1:decide ((i:Int)<(cs.length:Int))=true:=by simp;omega
   have wi1:IntKind.wrap .i64 ((i:Int)+1)=((i+1:Nat):Int):=by rw[aH (by omega) (by omega)];rfl
   obtain⟨b',c1,c2⟩:=inner i cs[i] hci b hB;simp only[e1,cond_true,wi1,Int.toNat_natCast];rw[aY (by omega),Option.bind_some,hci,Option.bind_some,aY ⟨by omega,trivial,by omega,trivial⟩,Option.bind_some,c1];simp only[Option.bind_some];exact⟨_,rfl,⟨i+1,b',rfl,by omega,c2⟩,by simp only;omega⟩
  ·right;have:i=cs.length:=by omega
   subst this;have e1:decide ((cs.length:Int)<(cs.length:Int))=false:=by simp
   simp only[e1,cond_false];exact⟨_,rfl,b,rfl,fI hB (fun j l hs=>trivial) fun j l _ ha=>.inl ha.hj⟩) N0 (false,0,zc,zc) ⟨0,none,rfl,by omega,fun j l hs=>by omega⟩ (cB (by simp only;omega))
 obtain⟨b,e,hB⟩:=o2;exact⟨b,by rw[o1,e],hB⟩
end Vs

namespace Vs
open Go
theorem DV{nodes:List ByteArray}{fs:List aA}{K:Nat}(hK:1<=K)(hK2:K<=20){c:ax}{m:Nat}(h:bB c m)(hm:m<=1000000000):∃d c',Ks 0 K c nodes fs=some (d,c',nodes,fs)/\bB c' (m+20):=by
 unfold Ks;obtain⟨x1,c1,a1,a2,a3,a4⟩:=bG (K:Int) h (by omega);rw[a1,Option.bind_some];obtain⟨x2,c2,b1,b2,b3,b4⟩:=bG (IntKind.wrap .i64 ((K:Int)-1)) a4 (by omega);simp only[b1,Option.bind_some,bnd];rw[aY (by omega),Option.bind_some];obtain⟨x3,c3,d1,d2,d3⟩:=dx [10,20,40,50,90,120] b4 (by omega) (by simp);simp only[d1,Option.bind_some];obtain⟨x4,c4,e1,e2,e3,e4⟩:=bG 3 d3 (by omega);simp only[e1,Option.bind_some];obtain⟨x5,c5,f1,f2,f3,f4⟩:=bG 48 e4 (by omega);simp only[f1,Option.bind_some];cases x5==0 with
 | true =>
   obtain⟨x6,c6,g1,g2,g3,g4⟩:=bG 10 f4 (by omega);simp only[cond_true,g1,Option.bind_some];exact⟨_,_,rfl,g4.up (by omega)⟩
 | false =>
   rw[cond_false];cases x5==1 with
   | true =>
     obtain⟨x6,c6,g1,g2,g3⟩:=dx [0,1,1000,1001] f4 (by omega) (by simp);simp only[cond_true,g1,Option.bind_some];exact⟨_,_,rfl,g3.up (by omega)⟩
   | false =>
     rw[cond_false];cases x5==2 with
     | true =>
       obtain⟨x6,c6,g1,g2,g3⟩:=dx [-1,3] f4 (by omega) (by simp);simp only[cond_true,g1,Option.bind_some];exact⟨_,_,rfl,g3.up (by omega)⟩
     |false=>exact⟨_,_,rfl,f4.up (by omega)⟩
theorem Ak{α:Type}(xs:List α)(a k:Nat):(dy xs a k).length<=xs.length/\(dy xs a k).length<=k:=by
 unfold dy;split
 ·rename_i e;omega
 ·simp;omega
theorem Ge{c:ax}{m:Nat}(st ln:Nat)(fl:List az)(h4:ln<=4)(hfl:fl.length<=4)(h:bB c m)(hm:m<=1000000000):∃r,bz Dv N0 (st,ln,0,fl,c)=some r/\r.2.2.1.length<=20/\bB r.2.2.2 (m+40):=by
 obtain⟨b,b1,b2⟩:=bw (f:=Dv) (fun t=>t.2.1<=8/\t.2.2.2.1.length<=9/\bB t.2.2.2.2 (m+2*t.2.1)) (fun t=>10-t.2.1) (fun r=>r.2.2.1.length<=20/\bB r.2.2.2 (m+40)) (fun t⟨i1,i2,i3⟩=>by
  obtain⟨st,ln,k,fl,c⟩:=t;simp only at i1 i2 i3;unfold Dv;obtain⟨x,c2,a1,a2,a3,a4⟩:=bG 2 i3 (by omega);simp only[a1,Option.bind_some];rw[aH (n:=6+x) (by omega) (by omega)];by_cases hc:(ln:Int)<6+x
  ·left;have hs:=Ak fl st ln;simp only[decide_eq_true hc,cond_true,bnd];rw[aY (by omega),Option.bind_some];refine⟨_,rfl,⟨by simp only;omega,by simp;omega,?_⟩,by simp only;omega⟩;simp only;exact a4.up (by omega)
  ·right;simp only[decide_eq_false hc,cond_false];exact⟨_,rfl,by simp only;omega,by simp only;exact a4.up (by omega)⟩) N0 (st,ln,0,fl,c) ⟨by simp only;omega,by simp only;omega,by simp only;exact h.up (by omega)⟩ (cB (by simp only;omega))
 exact⟨b,b1,b2⟩
theorem wH{c:ax}{m:Nat}(h:bB c m)(hm:m<=100000000):∃st ln fl c',Gw c=some (st,ln,fl,c')/\fl.length<=20/\bB c' (m+100):=by
 unfold Gw;obtain⟨x1,c1,a1,a2,a3,a4⟩:=bG 4 h (by omega);simp only[bnd,a1,Option.bind_some];rw[aH (n:=1+x1) (by omega) (by omega)];obtain⟨y,hy⟩:=Int.eq_ofNat_of_zero_le a2;subst hy;have e1:Int.toNat (1+(y:Int))=y+1:=by omega
 rw[e1,aY ⟨trivial,by omega,trivial,by omega⟩,Option.bind_some];obtain⟨b,c2,b1,b2⟩:=AZ 3 a4 (by omega);simp only[b1,Option.bind_some];obtain⟨st,ln,hE,h1,h2⟩:∃st ln,(cond b (cond (decide (1<(((y+1):Nat):Int))) ((grd (0<=1/\True/\Int.toNat 1<=(y+1)/\True)).bind fun _=>some ((Int.toNat 1),((y+1)-(Int.toNat 1)),c2)) (some (0,(y+1),c2))) (some (0,(y+1),c2)):Option (Nat×Nat×ax))=some (st,ln,c2)/\1<=ln/\st+ln<=4:=by
  cases b with
  |false=>exact⟨0,y+1,rfl,by omega,by omega⟩
  | true =>
    by_cases c3:1<(((y+1):Nat):Int)
    ·rw[cond_true,decide_eq_true c3,cond_true,aY ⟨by omega,trivial,by simp,trivial⟩];exact⟨1,y,rfl,by omega,by omega⟩
    ·rw[cond_true,decide_eq_false c3];exact⟨0,y+1,rfl,by omega,by omega⟩
 rw[hE];simp only[Option.bind_some];obtain⟨x2,c4,d1,d2,d3,d4⟩:=bG (ln:Int) b2 (by omega);simp only[d1,Option.bind_some];rw[aY (by omega),Option.bind_some];obtain⟨z,hz⟩:=Int.eq_ofNat_of_zero_le d2;subst hz;rw[Int.toNat_natCast,List.getElem?_eq_getElem (show st+z<[(⟨3000,10⟩:az),⟨1200,20⟩,⟨600,40⟩,⟨250,80⟩].length by simp only[List.length_cons,List.length_nil];omega)];simp only[Option.bind_some];obtain⟨x3,c5,f1,f2,f3,f4⟩:=bG 24 d4 (by omega);simp only[f1,Option.bind_some];cases x3==0 with
 | true =>
   obtain⟨x6,c6,g1,g2,g3⟩:=dx [0,20000,20001,250] f4 (by omega) (by simp);simp only[cond_true,g1,Option.bind_some];exact⟨_,_,_,_,rfl,by simp,g3.up (by omega)⟩
 | false =>
   rw[cond_false];cases x3==1 with
   | true =>
     obtain⟨x6,c6,g1,g2,g3⟩:=dx [0,1000,1001,10] f4 (by omega) (by simp);simp only[cond_true,g1,Option.bind_some];exact⟨_,_,_,_,rfl,by simp,g3.up (by omega)⟩
   | false =>
     rw[cond_false];cases x3==2 with
     |true=>exact⟨_,_,_,_,rfl,by simp,f4.up (by omega)⟩
     | false =>
       rw[cond_false];cases x3==3 with
       | true =>
         obtain⟨r,r1,r2,r3⟩:=Ge st ln [⟨3000,10⟩,⟨1200,20⟩,⟨600,40⟩,⟨250,80⟩] (by omega) (by simp) f4 (by omega);simp only[cond_true,r1,Option.bind_some];exact⟨_,_,_,_,rfl,r2,r3.up (by omega)⟩
       |false=>exact⟨_,_,_,_,rfl,by simp,f4.up (by omega)⟩
theorem Br{code:List Int}(h1:∀x∈code,0<=x/\x<=255)(h2:code.length<=65536):∃(n:ae)(fs:List az)(d:aK),MO code=some (n,fs,d)/\bJ n<=1048576/\fs.length<=20:=by
 have h0:bB (⟨code,0,0⟩:ax) 0:=⟨h1,h2,by simp,by simp⟩;obtain⟨K,nodes,fs,c1,a1,a2,a3⟩:=lj h0 (by omega);obtain⟨st,ln,fl,c2,b1,b2,b3⟩:=wH a3 (by omega);obtain⟨d,c3,d1,d2⟩:=DV (nodes:=nodes) (fs:=fs) a2.k1 (by have:=a2.k;have:=a2.n;omega) b3 (by omega);unfold MO NP;rw[a1,Option.bind_some];simp only[b1,Option.bind_some,d1,bnd,dL,mE _ _ a2.k];exact⟨_,_,_,rfl,qt (by have:=a2.k;have:=a2.n;omega) a2.z (by have:=a2.f;omega),by have:=(Ak fl st ln).1;omega⟩
theorem Co{code:List Int}(h1:∀x∈code,0<=x/\x<=255)(h2:code.length<=65536):∃(n:ae)(a b:aj),Kd code=some (n,a,b)/\bJ n<=1048576/\SvL a/\SvL b:=by
 have h0:bB (⟨code,0,0⟩:ax) 0:=⟨h1,h2,by simp,by simp⟩;obtain⟨n,L,c1,a1,a2,a3⟩:=jN h0 (by omega);unfold Kd;rw[a1,Option.bind_some];obtain⟨r,r1,n',L',c',re,r2,r3⟩:=bw (f:=FW) (fun t=>∃(k:Nat)(n:ae)(L:List aj)(c:ax),t=(0,L.length,(k:Int),n,L,c)/\k<=4/\DH n L/\bB c (2000*(k+1))) (fun t=>4-t.2.2.1.toNat) (fun r=>∃(n:ae)(L:List aj)(c:ax),r=(0,L.length,n,L,c)/\DH n L/\bB c 20000) (fun t⟨k,n,L,c,e,hk,hS,hc⟩=>by
  subst e;unfold FW;by_cases hb:k<4/\L.length<2
  ·left;have e1:decide ((k:Int)<4)=true:=by simp;omega
   have e2:decide ((L.length:Int)<2)=true:=by simp;omega
   obtain⟨n2,L2,c2,q1,q2,q3⟩:=jN hc (by omega);simp only[e1,e2,cond_true,Option.bind_some,q1];refine⟨_,rfl,⟨k+1,n2,L2,c2,by rw[aH (by omega) (by omega)];rfl,by omega,q2,q3.up (by omega)⟩,?_⟩;simp only;rw[aH (by omega) (by omega)];omega
  ·right;have e1:(cond (decide ((k:Int)<4)) (some (decide ((L.length:Int)<2))) (some false):Option Bool)=some false:=by
    by_cases h5:k<4
    ·have:¬L.length<2:=fun h=>hb ⟨h5,h⟩;have e6:decide ((L.length:Int)<2)=false:=by simp;omega
     rw[e6];cases decide ((k:Int)<4)<;>rfl
    ·have:decide ((k:Int)<4)=false:=by simp;omega
     rw[this];rfl
   simp only[e1,Option.bind_some,cond_false];exact⟨_,rfl,n,L,c,rfl,hS,hc.up (by omega)⟩) N0 (0,L.length,0,n,L,c1) ⟨0,n,L,c1,rfl,by omega,a2,a3.up (by omega)⟩ (cB (by simp))
 simp only[r1,re,Option.bind_some];obtain⟨hz,_,hL,hS⟩:=r2;by_cases h2:(L'.length:Int)<2
 ·rw[decide_eq_true h2];exact⟨_,_,_,rfl,hz,⟨by simp,by simp⟩,⟨by simp,by simp⟩⟩
 ·rw[decide_eq_false h2,cond_false];obtain⟨x,c2,b1,b2,b3,b4⟩:=bG (L'.length:Int) r3 (by omega);obtain⟨x,rfl⟩:=Int.eq_ofNat_of_zero_le b2;have hx:x<L'.length:=by omega
  simp only[b1,Option.bind_some,Int.toNat_natCast,Nat.zero_add,List.getElem?_eq_getElem hx];rw[aY (by omega),Option.bind_some];obtain⟨y,c3,d1,d2,d3,d4⟩:=bG (L'.length:Int) b4 (by omega);obtain⟨y,rfl⟩:=Int.eq_ofNat_of_zero_le d2;have hy:y<L'.length:=by omega
  simp only[d1,Option.bind_some,Int.toNat_natCast,List.getElem?_eq_getElem hy];rw[aY (by omega),Option.bind_some];obtain⟨b,c4,e1,e2⟩:=AZ 3 d4 (by omega);simp only[e1,Option.bind_some];have sx:=hS L'[x] (List.getElem_mem hx);have sy:=hS L'[y] (List.getElem_mem hy);cases b with
  |true=>exact⟨_,_,_,rfl,hz,sx,sy⟩
  |false=>exact⟨_,_,_,rfl,hz,sx,sy⟩
def acP(n:ae)(a b:aj):Bool×Bool:=if br n&&(fd n a&&fd n b) then(gO n a b,true) else(false,false)
theorem KL(n:ae)(a b:aj)(hz:bJ n<=1048576)(ha:SvL a)(hb:SvL b):BC n a b=some (acP n a b):=by
 obtain⟨a1,a2⟩:=ha;obtain⟨b1,b2⟩:=hb;unfold BC acP;rw[ee n hz];simp only[Option.bind_some];cases hn:br n with
 |false=>rfl
 | true =>
   simp only[Bool.not_true,cond_false,mW n a hn (by omega) (by omega),Option.bind_some];cases h1:fd n a with
   |false=>rfl
   | true =>
     simp only[Bool.not_true,cond_false,mW n b hn (by omega) (by omega),Option.bind_some];cases h2:fd n b with
     |false=>rfl
     | true =>
       simp only[Bool.not_true,cond_false,tu n a b hn (iM hn h1) (iM hn h2),Option.bind_some];rfl
theorem TB(n:ae)(a b:aj)(hz:bJ n<=1048576)(ha:SvL a)(hb:SvL b):Js n a b=some (acP n a b):=by
 obtain⟨a1,a2⟩:=ha;obtain⟨b1,b2⟩:=hb;unfold Js acP;rw[jQ n hz];simp only[Option.bind_some];cases hn:br n with
 |false=>rfl
 | true =>
   simp only[Bool.not_true,cond_false,jc n a hn hz (by omega) (by omega),Option.bind_some];cases h1:fd n a with
   |false=>rfl
   | true =>
     simp only[Bool.not_true,cond_false,jc n b hn hz (by omega) (by omega),Option.bind_some];cases h2:fd n b with
     |false=>rfl
     | true =>
       simp only[Bool.not_true,cond_false,jh n a b hn (iM hn h1) (iM hn h2),Option.bind_some];rfl
theorem Pb(n:ae)(a b:aj):acP n a b=acP n b a:=by
 unfold acP;rw[Bool.and_comm (fd n b)];cases h:br n&&(fd n a&&fd n b) with
 |false=>rfl
 | true =>
   simp only[Bool.and_eq_true] at h;obtain⟨hn,h1,h2⟩:=h;have ia:=iM hn h1;have ib:=iM hn h2;have e:gO n a b=gO n b a:=by
    unfold gO;rw[jg b.Work b.WorkBlock a.Work,jg b.Work b.WorkBlock a.Spare,jg b.Spare b.SpareBlock a.Work,jg b.Spare b.SpareBlock a.Spare,zk ib.wr.fib ia.wr.fib];cases db a.Work a.WorkBlock b.Work b.WorkBlock<;>cases db a.Work a.WorkBlock b.Spare b.SpareBlock<;>cases db a.Spare a.SpareBlock b.Work b.WorkBlock<;>cases a.Class==2<;>cases b.Class==2<;>rfl
   rw[e]
theorem FO(a:List Int)(hl:a.length<=1048576):Jx a a=some true:=by
 unfold Jx;rw[bne_self_eq_false,cond_false];rw[io (f:=CR a a) a (fun _=>false) (.inr false) (.inl ()) (fun i x hx=>by
  have hlt:=(List.getElem?_eq_some_iff.1 hx).1;have h1:decide ((i:Int)<a.length)=true:=by simp[hlt]
  simp only[CR,h1,cond_true,ba,hx,Option.bind_some,bne_self_eq_false,cond_false];rw[aH (by omega) (by omega)];rfl) (by simp[CR]) (by omega)]
 simp
theorem Rn(r:ah)(h:r.Fibers.length<=1048576):EJ r r=some true:=by
 unfold EJ;rw[beq_self_eq_true,cond_true,FO _ h];rfl
theorem wR(n:ae)(d:aK)(fs:List az)(hz:bJ n<=1048576)(hf:fs.length<=1048576):
 ∃ x y ok, LY n d fs = some (x, y, ok, fs) ∧ tf n 0 fs.length d fs = some (x.route, y.route, ok, fs) ∧ x.route.Fibers.length ≤ 20 ∧ y.route.Fibers.length ≤ 20 ∧
   (ok=true->br n=true/\(fP n x.route).isSome=true/\(fP n y.route).isSome=true/\apP n x.route.Fibers y.route.Fibers=true):=by
 obtain⟨ok,cs,u1,u2,u3⟩:=FC n d fs hz hf;unfold LY tf;rw[u1,u2];simp only[Option.bind_some];cases ok with
 |false=>exact⟨zc,zc,false,rfl,rfl,by simp[zc],by simp[zc],fun h=>by cases h⟩
 | true =>
   have h:=u3 rfl;have hl:=h.len;obtain⟨b,i1,i2⟩:=Pz h fs;obtain⟨b',s1,s2⟩:=Ir h;obtain rfl:=Hd i2 s2;simp only[Bool.not_true,cond_false];have i1':bz (M_w n (true,cs,fs)) N0 (false,0,(⟨⟨0,[]⟩,0⟩:aD),(⟨⟨0,[]⟩,0⟩:aD))=some (dp cs b):=i1;rw[i1',s1];simp only[Option.bind_some];cases b with
   |none=>exact⟨zc,zc,false,rfl,rfl,by simp[zc],by simp[zc],fun h=>by cases h⟩
   | some q =>
     obtain⟨_,hal,_⟩:=i2;have h1:cs[q.1]?=some (cs[q.1]'hal.hj):=List.getElem?_eq_getElem _;have h2:cs[q.2]?=some (cs[q.2]'hal.hl):=List.getElem?_eq_getElem _;generalize cs[q.1]'hal.hj=x at h1;generalize cs[q.2]'hal.hl=y at h2;have ha:=hal.a;unfold apN at ha;rw[h1,h2] at ha;have o1:=h.ok x (List.mem_of_getElem? h1);have o2:=h.ok y (List.mem_of_getElem? h2);have m2:(cs.map (·.route))[q.1]?=some x.route:=by rw[List.getElem?_map,h1];rfl
     have m4:(cs.map (·.route))[q.2]?=some y.route:=by rw[List.getElem?_map,h2];rfl
     have b1:=hal.hj;have b2:=hal.hl;refine⟨x,y,true,?_,?_,o1.1.b.1,o2.1.b.1,fun _=>⟨h.net,o1.1.v,o2.1.v,ha⟩⟩
     ·simp only[dp,atC,h1,h2,Option.getD_some]
     ·have e1:decide ((dZ cs (some q)).1<0)=false:=decide_eq_false (show¬(q.1:Int)<0 by omega);rw[e1,cond_false];show((grd (0<=(q.1:Int)/\(q.1:Int)<((cs.map (·.route)).length:Int))).bind fun _=>((cs.map (·.route))[Int.toNat (q.1:Int)]?).bind fun yZ6=>(grd (0<=(q.2:Int)/\(q.2:Int)<((cs.map (·.route)).length:Int))).bind fun _=>((cs.map (·.route))[Int.toNat (q.2:Int)]?).bind fun yZ8=>some (yZ6,yZ8,true,fs))=_;rw[aY (by rw[List.length_map];omega),Option.bind_some,Int.toNat_natCast,m2,Option.bind_some,aY (by rw[List.length_map];omega),Option.bind_some,Int.toNat_natCast,m4];rfl
theorem oI(code:List Int)(o1:code.length<=9223372036854775807/\∀x∈code,0<=x/\x<=255):QT code=some true:=by
 unfold QT Pf;by_cases hl:(65536:Int)<(code.length:Int)
 ·simp[hl]
 simp only[decide_eq_false hl,Option.bind_some,cond_false];obtain⟨n,a,b,d1,d2,d3,d4⟩:=Co o1.2 (by omega);simp only[d1,Option.bind_some,KL n a b d2 d3 d4,KL n b a d2 d4 d3,TB n a b d2 d3 d4,Pb n b a,beq_self_eq_true,Bool.not_true,cond_false];obtain⟨m,fs,d,e1,e2,e3⟩:=Br o1.2 (by omega);obtain⟨x,y,ok,f1,f2,f3,f4,f5⟩:=wR m d fs e2 (by omega);unfold Py;simp only[e1,Option.bind_some,f1,f2,beq_self_eq_true,Bool.not_true,cond_false,Rn x.route (by omega),Rn y.route (by omega)];have hx:x.route.Fibers.length<=1048576:=by omega
 have hy:y.route.Fibers.length<=1048576:=by omega
 unfold Om Qx;rw[gq m x.route e2 hx];simp only[Option.bind_some];cases ok with
 | true =>
   obtain⟨g1,g2,g3,g4⟩:=f5 rfl;have v1:ir m x.route=true:=by unfold ir;rw[g1,g2];rfl
   have v2:ir m y.route=true:=by unfold ir;rw[g1,g3];rfl
   obtain⟨l1,hl1⟩:=Option.isSome_iff_exists.1 g2;obtain⟨l2,hl2⟩:=Option.isSome_iff_exists.1 g3;have r1:=(gE g1 hl1).1;have r2:=(gE g1 hl2).1;simp only[v1,cond_true,gq m y.route e2 hy,v2,Option.bind_some,Bool.not_true,cond_false,lC m x.route.Fibers y.route.Fibers g1 r1.len (by omega) r1.fib r2.fib,g4]
 | false =>
   have hr:∀r:ah,ir m r=true->br m=true/\Aj m r:=fun r h=>by
    unfold ir at h;obtain⟨h1,h2⟩:=Bool.and_eq_true_iff.1 h;obtain⟨l,hl⟩:=Option.isSome_iff_exists.1 h2;exact⟨h1,(gE h1 hl).1⟩
   cases v1:ir m x.route with
   |false=>rfl
   | true =>
     simp only[cond_true,gq m y.route e2 hy,Option.bind_some];cases v2:ir m y.route with
     |false=>rfl
     | true =>
       obtain⟨g1,r1⟩:=hr _ v1;obtain⟨_,r2⟩:=hr _ v2;simp only[Bool.not_true,cond_false,lC m x.route.Fibers y.route.Fibers g1 r1.len (by omega) r1.fib r2.fib,Option.bind_some];rfl
end Vs



